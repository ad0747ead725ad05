/- Plain facts on a call's bytes: what the writer writes the reader takes apart again. -/
import Derived.Test.YthdkmohgphbdeaaPImRx3
import Derived.Test.YthdkmohgphbdeaaPImRx2
namespace Go.Proofs.Ythdkmohgphbdeaa.PImR
open Go.RowKit Go.Proofs.YthdkmohgphbdeaaW.PrintWords Go.Proofs.YthdkmohgphbdeaaW.PrintLast Go.Proofs.YthdkmohgphbdeaaW.Mine
set_option linter.unusedVariables false
abbrev Bytes (l : List Int) : Prop := ∀ x ∈ l, 0 ≤ x ∧ x ≤ 255
abbrev val := image_reader_number.val
theorem bytesOf_strOf (l : List Int) (h : Bytes l) : bytesOf (strOfNums l) = l := by
  unfold bytesOf
  rw [strOfNums_data, List.map_map]
  conv => rhs; rw [← List.map_id l]
  apply List.map_congr_left
  intro x hx
  obtain ⟨h0, h1⟩ := h x hx
  simp
  omega
theorem bytes_bytesOf (s : ByteArray) : Bytes (bytesOf s) := by
  intro x hx
  unfold bytesOf at hx
  obtain ⟨b, _, rfl⟩ := List.mem_map.1 hx
  have := b.toNat_lt
  omega
theorem strOf_bytesOf (s : ByteArray) : strOfNums (bytesOf s) = s := by
  apply ByteArray.ext
  apply Array.ext'
  rw [strOfNums_data]
  unfold bytesOf
  rw [List.map_map]
  conv => rhs; rw [← List.map_id s.data.toList]
  apply List.map_congr_left
  intro x _
  simp
theorem strOf_size (l : List Int) : (strOfNums l).size = l.length := strOfNums_size l
theorem bytesOf_len (s : ByteArray) : (bytesOf s).length = s.size := bytesOf_length s
theorem strOf_inj {a b : List Int} (ha : Bytes a) (hb : Bytes b) (h : (strOfNums a).toList = (strOfNums b).toList) : a = b := by
  have h1 : strOfNums a = strOfNums b := by
    apply ByteArray.ext
    apply Array.ext'
    rw [← ByteArray.toList_eq, ← ByteArray.toList_eq]; exact h
  rw [← bytesOf_strOf a ha, ← bytesOf_strOf b hb, h1]
theorem val_one (x : Int) (l : List Int) : val ((x :: l).take 1) = x := by simp [val, image_reader_number.val]
theorem val_be4 (u : Int) (h0 : 0 ≤ u) (h1 : u < 4294967296) (l : List Int) : val ((image_Write.be4 u ++ l).take 4) = u := by
  simp [val, image_reader_number.val, image_Write.be4]
  omega
theorem val_be8 (u : Int) (h0 : 0 ≤ u) (h1 : u ≤ 18446744073709551615) (l : List Int) : val ((image_Write.be8 u ++ l).take 8) = u := by
  simp [val, image_reader_number.val, image_Write.be8]
  omega
theorem be8_val (a b c d e f g h : Int) (ha : 0 ≤ a ∧ a ≤ 255) (hb : 0 ≤ b ∧ b ≤ 255) (hc : 0 ≤ c ∧ c ≤ 255) (hd : 0 ≤ d ∧ d ≤ 255) (he : 0 ≤ e ∧ e ≤ 255) (hf : 0 ≤ f ∧ f ≤ 255) (hg : 0 ≤ g ∧ g ≤ 255) (hh : 0 ≤ h ∧ h ≤ 255) :
    image_Write.be8 (val [a, b, c, d, e, f, g, h]) = [a, b, c, d, e, f, g, h] := by
  simp only [val, image_reader_number.val, image_Write.be8, List.foldl_cons, List.foldl_nil, List.cons.injEq, and_true]
  omega
theorem be4_val (a b c d : Int) (ha : 0 ≤ a ∧ a ≤ 255) (hb : 0 ≤ b ∧ b ≤ 255) (hc : 0 ≤ c ∧ c ≤ 255) (hd : 0 ≤ d ∧ d ≤ 255) : image_Write.be4 (val [a, b, c, d]) = [a, b, c, d] := by
  simp only [val, image_reader_number.val, image_Write.be4, List.foldl_cons, List.foldl_nil, List.cons.injEq, and_true]
  omega
/-- a word of so many bytes' length is whole -/
def okW (m : List Int) (k : Nat) : Prop := k ≤ m.length ∧ val (m.take k) ≤ (m.length : Int) - k
theorem val0 (l : List Int) (h : Bytes l) : 0 ≤ val l := (image_reader_number.val_bd l h).1
theorem bytes_take {l : List Int} (h : Bytes l) (k : Nat) : Bytes (l.take k) := fun x hx => h x (List.mem_of_mem_take hx)
theorem bytes_drop {l : List Int} (h : Bytes l) (k : Nat) : Bytes (l.drop k) := fun x hx => h x (List.mem_of_mem_drop hx)
theorem word_split (m : List Int) (k : Nat) (hm : Bytes m) (h : okW m k) : (image_Read.sN m k).size = (val (m.take k)).toNat ∧ m.drop k = bytesOf (image_Read.sN m k) ++ image_Read.rN m k := by
  obtain ⟨h1, h2⟩ := h
  have h0 := val0 _ (bytes_take hm k)
  refine ⟨?_, ?_⟩
  · unfold image_Read.sN; rw [strOf_size, List.length_take, List.length_drop]; unfold val at *; omega
  · unfold image_Read.sN image_Read.rN
    rw [bytesOf_strOf _ (bytes_take (bytes_drop hm k) _), List.take_append_drop]
theorem split1 (m : List Int) (hm : Bytes m) (h : okW m 1) : m = ([((image_Read.sN m 1).size : Int)] ++ bytesOf (image_Read.sN m 1)) ++ image_Read.rN m 1 ∧ (image_Read.sN m 1).size ≤ 255 := by
  obtain ⟨h1, h2⟩ := word_split m 1 hm h
  match m, h.1 with
  | x :: r, _ =>
    have hx := hm x List.mem_cons_self
    rw [val_one] at h1
    refine ⟨?_, by omega⟩
    rw [h1, List.append_assoc, ← h2]
    simp
    omega
theorem split4 (m : List Int) (hm : Bytes m) (h : okW m 4) : m = (image_Write.be4 ((image_Read.sN m 4).size : Int) ++ bytesOf (image_Read.sN m 4)) ++ image_Read.rN m 4 := by
  obtain ⟨h1, h2⟩ := word_split m 4 hm h
  match m, h.1 with
  | a :: b :: c :: d :: r, _ =>
    have hv : val ((a :: b :: c :: d :: r).take 4) = val [a, b, c, d] := rfl
    rw [hv] at h1
    have h0 : 0 ≤ val [a, b, c, d] := val0 _ (fun x hx => hm x (List.mem_of_mem_take (i := 4) hx))
    rw [h1, List.append_assoc, ← h2, Int.toNat_of_nonneg h0, be4_val a b c d (hm a (by simp)) (hm b (by simp)) (hm c (by simp)) (hm d (by simp))]
    rfl
theorem parse1 (s : ByteArray) (hs : s.size ≤ 255) (R : List Int) : okW (([(s.size : Int)] ++ bytesOf s) ++ R) 1 ∧ image_Read.sN (([(s.size : Int)] ++ bytesOf s) ++ R) 1 = s ∧ image_Read.rN (([(s.size : Int)] ++ bytesOf s) ++ R) 1 = R := by
  have e : ([(s.size : Int)] ++ bytesOf s) ++ R = (s.size : Int) :: (bytesOf s ++ R) := by simp
  rw [e]
  unfold okW image_Read.sN image_Read.rN
  have hv : image_reader_number.val (((s.size : Int) :: (bytesOf s ++ R)).take 1) = s.size := val_one _ _
  refine ⟨⟨by simp, ?_⟩, ?_, ?_⟩
  · show image_reader_number.val _ ≤ _
    rw [hv]; simp only [List.length_cons, List.length_append, bytesOf_len]; omega
  · rw [hv, List.drop_succ_cons, List.drop_zero, Int.toNat_natCast, List.take_left' (bytesOf_len s), strOf_bytesOf]
  · rw [hv, List.drop_succ_cons, List.drop_zero, Int.toNat_natCast, List.drop_left' (bytesOf_len s)]
theorem parse4 (s : ByteArray) (hs : s.size ≤ 65536) (R : List Int) : okW ((image_Write.be4 (s.size : Int) ++ bytesOf s) ++ R) 4 ∧ image_Read.sN ((image_Write.be4 (s.size : Int) ++ bytesOf s) ++ R) 4 = s ∧ image_Read.rN ((image_Write.be4 (s.size : Int) ++ bytesOf s) ++ R) 4 = R := by
  rw [List.append_assoc]
  unfold okW image_Read.sN image_Read.rN
  have hv : image_reader_number.val ((image_Write.be4 (s.size : Int) ++ (bytesOf s ++ R)).take 4) = s.size := val_be4 _ (by omega) (by omega) _
  have hd : (image_Write.be4 (s.size : Int) ++ (bytesOf s ++ R)).drop 4 = bytesOf s ++ R := List.drop_left' rfl
  refine ⟨⟨by simp [image_Write.be4], ?_⟩, ?_, ?_⟩
  · show image_reader_number.val _ ≤ _
    rw [hv]; simp only [List.length_append, bytesOf_len, image_Write.be4, List.length_cons, List.length_nil]; omega
  · rw [hv, hd, Int.toNat_natCast, List.take_left' (bytesOf_len s), strOf_bytesOf]
  · rw [hv, hd, Int.toNat_natCast, List.drop_left' (bytesOf_len s)]
theorem wrap_back (v : Int) (h0 : 0 ≤ v) (h1 : v ≤ 18446744073709551615) : IntKind.u64.wrap (wrap64 v) = v := by
  simp only [IntKind.wrap, IntKind.signed, IntKind.bits, wrap64]
  simp
  omega
theorem wrap_forth (n : Int) (h : (Lit.int .i64 n).wf = true) : wrap64 (IntKind.u64.wrap n) = n := by
  simp [Lit.wf, IntKind.min, IntKind.max, IntKind.signed, IntKind.bits] at h
  simp only [IntKind.wrap, IntKind.signed, IntKind.bits, wrap64]
  simp
  omega
/-- may be written -/
def good (op : Int) (sA sB sC : ByteArray) (sT : ByteArray) : Prop := 1 ≤ op ∧ op ≤ 255 ∧ sA.size ≤ 255 ∧ sB.size ≤ 255 ∧ sC.size ≤ 255 ∧ sT.size ≤ 65536
theorem write_good {op : Int} {sA sB sC : ByteArray} (n : Int) {sT : ByteArray} (h : good op sA sB sC sT) : image_Write.f op sA sB sC n sT = some (image_Write.all op sA sB sC n sT, 0) := by
  obtain ⟨h1, h2, h3, h4, h5, h6⟩ := h
  unfold image_Write.f
  rw [if_neg (by omega), if_neg (by omega), if_neg (by unfold mx3; omega), if_neg (by omega)]
theorem write_cases (op : Int) (sA sB sC : ByteArray) (n : Int) (sT : ByteArray) : good op sA sB sC sT ∨ ∃ e, image_Write.f op sA sB sC n sT = some ([], e) ∧ e ≠ 0 := by
  unfold image_Write.f good
  by_cases h1 : op < 1
  · right; rw [if_pos h1]; exact ⟨1, rfl, by decide⟩
  by_cases h2 : op > 255
  · right; rw [if_neg h1, if_pos h2]; exact ⟨1, rfl, by decide⟩
  by_cases h3 : mx3 (sA.size : Int) (sB.size : Int) (sC.size : Int) > 255
  · right; rw [if_neg h1, if_neg h2, if_pos h3]; exact ⟨2, rfl, by decide⟩
  by_cases h4 : (sT.size : Int) > 65536
  · right; rw [if_neg h1, if_neg h2, if_neg h3, if_pos h4]; exact ⟨2, rfl, by decide⟩
  left
  unfold mx3 at h3
  omega
theorem all_form (op : Int) (sA sB sC : ByteArray) (n : Int) (sT : ByteArray) (R : List Int) : image_Write.all op sA sB sC n sT ++ R = op :: (image_Write.be8 (IntKind.u64.wrap n) ++ (([(sA.size : Int)] ++ bytesOf sA) ++ (([(sB.size : Int)] ++ bytesOf sB) ++ (([(sC.size : Int)] ++ bytesOf sC) ++ ((image_Write.be4 (sT.size : Int) ++ bytesOf sT) ++ R))))) := by
  simp [image_Write.all, image_Write.pre, image_Write.str]
/-- what is read of what was written, whatever is behind it -/
theorem parse_all {op : Int} {sA sB sC : ByteArray} {n : Int} {sT : ByteArray} (h : good op sA sB sC sT) (hn : (Lit.int .i64 n).wf = true) (R l : List Int) (hl : l = image_Write.all op sA sB sC n sT ++ R) :
    image_Read.op l = op ∧ image_Read.num l = n ∧ image_Read.str l 0 = sA ∧ image_Read.str l 1 = sB ∧ image_Read.str l 2 = sC ∧ image_Read.sN (image_Read.rest l 3) 4 = sT ∧ image_Read.rN (image_Read.rest l 3) 4 = R ∧
      9 ≤ l.length ∧ okW (image_Read.rest l 0) 1 ∧ okW (image_Read.rest l 1) 1 ∧ okW (image_Read.rest l 2) 1 ∧ okW (image_Read.rest l 3) 4 := by
  obtain ⟨h1, h2, h3, h4, h5, h6⟩ := h
  rw [all_form] at hl
  have e0 : image_Read.rest l 0 = ([(sA.size : Int)] ++ bytesOf sA) ++ (([(sB.size : Int)] ++ bytesOf sB) ++ (([(sC.size : Int)] ++ bytesOf sC) ++ ((image_Write.be4 (sT.size : Int) ++ bytesOf sT) ++ R))) := by
    rw [hl]; rfl
  obtain ⟨a1, a2, a3⟩ := parse1 sA h3 (([(sB.size : Int)] ++ bytesOf sB) ++ (([(sC.size : Int)] ++ bytesOf sC) ++ ((image_Write.be4 (sT.size : Int) ++ bytesOf sT) ++ R)))
  rw [← e0] at a1 a2 a3
  have e1 : image_Read.rest l 1 = _ := a3
  obtain ⟨b1, b2, b3⟩ := parse1 sB h4 (([(sC.size : Int)] ++ bytesOf sC) ++ ((image_Write.be4 (sT.size : Int) ++ bytesOf sT) ++ R))
  rw [← e1] at b1 b2 b3
  have e2 : image_Read.rest l 2 = _ := b3
  obtain ⟨c1, c2, c3⟩ := parse1 sC h5 ((image_Write.be4 (sT.size : Int) ++ bytesOf sT) ++ R)
  rw [← e2] at c1 c2 c3
  have e3 : image_Read.rest l 3 = _ := c3
  obtain ⟨d1, d2, d3⟩ := parse4 sT h6 R
  rw [← e3] at d1 d2 d3
  refine ⟨?_, ?_, a2, b2, c2, d2, d3, ?_, a1, b1, c1, d1⟩
  · unfold image_Read.op; rw [hl]; exact val_one _ _
  · unfold image_Read.num; rw [hl, List.drop_succ_cons, List.drop_zero]
    have := image_Write.wr64 n
    rw [show image_reader_number.val ((image_Write.be8 (IntKind.u64.wrap n) ++ _).take 8) = IntKind.u64.wrap n from val_be8 _ this.1 this.2 _]
    exact wrap_forth n hn
  · rw [hl]; simp [image_Write.be8]
/-- the bytes are a call's -/
def okL (l : List Int) : Prop := 9 ≤ l.length ∧ image_Read.op l ≠ 0 ∧ okW (image_Read.rest l 0) 1 ∧ okW (image_Read.rest l 1) 1 ∧ okW (image_Read.rest l 2) 1 ∧ okW (image_Read.rest l 3) 4 ∧ image_Read.rN (image_Read.rest l 3) 4 = [] ∧ (image_Read.sN (image_Read.rest l 3) 4).size ≤ 65536
theorem ok_all (l : List Int) (hb : Bytes l) (h : okL l) : good (image_Read.op l) (image_Read.str l 0) (image_Read.str l 1) (image_Read.str l 2) (image_Read.sN (image_Read.rest l 3) 4) ∧
    image_Write.all (image_Read.op l) (image_Read.str l 0) (image_Read.str l 1) (image_Read.str l 2) (image_Read.num l) (image_Read.sN (image_Read.rest l 3) 4) = l := by
  obtain ⟨h1, h2, k0, k1, k2, k3, k4, k5⟩ := h
  have br : ∀ k, Bytes (image_Read.rest l k) := fun k x hx => hb x (image_Read.rest_sub l k x hx)
  obtain ⟨s0, z0⟩ := split1 _ (br 0) k0
  obtain ⟨s1, z1⟩ := split1 _ (br 1) k1
  obtain ⟨s2, z2⟩ := split1 _ (br 2) k2
  have s3 := split4 _ (br 3) k3
  have e1 : image_Read.rN (image_Read.rest l 0) 1 = image_Read.rest l 1 := rfl
  have e2 : image_Read.rN (image_Read.rest l 1) 1 = image_Read.rest l 2 := rfl
  have e3 : image_Read.rN (image_Read.rest l 2) 1 = image_Read.rest l 3 := rfl
  rw [e1] at s0; rw [e2] at s1; rw [e3] at s2; rw [k4] at s3
  have hv1 := image_reader_number.val_bd1 (l.take 1) (bytes_take hb 1) (by rw [List.length_take]; omega)
  refine ⟨⟨by unfold image_Read.op at *; omega, hv1.2, z0, z1, z2, k5⟩, ?_⟩
  have hf := all_form (image_Read.op l) (image_Read.str l 0) (image_Read.str l 1) (image_Read.str l 2) (image_Read.num l) (image_Read.sN (image_Read.rest l 3) 4) []
  rw [List.append_nil] at hf
  rw [hf]
  unfold image_Read.str
  rw [← s3, ← s2, ← s1, ← s0]
  clear s0 s1 s2 s3 k0 k1 k2 k3 k4 k5 hf
  match l, h1 with
  | a0 :: a1 :: a2 :: a3 :: a4 :: a5 :: a6 :: a7 :: a8 :: r, _ =>
    have ho : image_Read.op (a0 :: a1 :: a2 :: a3 :: a4 :: a5 :: a6 :: a7 :: a8 :: r) = a0 := val_one _ _
    have hn : image_Read.num (a0 :: a1 :: a2 :: a3 :: a4 :: a5 :: a6 :: a7 :: a8 :: r) = wrap64 (val [a1, a2, a3, a4, a5, a6, a7, a8]) := rfl
    have hr : image_Read.rest (a0 :: a1 :: a2 :: a3 :: a4 :: a5 :: a6 :: a7 :: a8 :: r) 0 = r := rfl
    rw [ho, hn, hr]
    have hb8 : Bytes [a1, a2, a3, a4, a5, a6, a7, a8] := fun x hx => hb x (List.mem_cons_of_mem _ (List.mem_of_mem_take (i := 8) hx))
    have hv := image_reader_number.val_bd _ hb8
    rw [wrap_back _ hv.1 (by have := hv.2; simp at this; omega), be8_val a1 a2 a3 a4 a5 a6 a7 a8 (hb8 _ (by simp)) (hb8 _ (by simp)) (hb8 _ (by simp)) (hb8 _ (by simp)) (hb8 _ (by simp)) (hb8 _ (by simp)) (hb8 _ (by simp)) (hb8 _ (by simp))]
    rfl
theorem wf_num (l : List Int) : (Lit.int .i64 (image_Read.num l)).wf = true := by
  unfold image_Read.num wrap64
  simp [Lit.wf, IntKind.min, IntKind.max, IntKind.signed, IntKind.bits]
  omega
theorem all_bytes {op : Int} {sA sB sC : ByteArray} {n : Int} {sT : ByteArray} (h : good op sA sB sC sT) : Bytes (image_Write.all op sA sB sC n sT) := by
  obtain ⟨h1, h2, h3, h4, h5, h6⟩ := h
  have e := all_form op sA sB sC n sT []
  rw [List.append_nil, List.append_nil] at e
  intro x hx
  rw [e] at hx
  simp only [List.mem_cons, List.mem_append, List.not_mem_nil, or_false, image_Write.be8, image_Write.be4] at hx
  rcases hx with h | h | (h | h) | (h | h) | (h | h) | h | h
  · omega
  · omega
  · omega
  · exact bytes_bytesOf _ _ h
  · omega
  · exact bytes_bytesOf _ _ h
  · omega
  · exact bytes_bytesOf _ _ h
  · omega
  · exact bytes_bytesOf _ _ h
/-- the call that bytes are, and no error; else none, and the error -/
noncomputable def told (l : List Int) : Int × ByteArray × ByteArray × ByteArray × Int × ByteArray × Int := by
  classical
  exact if okL l then (image_Read.op l, image_Read.str l 0, image_Read.str l 1, image_Read.str l 2, image_Read.num l, image_Read.sN (image_Read.rest l 3) 4, 0) else (0, ⟨#[]⟩, ⟨#[]⟩, ⟨#[]⟩, 0, ⟨#[]⟩, 3)
theorem told_yes {l : List Int} (h : okL l) : told l = (image_Read.op l, image_Read.str l 0, image_Read.str l 1, image_Read.str l 2, image_Read.num l, image_Read.sN (image_Read.rest l 3) 4, 0) := by unfold told; exact if_pos h
theorem told_no {l : List Int} (h : ¬ okL l) : told l = (0, ⟨#[]⟩, ⟨#[]⟩, ⟨#[]⟩, 0, ⟨#[]⟩, 3) := by unfold told; exact if_neg h
theorem ok_of_all {op : Int} {sA sB sC : ByteArray} {n : Int} {sT : ByteArray} (h : good op sA sB sC sT) (hn : (Lit.int .i64 n).wf = true) (l : List Int) (hl : l = image_Write.all op sA sB sC n sT) : okL l := by
  obtain ⟨a1, a2, a3, a4, a5, a6, a7, a8, b0, b1, b2, b3⟩ := parse_all h hn [] l (by rw [hl, List.append_nil])
  refine ⟨a8, ?_, b0, b1, b2, b3, a7, ?_⟩
  · rw [a1]; have := h.1; omega
  · rw [a6]; exact h.2.2.2.2.2
theorem img_read_eq (l : List Int) (hb : Bytes l) (h47 : l.length ≤ 4611686018427387903) : image_Read.f l = some (told l) := by
  unfold image_Read.f
  rw [if_pos ⟨hb, by omega⟩]
  by_cases hok : okL l
  · obtain ⟨hg, ha⟩ := ok_all l hb hok
    rw [write_good _ hg, ha, told_yes hok]
    simp
  · rw [told_no hok]
    rcases write_cases (image_Read.op l) (image_Read.str l 0) (image_Read.str l 1) (image_Read.str l 2) (image_Read.num l) (image_Read.sN (image_Read.rest l 3) 4) with hg | ⟨e, he, hne⟩
    · rw [write_good _ hg]
      simp only [Option.bind_some]
      rw [if_neg]
      rintro ⟨_, h⟩
      exact hok (ok_of_all hg (wf_num l) l (strOf_inj (all_bytes hg) hb h).symm)
    · rw [he]
      simp only [Option.bind_some]
      rw [if_neg (fun h => hne h.1)]
end Go.Proofs.Ythdkmohgphbdeaa.PImR
