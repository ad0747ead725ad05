/- A text written by my program wip/gen/p2.py out of the translation and of my foreign texts; not trusted: Lean checks it. -/
import Derived.Test.YthdkmohgphbdeaaPImRx0
import Derived.Test.YthdkmohgphbdeaaPImRx2
namespace Go.Proofs.Ythdkmohgphbdeaa.PImR
open Go.RowKit Go.Proofs.YthdkmohgphbdeaaW.PrintWords Go.Proofs.YthdkmohgphbdeaaW.PrintLast Go.Proofs.YthdkmohgphbdeaaW.PrintMore
attribute [local go_sem] max2_int min2_int max_two min_two max_three min_three max_four min_four   -- for this text's walks alone
set_option linter.unusedVariables false
set_option linter.unusedSimpArgs false

/-! ### image_Read: function 14 -/
section
open Go
open Go.Proofs.YthdkmohgphbdeaaW.Mine
/-- a text behind its length of k bytes, and what is behind it -/
def image_Read.sN (l : List Int) (k : Nat) : ByteArray := strOfNums ((l.drop k).take (image_reader_number.val (l.take k)).toNat)
def image_Read.rN (l : List Int) (k : Nat) : List Int := (l.drop k).drop (image_reader_number.val (l.take k)).toNat
def image_Read.rest (l : List Int) : Nat → List Int
  | 0 => (l.drop 1).drop 8
  | j + 1 => image_Read.rN (image_Read.rest l j) 1
def image_Read.str (l : List Int) (j : Nat) : ByteArray := image_Read.sN (image_Read.rest l j) 1
def image_Read.op (l : List Int) : Int := image_reader_number.val (l.take 1)
def image_Read.num (l : List Int) : Int := wrap64 (image_reader_number.val ((l.drop 1).take 8))
def image_Read.flds (l : List Int) (k : Nat) : Array Value := #[.int .i64 (image_Read.op l), .string (if 0 < k then image_Read.str l 0 else ⟨#[]⟩), .string (if 1 < k then image_Read.str l 1 else ⟨#[]⟩), .string (if 2 < k then image_Read.str l 2 else ⟨#[]⟩), .int .i64 (image_Read.num l), .string ⟨#[]⟩]
theorem image_Read.rest_sub (l : List Int) : ∀ k, ∀ x ∈ image_Read.rest l k, x ∈ l
  | 0, x, h => List.mem_of_mem_drop (List.mem_of_mem_drop h)
  | k + 1, x, h => image_Read.rest_sub l k x (List.mem_of_mem_drop (List.mem_of_mem_drop h))
theorem image_Read.rest_len (l : List Int) : ∀ k, (image_Read.rest l k).length ≤ l.length
  | 0 => by simp only [image_Read.rest, List.length_drop]; omega
  | k + 1 => by have := image_Read.rest_len l k; simp only [image_Read.rest, image_Read.rN, List.length_drop]; omega
theorem image_Read.flds_set (l : List Int) : ∀ k, k < 3 → (image_Read.flds l k).setIfInBounds (k + 1) (.string (image_Read.str l k)) = image_Read.flds l (k + 1)
  | 0, _ => by simp [image_Read.flds]
  | 1, _ => by simp [image_Read.flds]
  | 2, _ => by simp [image_Read.flds]
theorem image_Read.flds_at (l : List Int) : ∀ k, k < 3 → (image_Read.flds l k)[k + 1]? = some (.string ⟨#[]⟩)
  | 0, _ => by simp [image_Read.flds]
  | 1, _ => by simp [image_Read.flds]
  | 2, _ => by simp [image_Read.flds]
theorem image_Read.index (g : Nat) (w : World) : ∀ k : Nat, k < 3 → (Instr.index 70 (.agg #[.pointer (some ⟨g, 1, none⟩), .pointer (some ⟨g, 2, none⟩), .pointer (some ⟨g, 3, none⟩)]) (.int .i64 (k : Int))).run Try.prog w = .ok (.pointer (some ⟨g, k + 1, none⟩)) w
  | 0, _ => by kernel_rfl
  | 1, _ => by kernel_rfl
  | 2, _ => by kernel_rfl
def image_Read.Post (l : List Int) (r1 : List Int) (r2 : Int) (w : World) (e : Ending) (w' : World) : Prop :=
  if r2 = 0 ∧ (strOfNums r1).toList = (strOfNums l).toList then e = .returned (.tuple #[.agg #[.int .i64 (image_Read.op l), .string (image_Read.str l 0), .string (image_Read.str l 1), .string (image_Read.str l 2), .int .i64 (image_Read.num l), .string (image_Read.sN (image_Read.rest l 3) 4)], .int .i64 0]) ∧ Below w.heap.size w w'
  else e = .returned (.tuple #[.agg #[.int .i64 0, .string ⟨#[]⟩, .string ⟨#[]⟩, .string ⟨#[]⟩, .int .i64 0, .string ⟨#[]⟩], .int .i64 3]) ∧ Below w.heap.size w w'
theorem image_Read.post_yes {l r1 : List Int} {r2 : Int} {w : World} {e : Ending} {w' : World} (h2 : r2 = 0) (hb : ((strOfNums r1).toList == (strOfNums l).toList) = true)
    (he : e = .returned (.tuple #[.agg #[.int .i64 (image_Read.op l), .string (image_Read.str l 0), .string (image_Read.str l 1), .string (image_Read.str l 2), .int .i64 (image_Read.num l), .string (image_Read.sN (image_Read.rest l 3) 4)], .int .i64 0])) (hB : Below w.heap.size w w') : image_Read.Post l r1 r2 w e w' := by
  unfold image_Read.Post
  rw [if_pos ⟨h2, by simpa using hb⟩]
  exact ⟨he, hB⟩
theorem image_Read.post_no1 {l r1 : List Int} {r2 : Int} {w : World} {e : Ending} {w' : World} (h2 : ¬ r2 = 0)
    (he : e = .returned (.tuple #[.agg #[.int .i64 0, .string ⟨#[]⟩, .string ⟨#[]⟩, .string ⟨#[]⟩, .int .i64 0, .string ⟨#[]⟩], .int .i64 3])) (hB : Below w.heap.size w w') : image_Read.Post l r1 r2 w e w' := by
  unfold image_Read.Post
  rw [if_neg (fun h => h2 h.1)]
  exact ⟨he, hB⟩
theorem image_Read.post_no2 {l r1 : List Int} {r2 : Int} {w : World} {e : Ending} {w' : World} (hb : ((strOfNums r1).toList == (strOfNums l).toList) = false)
    (he : e = .returned (.tuple #[.agg #[.int .i64 0, .string ⟨#[]⟩, .string ⟨#[]⟩, .string ⟨#[]⟩, .int .i64 0, .string ⟨#[]⟩], .int .i64 3])) (hB : Below w.heap.size w w') : image_Read.Post l r1 r2 w e w' := by
  unfold image_Read.Post
  rw [if_neg (fun h => by simp [h.2] at hb)]
  exact ⟨he, hB⟩
set_option maxHeartbeats 2000000 in
set_option maxRecDepth 100000 in
theorem image_Read.walk (A0 : Option Addr) (c0 : Nat) (l : List Int) (r1 : List Int) (r2 : Int) (w : World) (hr0 : Kd.C (Kd.int .u8) w A0 l.length l) (hc0 : l.length ≤ c0) (hx : ∀ x ∈ l, 0 ≤ x ∧ x ≤ 255) (h63 : l.length ≤ 9223372036854775807) (hW : image_Write.f (image_Read.op l) (image_Read.str l 0) (image_Read.str l 1) (image_Read.str l 2) (image_Read.num l) (image_Read.sN (image_Read.rest l 3) 4) = some (r1, r2)) :
    Calls Try.prog 14 #[.slice A0 l.length c0] w (image_Read.Post l r1 r2 w) := by
  have HC := Aside0.mk hr0
  have HL := Aside0.mk hc0
  have HL0 := Aside0.mk hc0
  have HX := Aside0.mk hx
  have HW := Aside0.mk hW
  clear hW
  have hv1 := image_reader_number.val_bd1 (l.take 1) (fun x h => hx x (List.mem_of_mem_take h)) (by rw [List.length_take]; omega)
  clear hr0 hc0 hx
  go_enter Try.func14, Try.ntmps14
  go_wp2_with (first
    | ((with_reducible refine gate_dst (N := 11) rfl ?_); refine hold_ ?_))
  have BK2 := Aside0.mk ((Below.heap_alloc (w.alloc (.cells #[.int .i64 0, .string ⟨#[]⟩, .string ⟨#[]⟩, .string ⟨#[]⟩, .int .i64 0, .string ⟨#[]⟩] 23)) (.cells #[.slice A0 l.length c0] 67) w.heap.size (by simp)).trans (heap_alloc_new w _))
  have BK4 := Aside0.mk (heap_alloc_new (w.alloc (.cells #[.int .i64 0, .string ⟨#[]⟩, .string ⟨#[]⟩, .string ⟨#[]⟩, .int .i64 0, .string ⟨#[]⟩] 23)) (.cells #[.slice A0 l.length c0] 67))
  have HB := Aside0.mk (((Below.refl w.heap.size w).alloc (Nat.le_refl _) (.cells #[.int .i64 0, .string ⟨#[]⟩, .string ⟨#[]⟩, .string ⟨#[]⟩, .int .i64 0, .string ⟨#[]⟩] 23)).alloc (by simp) (.cells #[.slice A0 l.length c0] 67))
  have hsz : ((w.alloc (.cells #[.int .i64 0, .string ⟨#[]⟩, .string ⟨#[]⟩, .string ⟨#[]⟩, .int .i64 0, .string ⟨#[]⟩] 23)).alloc (.cells #[.slice A0 l.length c0] 67)).heap.size = w.heap.size + 2 := by simp
  rw [World.size_alloc] at BK4
  generalize ((w.alloc (.cells #[.int .i64 0, .string ⟨#[]⟩, .string ⟨#[]⟩, .string ⟨#[]⟩, .int .i64 0, .string ⟨#[]⟩] 23)).alloc (.cells #[.slice A0 l.length c0] 67)) = W0 at *
  unfold Hold
  generalize hop : image_reader_number.val (l.take 1) = vop at *
  have HOP := Aside0.mk hop
  clear hop
  go_wp2_with (first
    | (go_at_call 33; (with_reducible refine (image_reader_number.kcalls (w.heap.size + 1) A0 c0 l 1 1 w W0 BK4.out HL.out h63 rfl (by omega) HC.out HB.out (by omega) HX.out).mono ?_); rintro e W1 ⟨rfl, A1, c1, hc1, hC1, hbk1, ho⟩; rw [HOP.out]; have n2 := Aside0.mk ((ho.block _ (by omega)).trans BK2.out); have n3 := Aside0.mk (ho.below HB.out (by omega)); have n4 := ho.size.trans hsz; clear BK2 HB hsz ho BK4; have BK2 := n2; have HB := n3; have hsz := n4; have BK4 := Aside0.mk hbk1; clear n2 n3 n4 hbk1; have HC1 := Aside0.mk hC1; have HL1 := Aside0.mk hc1; clear hC1 hc1)
    | (go_at_call 33; (with_reducible refine (image_reader_number.kcalls (w.heap.size + 1) A1 c1 (l.drop 1) 8 8 w W1 BK4.out HL1.out (by rw [List.length_drop]; omega) rfl (by omega) HC1.out HB.out (by omega) (fun x h => HX.out x (List.mem_of_mem_drop h))).mono ?_); rintro e W2 ⟨rfl, A2, c2, hc2, hC2, hbk1, ho⟩; generalize hvn : image_reader_number.val ((l.drop 1).take 8) = vn; have HVN := Aside0.mk hvn; clear hvn; have n2 := Aside0.mk ((ho.block _ (by omega)).trans BK2.out); have n3 := Aside0.mk (ho.below HB.out (by omega)); have n4 := ho.size.trans hsz; clear BK2 HB hsz ho BK4; have BK2 := n2; have HB := n3; have hsz := n4; have BK4 := Aside0.mk hbk1; clear n2 n3 n4 hbk1; have HC2 := Aside0.mk hC2; have HL2 := Aside0.mk hc2; clear hC2 hc2)
    | ((with_reducible refine gate_dst (N := 16) rfl ?_); refine hold_ ?_))
  have n5 := heap_alloc_new W2 (.cells #[.int .i64 vop, .string ⟨#[]⟩, .string ⟨#[]⟩, .string ⟨#[]⟩, .int .i64 (wrap64 vn), .string ⟨#[]⟩] 23)
  rw [hsz] at n5
  have BK5 := Aside0.mk n5
  have n2 := Aside0.mk ((Below.heap_alloc W2 (.cells #[.int .i64 vop, .string ⟨#[]⟩, .string ⟨#[]⟩, .string ⟨#[]⟩, .int .i64 (wrap64 vn), .string ⟨#[]⟩] 23) w.heap.size (by omega)).trans BK2.out)
  have n4 := Aside0.mk ((Below.heap_alloc W2 (.cells #[.int .i64 vop, .string ⟨#[]⟩, .string ⟨#[]⟩, .string ⟨#[]⟩, .int .i64 (wrap64 vn), .string ⟨#[]⟩] 23) (w.heap.size + 1) (by omega)).trans BK4.out)
  have n3 := Aside0.mk (HB.out.alloc (by omega) (.cells #[.int .i64 vop, .string ⟨#[]⟩, .string ⟨#[]⟩, .string ⟨#[]⟩, .int .i64 (wrap64 vn), .string ⟨#[]⟩] 23))
  have hsz3 : (W2.alloc (.cells #[.int .i64 vop, .string ⟨#[]⟩, .string ⟨#[]⟩, .string ⟨#[]⟩, .int .i64 (wrap64 vn), .string ⟨#[]⟩] 23)).heap.size = w.heap.size + 3 := by simp [hsz]
  clear n5 BK2 BK4 HB hsz
  generalize W2.alloc (.cells #[.int .i64 vop, .string ⟨#[]⟩, .string ⟨#[]⟩, .string ⟨#[]⟩, .int .i64 (wrap64 vn), .string ⟨#[]⟩] 23) = W3 at *
  unfold Hold
  have HIX := Aside0.mk (image_Read.index (w.heap.size + 2))
  go_wp2
  go_loopw [20] (fun i wr => ∃ (k : Nat) (A : Option Addr) (c : Nat), k ≤ 3 ∧ i = .int .i64 k ∧ (image_Read.rest l k).length ≤ c ∧ Kd.C (Kd.int .u8) w A (image_Read.rest l k).length (image_Read.rest l k) ∧ wr.heap[w.heap.size + 1]? = some (.cells #[.slice A (image_Read.rest l k).length c] 67 (0, 0)) ∧
    wr.heap[w.heap.size + 2]? = some (.cells (image_Read.flds l k) 23 (0, 0)) ∧ wr.heap[w.heap.size]? = some (.cells #[.int .i64 0, .string ⟨#[]⟩, .string ⟨#[]⟩, .string ⟨#[]⟩, .int .i64 0, .string ⟨#[]⟩] 23 (0, 0)) ∧ Below w.heap.size w wr ∧ wr.heap.size = w.heap.size + 3) (fun i _ => 3 - (intOf i).toNat)
  case atStart =>
    refine ⟨0, A2, c2, by omega, rfl, HL2.out, HC2.out, n4.out, ?_, n2.out, n3.out, hsz3⟩
    rw [BK5.out]
    unfold image_Read.flds image_Read.op image_Read.num
    rw [HOP.out, HVN.out]
    rfl
  case round =>
    clear n2 n3 n4 hsz3 BK5 HC2 HL2 HC1 HL1 HL hv1
    obtain ⟨k, A, c, hk, rfl, hL, hC, hb4, hb5, hb2, hb, hsz⟩ := hrel
    have HLx := Aside0.mk hL
    have HCx := Aside0.mk hC
    have BK4 := Aside0.mk hb4
    have BK5 := Aside0.mk hb5
    have BK2 := Aside0.mk hb2
    have HB := Aside0.mk hb
    have hxl := image_Read.rest_len l k
    have HXX : Aside0 (∀ x ∈ image_Read.rest l k, 0 ≤ x ∧ x ≤ 255) := ⟨fun x h => HX.out x (image_Read.rest_sub l k x h)⟩
    clear hL hC hb4 hb5 hb2 hb
    by_cases hlt : k < 3
    · have hix := fun W => HIX.out W k hlt
      have HR1 : Aside0 (image_Read.rest l (k + 1) = ((image_Read.rest l k).drop 1).drop (image_reader_number.val ((image_Read.rest l k).take 1)).toNat) := ⟨rfl⟩
      have HS1 : Aside0 (image_Read.str l k = strOfNums (((image_Read.rest l k).drop 1).take (image_reader_number.val ((image_Read.rest l k).take 1)).toNat)) := ⟨rfl⟩
      have hv1 := image_reader_number.val_bd1 ((image_Read.rest l k).take 1) (fun x h => HXX.out x (List.mem_of_mem_take h)) (by rw [List.length_take]; omega)
      generalize image_Read.rest l k = xs at *
      generalize hvv : image_reader_number.val (xs.take 1) = v at *
      have HVV := Aside0.mk hvv
      clear hvv
      go_wp2_with (first
        | (go_at_call 33; (with_reducible refine (image_reader_number.kcalls (w.heap.size + 1) A c xs 1 1 w _ BK4.out HLx.out (by omega) rfl (by omega) HCx.out HB.out (by omega) HXX.out).mono ?_); rintro e W1 ⟨rfl, A1, c1, hc1, hC1, hbk1, ho⟩; rw [HVV.out]; have n5 := Aside0.mk ((ho.block _ (by omega)).trans BK5.out); have n2 := Aside0.mk ((ho.block _ (by omega)).trans BK2.out); have n3 := Aside0.mk (ho.below HB.out (by omega)); have n4 := ho.size.trans hsz; clear BK2 HB hsz ho BK4; have BK2 := n2; have HB := n3; have hsz := n4; have BK4 := Aside0.mk hbk1; clear n2 n3 n4 hbk1; clear BK5; have BK5 := n5; have HC1 := Aside0.mk hC1; have HL1 := Aside0.mk hc1; clear hC1 hc1 n5 HCx HLx)
        | (go_at_call 34; (with_reducible refine (image_reader_take.calls (w.heap.size + 1) A1 c1 (xs.drop 1) v _ BK4.out HL1.out (by rw [List.length_drop]; omega) hv1.1).mono ?_); rintro e W2 ⟨A3, c3, A4, c4, rfl, hc3, hc4, hCC, hbk1, ho⟩; obtain ⟨hC3, hC4⟩ := hCC w HC1.out; have n5 := Aside0.mk ((ho.block _ (by omega)).trans BK5.out); have n2 := Aside0.mk ((ho.block _ (by omega)).trans BK2.out); have n3 := Aside0.mk (ho.below HB.out (by omega)); have n4 := ho.size.trans hsz; clear BK2 HB hsz ho BK4; have BK2 := n2; have HB := n3; have hsz := n4; have BK4 := Aside0.mk hbk1; clear n2 n3 n4 hbk1; clear BK5; have BK5 := n5; have HC3 := Aside0.mk hC3; have HC4 := Aside0.mk hC4; have HL3 := Aside0.mk hc3; have HL4 := Aside0.mk hc4; clear hC3 hC4 hc3 hc4 n5 hCC HC1 HL1; have hx5 := (blk_cell BK5.out (k + 1)).trans (image_Read.flds_at l k hlt); have hf5 := blk_frozen BK5.out (k + 1); generalize hys : List.take v.toNat (List.drop 1 xs) = ys at *; generalize hzs : List.drop v.toNat (List.drop 1 xs) = zs at *; have HYS := Aside0.mk hys; have HZS := Aside0.mk hzs; clear hys hzs)
        | ((with_reducible refine gate_dst (N := 26) rfl ?_); refine conv_str 24 9 5 (.tmp 25) A3 ys.length c3 ys Try.underlying24 Try.underlying5 Try.underlying9 rfl rfl rfl (Kd.C_below HC3.out HB.out) ?_))
      go_roundw
      case rel =>
        refine ⟨k + 1, A4, c4, by omega, by go_num, ?_⟩
        rw [HR1.out]
        exact ⟨HL4.out, HC4.out, blk_far BK4.out (by simp) _, (blk_set BK5.out (k + 1) _).trans (by rw [← HS1.out, image_Read.flds_set l k hlt]), blk_far BK2.out (by simp) _, HB.out.setCell (by simp) _, by rw [World.size_setCell]; exact hsz⟩
      case measure => simp [intOf]; omega
    · obtain rfl : k = 3 := by omega
      have HS1 : Aside0 (image_Read.sN (image_Read.rest l 3) 4 = strOfNums (((image_Read.rest l 3).drop 4).take (image_reader_number.val ((image_Read.rest l 3).take 4)).toNat)) := ⟨rfl⟩
      have hv1 := image_reader_number.val_bd7 ((image_Read.rest l 3).take 4) (fun x h => HXX.out x (List.mem_of_mem_take h)) (by rw [List.length_take]; omega)
      have HF5 : Aside0 (image_Read.flds l 3 = #[.int .i64 (image_Read.op l), .string (image_Read.str l 0), .string (image_Read.str l 1), .string (image_Read.str l 2), .int .i64 (image_Read.num l), .string ⟨#[]⟩]) := ⟨rfl⟩
      generalize image_Read.flds l 3 = fl at *
      obtain rfl := HF5.out
      generalize hxs : image_Read.rest l 3 = xs at *
      have HXS := Aside0.mk hxs
      clear hxs
      generalize hvo : image_Read.op l = vo at *
      have HVO := Aside0.mk hvo
      clear hvo
      generalize hvm : image_Read.num l = vm at *
      have HVM := Aside0.mk hvm
      clear hvm
      generalize hsA : image_Read.str l 0 = sA at *
      have HSA := Aside0.mk hsA
      clear hsA
      generalize hsB : image_Read.str l 1 = sB at *
      have HSB := Aside0.mk hsB
      clear hsB
      generalize hsC : image_Read.str l 2 = sC at *
      have HSC := Aside0.mk hsC
      clear hsC
      generalize hvv : image_reader_number.val (xs.take 4) = v at *
      have HVV := Aside0.mk hvv
      clear hvv HF5
      go_wp2_with (first
        | (go_at_call 33; (with_reducible refine (image_reader_number.kcalls (w.heap.size + 1) A c xs 4 4 w _ BK4.out HLx.out (by omega) rfl (by omega) HCx.out HB.out (by omega) HXX.out).mono ?_); rintro e W1 ⟨rfl, A1, c1, hc1, hC1, hbk1, ho⟩; rw [HVV.out]; have n5 := Aside0.mk ((ho.block _ (by omega)).trans BK5.out); have n2 := Aside0.mk ((ho.block _ (by omega)).trans BK2.out); have n3 := Aside0.mk (ho.below HB.out (by omega)); have n4 := ho.size.trans hsz; clear BK2 HB hsz ho BK4; have BK2 := n2; have HB := n3; have hsz := n4; have BK4 := Aside0.mk hbk1; clear n2 n3 n4 hbk1; clear BK5; have BK5 := n5; have HC1 := Aside0.mk hC1; have HL1 := Aside0.mk hc1; clear hC1 hc1 n5 HCx HLx)
        | (go_at_call 34; (with_reducible refine (image_reader_take.calls (w.heap.size + 1) A1 c1 (xs.drop 4) v _ BK4.out HL1.out (by rw [List.length_drop]; omega) hv1.1).mono ?_); rintro e W2 ⟨A3, c3, A4, c4, rfl, hc3, hc4, hCC, hbk1, ho⟩; obtain ⟨hC3, hC4⟩ := hCC w HC1.out; have n5 := Aside0.mk ((ho.block _ (by omega)).trans BK5.out); have n2 := Aside0.mk ((ho.block _ (by omega)).trans BK2.out); have n3 := Aside0.mk (ho.below HB.out (by omega)); have n4 := ho.size.trans hsz; clear BK2 HB hsz ho BK4; have BK2 := n2; have HB := n3; have hsz := n4; have BK4 := Aside0.mk hbk1; clear n2 n3 n4 hbk1; clear BK5; have BK5 := n5; have HC3 := Aside0.mk hC3; clear hC3 hC4 hc3 hc4 n5 hCC HC1 HL1 BK4; have hx5 := (blk_cell BK5.out 5).trans rfl; have hf5 := blk_frozen BK5.out 5; generalize hys : List.take v.toNat (List.drop 4 xs) = ys at *; have HYS := Aside0.mk hys; clear hys)
        | ((with_reducible refine gate_dst (N := 31) rfl ?_); refine conv_str 24 9 5 (.tmp 30) A3 ys.length c3 ys Try.underlying24 Try.underlying5 Try.underlying9 rfl rfl rfl (Kd.C_below HC3.out HB.out) ?_)
        | ((with_reducible refine gate_dst (N := 34) rfl ?_); refine hold_ ?_))
      have hW := HW.out
      rw [HS1.out] at hW
      generalize strOfNums ys = sT at *
      clear HW
      have HW := Aside0.mk hW
      clear hW
      have n2 := Aside0.mk (blk_far BK2.out (p := ⟨w.heap.size + 2, 5, none⟩) (by simp) (.string sT))
      have n5 := Aside0.mk ((blk_set BK5.out 5 (.string sT)).trans rfl)
      have n3 := Aside0.mk (HB.out.setCell (p := ⟨w.heap.size + 2, 5, none⟩) (by simp) (.string sT))
      clear BK2 BK5 HB hx5 hf5 hsz HXX HC3
      generalize W2.setCell ⟨w.heap.size + 2, 5, none⟩ (.string sT) = W3 at *
      have HB := n3
      have BK2 := n2
      have BK5 := n5
      clear n2 n3 n5
      have hy0 := (blk_cell BK5.out 0).trans rfl
      have hy1 := (blk_cell BK5.out 1).trans rfl
      have hy2 := (blk_cell BK5.out 2).trans rfl
      have hy3 := (blk_cell BK5.out 3).trans rfl
      have hy4 := (blk_cell BK5.out 4).trans rfl
      have hy5 := (blk_cell BK5.out 5).trans rfl
      have hz0 := (blk_cell BK2.out 0).trans rfl
      have hz1 := (blk_cell BK2.out 1).trans rfl
      have hz2 := (blk_cell BK2.out 2).trans rfl
      have hz3 := (blk_cell BK2.out 3).trans rfl
      have hz4 := (blk_cell BK2.out 4).trans rfl
      have hz5 := (blk_cell BK2.out 5).trans rfl
      have hg0 := blk_frozen BK2.out 0
      have hg1 := blk_frozen BK2.out 1
      have hg2 := blk_frozen BK2.out 2
      have hg3 := blk_frozen BK2.out 3
      have hg4 := blk_frozen BK2.out 4
      have hg5 := blk_frozen BK2.out 5
      unfold Hold
      have WRITE : True := trivial
      by_cases hz : r2 = 0
      · subst hz
        have hE : bytes_Equal.f r1 l = some ((strOfNums r1).toList == (strOfNums l).toList) := rfl
        have HE := Aside0.mk hE
        clear hE
        by_cases hb : ((strOfNums r1).toList == (strOfNums l).toList) = true
        · have hbe : (0 = (0 : Int) ∧ (strOfNums r1).toList = (strOfNums l).toList) := ⟨rfl, by simpa using hb⟩
          have HBE := Aside0.mk hb
          clear hb
          rw [HBE.out] at HE
          go_wp2_with (first
            | (go_at_call 11; (with_reducible refine (image_Write.calls vo sA sB sC vm sT r1 0 W3 HW.out).mono ?_); rintro e W4 ⟨v4, rfl, ho4, hb4⟩; obtain ⟨Aw, cw, rfl, hcw, hCw⟩ := Kd.R_reads ho4; have n3 := Aside0.mk (below_then HB.out HB.out.size hb4); have n2 := Aside0.mk (blk_below BK2.out hb4); have n5 := Aside0.mk (blk_below BK5.out hb4); have HCW := Aside0.mk hCw; have HLW := Aside0.mk hcw; clear hCw hcw ho4 hb4 HB BK2 BK5; clear hy0 hz0 hg0 hy1 hz1 hg1 hy2 hz2 hg2 hy3 hz3 hg3 hy4 hz4 hg4 hy5 hz5 hg5; have HB := n3; have BK2 := n2; have BK5 := n5; clear n2 n3 n5; have hy0 := (blk_cell BK5.out 0).trans rfl; have hy1 := (blk_cell BK5.out 1).trans rfl; have hy2 := (blk_cell BK5.out 2).trans rfl; have hy3 := (blk_cell BK5.out 3).trans rfl; have hy4 := (blk_cell BK5.out 4).trans rfl; have hy5 := (blk_cell BK5.out 5).trans rfl; have hz0 := (blk_cell BK2.out 0).trans rfl; have hz1 := (blk_cell BK2.out 1).trans rfl; have hz2 := (blk_cell BK2.out 2).trans rfl; have hz3 := (blk_cell BK2.out 3).trans rfl; have hz4 := (blk_cell BK2.out 4).trans rfl; have hz5 := (blk_cell BK2.out 5).trans rfl; have hg0 := blk_frozen BK2.out 0; have hg1 := blk_frozen BK2.out 1; have hg2 := blk_frozen BK2.out 2; have hg3 := blk_frozen BK2.out 3; have hg4 := blk_frozen BK2.out 4; have hg5 := blk_frozen BK2.out 5)
            | (go_at_call 35; (with_reducible refine (bytes_Equal.calls Aw cw r1 A0 c0 l _ _ HCW.out HLW.out (Kd.C_below HC.out HB.out) HL0.out HE.out).mono ?_); rintro e W5 ⟨rfl, ⟨⟨nd, rfl⟩⟩⟩))
          refine bodyPost_ret (results_ct rfl _ _ w.heap.size 23 #[.int .i64 vo, .string sA, .string sB, .string sC, .int .i64 vm, .string sT] (0, 0) _ rfl (by refine blk_set6 (a0 := .int .i64 0) (a1 := .string ⟨#[]⟩) (a2 := .string ⟨#[]⟩) (a3 := .string ⟨#[]⟩) (a4 := .int .i64 0) (a5 := .string ⟨#[]⟩) ?_; (with_reducible repeat (first | refine blk_drewN ?_ _ | refine blk_drew ?_)); exact BK2.out) Try.underlying23 rfl (by kernel_rfl)) rfl (image_Read.post_yes rfl HBE.out (by rw [HVO.out, HVM.out, HSA.out, HSB.out, HSC.out, HXS.out, HS1.out]; rfl) (by (with_reducible repeat (first | apply pw_below_drewN | apply below_drew1 | apply below_drew)); refine below_set6 (Nat.le_refl _) ?_; (with_reducible repeat (first | exact HB.out | apply pw_below_drewN | apply below_drew))))
        · have hbe : ¬ (0 = (0 : Int) ∧ (strOfNums r1).toList = (strOfNums l).toList) := fun h => hb (by simpa using h.2)
          have HBE := Aside0.mk (Eq.mp (Bool.not_eq_true _) hb)
          clear hb
          rw [HBE.out] at HE
          go_wp2_with (first
            | (go_at_call 11; (with_reducible refine (image_Write.calls vo sA sB sC vm sT r1 0 W3 HW.out).mono ?_); rintro e W4 ⟨v4, rfl, ho4, hb4⟩; obtain ⟨Aw, cw, rfl, hcw, hCw⟩ := Kd.R_reads ho4; have n3 := Aside0.mk (below_then HB.out HB.out.size hb4); have n2 := Aside0.mk (blk_below BK2.out hb4); have n5 := Aside0.mk (blk_below BK5.out hb4); have HCW := Aside0.mk hCw; have HLW := Aside0.mk hcw; clear hCw hcw ho4 hb4 HB BK2 BK5; clear hy0 hz0 hg0 hy1 hz1 hg1 hy2 hz2 hg2 hy3 hz3 hg3 hy4 hz4 hg4 hy5 hz5 hg5; have HB := n3; have BK2 := n2; have BK5 := n5; clear n2 n3 n5; have hy0 := (blk_cell BK5.out 0).trans rfl; have hy1 := (blk_cell BK5.out 1).trans rfl; have hy2 := (blk_cell BK5.out 2).trans rfl; have hy3 := (blk_cell BK5.out 3).trans rfl; have hy4 := (blk_cell BK5.out 4).trans rfl; have hy5 := (blk_cell BK5.out 5).trans rfl; have hz0 := (blk_cell BK2.out 0).trans rfl; have hz1 := (blk_cell BK2.out 1).trans rfl; have hz2 := (blk_cell BK2.out 2).trans rfl; have hz3 := (blk_cell BK2.out 3).trans rfl; have hz4 := (blk_cell BK2.out 4).trans rfl; have hz5 := (blk_cell BK2.out 5).trans rfl; have hg0 := blk_frozen BK2.out 0; have hg1 := blk_frozen BK2.out 1; have hg2 := blk_frozen BK2.out 2; have hg3 := blk_frozen BK2.out 3; have hg4 := blk_frozen BK2.out 4; have hg5 := blk_frozen BK2.out 5)
            | (go_at_call 35; (with_reducible refine (bytes_Equal.calls Aw cw r1 A0 c0 l _ _ HCW.out HLW.out (Kd.C_below HC.out HB.out) HL0.out HE.out).mono ?_); rintro e W5 ⟨rfl, ⟨⟨nd, rfl⟩⟩⟩))
          refine bodyPost_ret (results_ct rfl _ _ w.heap.size 23 #[.int .i64 0, .string ⟨#[]⟩, .string ⟨#[]⟩, .string ⟨#[]⟩, .int .i64 0, .string ⟨#[]⟩] (0, 0) _ rfl (by refine blk_set6 (a0 := .int .i64 0) (a1 := .string ⟨#[]⟩) (a2 := .string ⟨#[]⟩) (a3 := .string ⟨#[]⟩) (a4 := .int .i64 0) (a5 := .string ⟨#[]⟩) ?_; (with_reducible repeat (first | refine blk_drewN ?_ _ | refine blk_drew ?_)); exact BK2.out) Try.underlying23 rfl (by kernel_rfl)) rfl (image_Read.post_no2 HBE.out rfl (by (with_reducible repeat (first | apply pw_below_drewN | apply below_drew1 | apply below_drew)); refine below_set6 (Nat.le_refl _) ?_; (with_reducible repeat (first | exact HB.out | apply pw_below_drewN | apply below_drew))))
      · have hbe : ¬ (r2 = (0 : Int) ∧ (strOfNums r1).toList = (strOfNums l).toList) := fun h => hz h.1
        have HZ := Aside0.mk hz
        go_wp2_with (first
          | (go_at_call 11; (with_reducible refine (image_Write.calls vo sA sB sC vm sT r1 r2 W3 HW.out).mono ?_); rintro e W4 ⟨v4, rfl, ho4, hb4⟩; obtain ⟨Aw, cw, rfl, hcw, hCw⟩ := Kd.R_reads ho4; have n3 := Aside0.mk (below_then HB.out HB.out.size hb4); have n2 := Aside0.mk (blk_below BK2.out hb4); have n5 := Aside0.mk (blk_below BK5.out hb4); have HCW := Aside0.mk hCw; have HLW := Aside0.mk hcw; clear hCw hcw ho4 hb4 HB BK2 BK5; clear hy0 hz0 hg0 hy1 hz1 hg1 hy2 hz2 hg2 hy3 hz3 hg3 hy4 hz4 hg4 hy5 hz5 hg5; have HB := n3; have BK2 := n2; have BK5 := n5; clear n2 n3 n5; have hy0 := (blk_cell BK5.out 0).trans rfl; have hy1 := (blk_cell BK5.out 1).trans rfl; have hy2 := (blk_cell BK5.out 2).trans rfl; have hy3 := (blk_cell BK5.out 3).trans rfl; have hy4 := (blk_cell BK5.out 4).trans rfl; have hy5 := (blk_cell BK5.out 5).trans rfl; have hz0 := (blk_cell BK2.out 0).trans rfl; have hz1 := (blk_cell BK2.out 1).trans rfl; have hz2 := (blk_cell BK2.out 2).trans rfl; have hz3 := (blk_cell BK2.out 3).trans rfl; have hz4 := (blk_cell BK2.out 4).trans rfl; have hz5 := (blk_cell BK2.out 5).trans rfl; have hg0 := blk_frozen BK2.out 0; have hg1 := blk_frozen BK2.out 1; have hg2 := blk_frozen BK2.out 2; have hg3 := blk_frozen BK2.out 3; have hg4 := blk_frozen BK2.out 4; have hg5 := blk_frozen BK2.out 5)
          | (go_at_call 35; (with_reducible refine (bytes_Equal.calls Aw cw r1 A0 c0 l _ _ HCW.out HLW.out (Kd.C_below HC.out HB.out) HL0.out HE.out).mono ?_); rintro e W5 ⟨rfl, ⟨⟨nd, rfl⟩⟩⟩))
        refine bodyPost_ret (results_ct rfl _ _ w.heap.size 23 #[.int .i64 0, .string ⟨#[]⟩, .string ⟨#[]⟩, .string ⟨#[]⟩, .int .i64 0, .string ⟨#[]⟩] (0, 0) _ rfl (by refine blk_set6 (a0 := .int .i64 0) (a1 := .string ⟨#[]⟩) (a2 := .string ⟨#[]⟩) (a3 := .string ⟨#[]⟩) (a4 := .int .i64 0) (a5 := .string ⟨#[]⟩) ?_; (with_reducible repeat (first | refine blk_drewN ?_ _ | refine blk_drew ?_)); exact BK2.out) Try.underlying23 rfl (by kernel_rfl)) rfl (image_Read.post_no1 HZ.out rfl (by (with_reducible repeat (first | apply pw_below_drewN | apply below_drew1 | apply below_drew)); refine below_set6 (Nat.le_refl _) ?_; (with_reducible repeat (first | exact HB.out | apply pw_below_drewN | apply below_drew))))
def image_Read.f (l0 : List Int) : Option (Int × ByteArray × ByteArray × ByteArray × Int × ByteArray × Int) :=
  if (∀ x ∈ l0, 0 ≤ x ∧ x ≤ 255) ∧ l0.length ≤ 9223372036854775807 then
    (image_Write.f (image_Read.op l0) (image_Read.str l0 0) (image_Read.str l0 1) (image_Read.str l0 2) (image_Read.num l0) (image_Read.sN (image_Read.rest l0 3) 4)).bind fun a => if a.2 = 0 ∧ (strOfNums a.1).toList = (strOfNums l0).toList then some (image_Read.op l0, image_Read.str l0 0, image_Read.str l0 1, image_Read.str l0 2, image_Read.num l0, image_Read.sN (image_Read.rest l0 3) 4, 0) else some (0, ⟨#[]⟩, ⟨#[]⟩, ⟨#[]⟩, 0, ⟨#[]⟩, 3)
  else none
theorem image_Read.calls (A0 : Option Addr) (c0 : Nat) (l0 : List Int) (r1 : Int) (r2 : ByteArray) (r3 : ByteArray) (r4 : ByteArray) (r5 : Int) (r6 : ByteArray) (r7 : Int) (w : World) (hr0 : Kd.C (Kd.int .u8) w A0 l0.length l0) (hc0 : l0.length ≤ c0) (h : image_Read.f l0 = some (r1, r2, r3, r4, r5, r6, r7)) :
    Calls Try.prog 14 #[.slice A0 l0.length c0] w fun e w' => e = .returned (.tuple #[.agg #[.int .i64 r1, .string r2, .string r3, .string r4, .int .i64 r5, .string r6], .int .i64 r7]) ∧ Below w.heap.size w w' := by
  unfold image_Read.f at h
  split at h
  next hx =>
    obtain ⟨⟨b, e⟩, hW, h⟩ := Option.bind_eq_some_iff.1 h
    refine (image_Read.walk A0 c0 l0 b e w hr0 hc0 hx.1 hx.2 hW).mono fun x w' hp => ?_
    unfold image_Read.Post at hp
    simp only at h
    split at h
    next hq =>
      rw [if_pos hq] at hp
      simp only [Option.some.injEq, Prod.mk.injEq] at h
      obtain ⟨rfl, rfl, rfl, rfl, rfl, rfl, rfl⟩ := h
      exact hp
    next hq =>
      rw [if_neg hq] at hp
      simp only [Option.some.injEq, Prod.mk.injEq] at h
      obtain ⟨rfl, rfl, rfl, rfl, rfl, rfl, rfl⟩ := h
      exact hp
  next => cases h
end


/-! ### provostref21_value: function 36 -/
def provostref21_value.l0 : Nat → List Int → Int → Int → Option (Int)
  | 0, _, _, _ => none
  | k + 1, x0, x3, x4 => if x4 < (x0.length : Int) then (if 0 ≤ x4 then (provostref21_value.l0 k x0 (IntKind.u64.wrap ((IntKind.u64.wrap (256 * x3)) + (IntKind.u64.wrap (rd x0 x4)))) (wrap64 (x4 + 1))) else (none)) else (some x3)
def provostref21_value.f (k : Nat) (l0 : List Int) : Option (Int) := provostref21_value.l0 k l0 0 0
theorem provostref21_value.mono_l : ∀ k, (∀ y0 y1 y2, LeO (provostref21_value.l0 k y0 y1 y2) (provostref21_value.l0 (k + 1) y0 y1 y2))
  | 0 => fun _ _ _ r h => by simp [provostref21_value.l0] at h
  | k + 1 => by
    have ih0 := provostref21_value.mono_l k
    · intro y0 y1 y2
      unfold provostref21_value.l0
      repeat' first
      | (with_reducible exact ih0 _ _ _)
      | (with_reducible exact LeO.refl _)
      | (with_reducible exact LeO.none _)
      | (with_reducible refine LeO.ite ?_ ?_)
      | (with_reducible refine LeO.bind ?_ (fun _ => ?_))
      | exact ih0 _ _ _
      | exact LeO.none _
      | refine LeO.ite ?_ ?_
      | refine LeO.bind ?_ (fun _ => ?_)
theorem provostref21_value.mono : ∀ a0 k, LeO (provostref21_value.f k a0) (provostref21_value.f (k + 1) a0) := by
  intro a0 k
  have ih0 := provostref21_value.mono_l k
  unfold provostref21_value.f
  repeat' first
      | (with_reducible exact ih0 _ _ _)
      | (with_reducible exact LeO.refl _)
      | (with_reducible exact LeO.none _)
      | (with_reducible refine LeO.ite ?_ ?_)
      | (with_reducible refine LeO.bind ?_ (fun _ => ?_))
      | exact ih0 _ _ _
      | exact LeO.none _
      | refine LeO.ite ?_ ?_
      | refine LeO.bind ?_ (fun _ => ?_)
set_option maxHeartbeats 8000000 in
set_option maxRecDepth 100000 in
theorem provostref21_value.calls (k : Nat) (A0 : Option Addr) (c0 : Nat) (l0 : List Int) (r : Int) (w : World) (hr0 : Kd.C (Kd.int .u8) w A0 l0.length l0) (hc0 : l0.length ≤ c0) (h : provostref21_value.f k l0 = some r) :
    Calls Try.prog 36 #[.slice A0 l0.length c0] w fun e w' => e = .returned (.int .u64 r) ∧ Drawn0 w w' := by
  have HR0 := Aside0.mk hr0
  have HC0 := Aside0.mk hc0
  clear hr0 hc0
  have H : (provostref21_value.l0 k l0 0 0) = some r := h
  clear h
  have H' := Aside0.mk H
  clear H
  go_enter Try.func36, Try.ntmps36
  go_wp2
  go_loopg [3, 4] k (fun kq v3 v4 w' => ∃ (x3_1 : Int) (x4_1 : Int), v3 = .int .u64 x3_1 ∧ v4 = .int .i64 x4_1 ∧ Aside0 (provostref21_value.l0 kq l0 x3_1 x4_1 = some r) ∧ Aside0 (kq ≤ k) ∧ Drawn0 w w')
  case atStart => exact ⟨(0), (0), (by first | rfl | (simp; done) | (simp [*]; done)), (by first | rfl | (simp; done) | (simp [*]; done)), H', ⟨Nat.le_refl _⟩, by repeat (first | exact Drawn0.refl _ | apply Drawn0.step)⟩
  case round =>
    clear H'
    obtain ⟨x3_1, x4_1, rfl, rfl, HA, HK1, ⟨m1, rfl⟩⟩ := hrel
    cases gk with
    | zero => exact absurd HA.out (by simp [provostref21_value.l0])
    | succ k1 =>
      have H := HA.out
      clear HA
      simp only [provostref21_value.l0] at H
      by_cases c2 : x4_1 < (l0.length : Int)
      · rw [if_pos c2] at H
        have c2b0 : decide (x4_1 < (l0.length : Int)) = true := decide_eq_true c2
        clear c2
        by_cases c3 : 0 ≤ x4_1
        · rw [if_pos c3] at H
          have c3b0 : decide (0 ≤ x4_1) = true := decide_eq_true c3
          clear c3
          have H' := Aside0.mk H
          clear H
          have p108 : 0 ≤ (x4_1 : Int) := of_decide_eq_true (by first | (with_reducible assumption) | assumption)
          have q108 : x4_1 < (l0.length : Int) := of_decide_eq_true (by first | (with_reducible assumption) | assumption)
          obtain ⟨ad108, e108, hx108_0⟩ := Kd.at_int HR0.out x4_1 p108 q108
          cases e108
          replace p108 := eq_true p108
          replace q108 := eq_true q108
          go_wp2
          go_roundg k1
          case measure => have := HK1.out; omega
          case rel => exact ⟨(IntKind.u64.wrap ((IntKind.u64.wrap (256 * x3_1)) + (IntKind.u64.wrap (rd l0 x4_1)))), (wrap64 (x4_1 + 1)), (by first | rfl | (simp; done) | (simp [*]; done)), (by first | rfl | (simp; done) | (simp [*]; done)), H', ⟨by have := HK1.out; omega⟩, by repeat (first | exact Drawn0.refl _ | apply Drawn0.step)⟩
        · rw [if_neg c3] at H
          exact absurd H (by simp)
      · rw [if_neg c2] at H
        have c2b0 : decide (x4_1 < (l0.length : Int)) = false := decide_eq_false c2
        clear c2
        obtain rfl := Option.some.inj H
        go_wp2
        go_ret
        exact ⟨by first | rfl | (simp; done) | (simp [*]; done), by repeat (first | exact Drawn0.refl _ | apply Drawn0.step)⟩

/-! ### provostref21_word: function 37 -/
section
open Go
open Go.Proofs.YthdkmohgphbdeaaW.Mine
/-- the number that bytes are, the highest first -/
def provostref21_word.val (l : List Int) : Int := l.foldl (fun n c => 256 * n + c) 0
theorem provostref21_word.val_snoc (l : List Int) (c : Int) : provostref21_word.val (l ++ [c]) = 256 * provostref21_word.val l + c := by simp [provostref21_word.val]
theorem provostref21_word.fold_bd : ∀ (l : List Int) (a : Int), (∀ x ∈ l, 0 ≤ x ∧ x ≤ 255) → 0 ≤ a → 0 ≤ l.foldl (fun n c => 256 * n + c) a ∧ l.foldl (fun n c => 256 * n + c) a < (a + 1) * 256 ^ l.length
  | [], a, _, h => by simp; omega
  | c :: l, a, hx, h => by
    obtain ⟨h3, h4⟩ := hx c List.mem_cons_self
    obtain ⟨h1, h2⟩ := provostref21_word.fold_bd l (256 * a + c) (fun x hm => hx x (List.mem_cons_of_mem _ hm)) (by omega)
    refine ⟨h1, Int.lt_of_lt_of_le h2 ?_⟩
    rw [List.length_cons, Int.pow_succ, Int.mul_comm (256 ^ l.length) 256, ← Int.mul_assoc]
    exact Int.mul_le_mul_of_nonneg_right (by omega) (Int.pow_nonneg (by decide))
theorem provostref21_word.val_bd (l : List Int) (h : ∀ x ∈ l, 0 ≤ x ∧ x ≤ 255) : 0 ≤ provostref21_word.val l ∧ provostref21_word.val l < 256 ^ l.length := by
  have := provostref21_word.fold_bd l 0 h (Int.le_refl _)
  simpa [provostref21_word.val] using this
theorem provostref21_word.pow8 (n : Nat) (h : n ≤ 8) : (256 : Int) ^ n ≤ 18446744073709551616 ∧ (n ≤ 7 → (256 : Int) ^ n ≤ 72057594037927936) := by
  have : n = 0 ∨ n = 1 ∨ n = 2 ∨ n = 3 ∨ n = 4 ∨ n = 5 ∨ n = 6 ∨ n = 7 ∨ n = 8 := by omega
  rcases this with e | e | e | e | e | e | e | e | e <;> subst e <;> simp
theorem provostref21_word.wrid (n : Int) (h0 : 0 ≤ n) (h1 : n ≤ 18446744073709551615) : IntKind.u64.wrap n = n := by
  simp only [IntKind.wrap, IntKind.signed, IntKind.bits]
  simp
  omega
theorem provostref21_word.value (l : List Int) (h : ∀ x ∈ l, 0 ≤ x ∧ x ≤ 255) (hl : l.length ≤ 8) : provostref21_value.f 12 l = some (provostref21_word.val l) := by
  have key : ∀ (d i : Nat), l.length - i = d → i ≤ l.length → provostref21_value.l0 (12 - i) l (provostref21_word.val (l.take i)) (i : Int) = some (provostref21_word.val l) := by
    intro d
    induction d with
    | zero =>
      intro i hd hi
      obtain rfl : i = l.length := by omega
      obtain ⟨m, hm⟩ : ∃ m, 12 - l.length = m + 1 := ⟨11 - l.length, by omega⟩
      rw [hm]
      simp only [provostref21_value.l0]
      rw [if_neg (by omega), List.take_length]
    | succ d ih =>
      intro i hd hi
      have hlt : i < l.length := by omega
      obtain ⟨m, hm⟩ : ∃ m, 12 - i = m + 1 := ⟨11 - i, by omega⟩
      have hm2 : 12 - (i + 1) = m := by omega
      have nx := ih (i + 1) (by omega) (by omega)
      rw [hm2] at nx
      rw [hm]
      simp only [provostref21_value.l0]
      have e1 : wrap64 ((i : Int) + 1) = ((i + 1 : Nat) : Int) := by unfold wrap64; omega
      have hrd : rd l i = l[i] := by unfold rd; rw [Int.toNat_natCast, List.getD_eq_getElem?_getD, List.getElem?_eq_getElem hlt]; rfl
      obtain ⟨hb0, hb1⟩ := provostref21_word.val_bd (l.take i) fun x hm => h x (List.mem_of_mem_take hm)
      have hb2 := (provostref21_word.pow8 (l.take i).length (by rw [List.length_take]; omega)).2 (by rw [List.length_take]; omega)
      obtain ⟨hr0, hr1⟩ := h l[i] (List.getElem_mem hlt)
      have hb3 := Int.lt_of_lt_of_le hb1 hb2
      clear hb1 hb2
      have e2 : provostref21_word.val (l.take (i + 1)) = 256 * provostref21_word.val (l.take i) + rd l i := by rw [List.take_succ_eq_append_getElem hlt, provostref21_word.val_snoc, hrd]
      rw [if_pos (by omega), if_pos (by omega), e1]
      rw [← hrd] at hr0 hr1
      rw [e2] at nx
      rw [provostref21_word.wrid (256 * provostref21_word.val (l.take i)) (by omega) (by omega), provostref21_word.wrid (rd l i) (by omega) (by omega), provostref21_word.wrid _ (by omega) (by omega)]
      exact nx
  have h := key l.length 0 (by omega) (by omega)
  simp only [Nat.sub_zero, List.take_zero] at h
  exact h
set_option maxHeartbeats 1000000 in
theorem provostref21_word.bad0 (A0 : Option Addr) (c0 : Nat) (l : List Int) (a wd : Int) (w : World) (hr0 : Kd.C (Kd.int .u8) w A0 l.length l) (hc0 : l.length ≤ c0) (h63 : l.length ≤ 4611686018427387903) (ha : a ≤ 4611686018427387903) (hw0 : 0 ≤ wd) (hw8 : wd ≤ 8) (h1 : a < 0) : Calls Try.prog 37 #[.slice A0 l.length c0, .int .i64 a, .int .i64 wd] w fun e w' => e = .returned (.tuple #[.string ⟨#[]⟩, .int .i64 (-1)]) ∧ Below w.heap.size w w' := by
  have c1 : decide (a < 0) = true := decide_eq_true h1
  go_enter Try.func37, Try.ntmps37
  go_wp2
  go_ret2
  exact ⟨rfl, Below.refl _ _⟩
set_option maxHeartbeats 1000000 in
theorem provostref21_word.bad1 (A0 : Option Addr) (c0 : Nat) (l : List Int) (a wd : Int) (w : World) (hr0 : Kd.C (Kd.int .u8) w A0 l.length l) (hc0 : l.length ≤ c0) (h63 : l.length ≤ 4611686018427387903) (ha : a ≤ 4611686018427387903) (hw0 : 0 ≤ wd) (hw8 : wd ≤ 8) (h1 : 0 ≤ a) (h2 : (l.length : Int) < a + wd) : Calls Try.prog 37 #[.slice A0 l.length c0, .int .i64 a, .int .i64 wd] w fun e w' => e = .returned (.tuple #[.string ⟨#[]⟩, .int .i64 (-1)]) ∧ Below w.heap.size w w' := by
  have c1 : decide (a < 0) = false := decide_eq_false (by omega)
  have c2 : decide ((l.length : Int) < a + wd) = true := decide_eq_true h2
  go_enter Try.func37, Try.ntmps37
  go_wp2
  go_ret2
  exact ⟨rfl, Below.refl _ _⟩
set_option maxHeartbeats 2000000 in
theorem provostref21_word.bad2 (A0 : Option Addr) (c0 : Nat) (l : List Int) (a wd : Int) (w : World) (hr0 : Kd.C (Kd.int .u8) w A0 l.length l) (hc0 : l.length ≤ c0) (h63 : l.length ≤ 4611686018427387903) (ha : a ≤ 4611686018427387903) (hw0 : 0 ≤ wd) (hw8 : wd ≤ 8) (hx : ∀ x ∈ l, 0 ≤ x ∧ x ≤ 255) (h1 : 0 ≤ a) (h2 : a + wd ≤ l.length) (h3 : (l.length : Int) - (a + wd) < provostref21_word.val ((l.take (a + wd).toNat).drop a.toNat)) : Calls Try.prog 37 #[.slice A0 l.length c0, .int .i64 a, .int .i64 wd] w fun e w' => e = .returned (.tuple #[.string ⟨#[]⟩, .int .i64 (-1)]) ∧ Below w.heap.size w w' := by
  have c1 : decide (a < 0) = false := decide_eq_false (by omega)
  have c2 : decide ((l.length : Int) < a + wd) = false := decide_eq_false (by omega)
  have HR := Aside0.mk hr0
  have HC := Aside0.mk hc0
  obtain ⟨i0, hi0, _, hsz, _⟩ := info_parts info5
  obtain ⟨A1, hcut1, hA1, hC1⟩ := print_mid_of (P := Try.prog) (Value.int .u8) 0 24 5 .i64 .i64 Try.underlying24 hi0 hsz A0 c0 l a (a + wd) h1 (by omega) h2 hc0
  have HA1 := Aside0.mk hA1
  have HC1 := Aside0.mk hC1
  have hlen : ((l.take (a + wd).toNat).drop a.toNat).length ≤ 8 := by rw [List.length_drop, List.length_take]; omega
  have HYX : Aside0 (∀ x ∈ (l.take (a + wd).toNat).drop a.toNat, 0 ≤ x ∧ x ≤ 255) := ⟨fun x h => hx x (List.mem_of_mem_take (List.mem_of_mem_drop h))⟩
  have hv0 := (provostref21_word.val_bd _ HYX.out).1
  have HY : Aside0 (Kd.C (Kd.int .u8) w A1 ((l.take (a + wd).toNat).drop a.toNat).length ((l.take (a + wd).toNat).drop a.toNat)) := ⟨Kd.C_of_reads (h1 := fun _ => rfl) (HA1.out w (Kd.reads_of_C HR.out))⟩
  have HV := Aside0.mk (provostref21_word.value _ HYX.out hlen)
  clear hr0 hc0 hx hA1 hC1 HA1 HYX hlen
  generalize provostref21_word.val ((l.take (a + wd).toNat).drop a.toNat) = v at *
  generalize hys : (l.take (a + wd).toNat).drop a.toNat = ys at *
  clear hys
  have c3 : decide ((l.length : Int) - (a + wd) < v) = true := decide_eq_true h3
  go_enter Try.func37, Try.ntmps37
  go_wp2_with (go_at_call 36; (with_reducible refine (provostref21_value.calls 12 A1 _ ys v w HY.out HC1.out HV.out).mono ?_); rintro e w' ⟨rfl, ⟨⟨nd, rfl⟩⟩⟩)
  go_ret2
  exact ⟨rfl, by first | exact (Drawn0.refl w).below | exact ((Drawn0.refl w).step _).below⟩
set_option maxHeartbeats 2000000 in
theorem provostref21_word.good (A0 : Option Addr) (c0 : Nat) (l : List Int) (a wd : Int) (w : World) (hr0 : Kd.C (Kd.int .u8) w A0 l.length l) (hc0 : l.length ≤ c0) (h63 : l.length ≤ 4611686018427387903) (ha : a ≤ 4611686018427387903) (hw0 : 0 ≤ wd) (hw8 : wd ≤ 8) (hx : ∀ x ∈ l, 0 ≤ x ∧ x ≤ 255) (h1 : 0 ≤ a) (h2 : a + wd ≤ l.length) (h3 : provostref21_word.val ((l.take (a + wd).toNat).drop a.toNat) ≤ (l.length : Int) - (a + wd)) :
    Calls Try.prog 37 #[.slice A0 l.length c0, .int .i64 a, .int .i64 wd] w fun e w' => e = .returned (.tuple #[.string (strOfNums ((l.take (a + wd + provostref21_word.val ((l.take (a + wd).toNat).drop a.toNat)).toNat).drop (a + wd).toNat)), .int .i64 (a + wd + provostref21_word.val ((l.take (a + wd).toNat).drop a.toNat))]) ∧ Below w.heap.size w w' := by
  have c1 : decide (a < 0) = false := decide_eq_false (by omega)
  have c2 : decide ((l.length : Int) < a + wd) = false := decide_eq_false (by omega)
  have HR := Aside0.mk hr0
  have HC := Aside0.mk hc0
  obtain ⟨i0, hi0, _, hsz, _⟩ := info_parts info5
  obtain ⟨A1, hcut1, hA1, hC1⟩ := print_mid_of (P := Try.prog) (Value.int .u8) 0 24 5 .i64 .i64 Try.underlying24 hi0 hsz A0 c0 l a (a + wd) h1 (by omega) h2 hc0
  have HA1 := Aside0.mk hA1
  have HC1 := Aside0.mk hC1
  have hlen : ((l.take (a + wd).toNat).drop a.toNat).length ≤ 8 := by rw [List.length_drop, List.length_take]; omega
  have HYX : Aside0 (∀ x ∈ (l.take (a + wd).toNat).drop a.toNat, 0 ≤ x ∧ x ≤ 255) := ⟨fun x h => hx x (List.mem_of_mem_take (List.mem_of_mem_drop h))⟩
  have hv0 := (provostref21_word.val_bd _ HYX.out).1
  have HY : Aside0 (Kd.C (Kd.int .u8) w A1 ((l.take (a + wd).toNat).drop a.toNat).length ((l.take (a + wd).toNat).drop a.toNat)) := ⟨Kd.C_of_reads (h1 := fun _ => rfl) (HA1.out w (Kd.reads_of_C HR.out))⟩
  obtain ⟨A2, hcut2, hA2, hC2⟩ := print_mid_of (P := Try.prog) (Value.int .u8) 0 24 5 .i64 .i64 Try.underlying24 hi0 hsz A0 c0 l (a + wd) (a + wd + provostref21_word.val ((l.take (a + wd).toNat).drop a.toNat)) (by omega) (by omega) (by omega) hc0
  have HZ : Aside0 (Kd.C (Kd.int .u8) w A2 ((l.take (a + wd + provostref21_word.val ((l.take (a + wd).toNat).drop a.toNat)).toNat).drop (a + wd).toNat).length ((l.take (a + wd + provostref21_word.val ((l.take (a + wd).toNat).drop a.toNat)).toNat).drop (a + wd).toNat)) := ⟨Kd.C_of_reads (h1 := fun _ => rfl) (hA2 w (Kd.reads_of_C HR.out))⟩
  clear hA2 hC2
  have HV := Aside0.mk (provostref21_word.value _ HYX.out hlen)
  clear hr0 hc0 hx hA1 hC1 HA1 HYX hlen
  generalize provostref21_word.val ((l.take (a + wd).toNat).drop a.toNat) = v at *
  generalize hys : (l.take (a + wd).toNat).drop a.toNat = ys at *
  clear hys
  generalize hzs : (l.take (a + wd + v).toNat).drop (a + wd).toNat = zs at *
  clear hzs
  have c3 : decide ((l.length : Int) - (a + wd) < v) = false := decide_eq_false (by omega)
  go_enter Try.func37, Try.ntmps37
  go_wp2_with (first
    | (go_at_call 36; (with_reducible refine (provostref21_value.calls 12 A1 _ ys v w HY.out HC1.out HV.out).mono ?_); rintro e w' ⟨rfl, ⟨⟨nd, rfl⟩⟩⟩)
    | ((with_reducible refine gate_dst (N := 43) rfl ?_); refine conv_str 24 9 5 (.tmp 42) A2 zs.length _ zs Try.underlying24 Try.underlying5 Try.underlying9 rfl rfl rfl (Kd.C_below HZ.out ((Drawn0.refl w).step _).below) ?_))
  go_ret2
  exact ⟨rfl, by first | exact (Drawn0.refl w).below | exact ((Drawn0.refl w).step _).below⟩
def provostref21_word.f (l : List Int) (a wd : Int) : Option (ByteArray × Int) :=
  if (∀ x ∈ l, 0 ≤ x ∧ x ≤ 255) ∧ l.length ≤ 4611686018427387903 ∧ a ≤ 4611686018427387903 ∧ 0 ≤ wd ∧ wd ≤ 8 then
    if a < 0 then some (⟨#[]⟩, -1) else if (l.length : Int) < a + wd then some (⟨#[]⟩, -1)
    else if (l.length : Int) - (a + wd) < provostref21_word.val ((l.take (a + wd).toNat).drop a.toNat) then some (⟨#[]⟩, -1) else some (strOfNums ((l.take (a + wd + provostref21_word.val ((l.take (a + wd).toNat).drop a.toNat)).toNat).drop (a + wd).toNat), a + wd + provostref21_word.val ((l.take (a + wd).toNat).drop a.toNat))
  else none
theorem provostref21_word.calls (A0 : Option Addr) (c0 : Nat) (l0 : List Int) (a1 : Int) (a2 : Int) (r1 : ByteArray) (r2 : Int) (w : World) (hr0 : Kd.C (Kd.int .u8) w A0 l0.length l0) (hc0 : l0.length ≤ c0) (h : provostref21_word.f l0 a1 a2 = some (r1, r2)) :
    Calls Try.prog 37 #[.slice A0 l0.length c0, .int .i64 a1, .int .i64 a2] w fun e w' => e = .returned (.tuple #[.string r1, .int .i64 r2]) ∧ Below w.heap.size w w' := by
  unfold provostref21_word.f at h
  split at h
  next hq =>
    obtain ⟨q1, q2, q3, q4, q5⟩ := hq
    split at h
    next h1 =>
      simp only [Option.some.injEq, Prod.mk.injEq] at h; obtain ⟨rfl, rfl⟩ := h
      exact provostref21_word.bad0 A0 c0 l0 a1 a2 w hr0 hc0 q2 q3 q4 q5 h1
    next h1 =>
      split at h
      next h2 =>
        simp only [Option.some.injEq, Prod.mk.injEq] at h; obtain ⟨rfl, rfl⟩ := h
        exact provostref21_word.bad1 A0 c0 l0 a1 a2 w hr0 hc0 q2 q3 q4 q5 (by omega) h2
      next h2 =>
        split at h
        next h3 =>
          simp only [Option.some.injEq, Prod.mk.injEq] at h; obtain ⟨rfl, rfl⟩ := h
          exact provostref21_word.bad2 A0 c0 l0 a1 a2 w hr0 hc0 q2 q3 q4 q5 q1 (by omega) (by omega) h3
        next h3 =>
          simp only [Option.some.injEq, Prod.mk.injEq] at h; obtain ⟨rfl, rfl⟩ := h
          exact provostref21_word.good A0 c0 l0 a1 a2 w hr0 hc0 q2 q3 q4 q5 q1 (by omega) (by omega) (by omega)
  next => cases h
end


end Go.Proofs.Ythdkmohgphbdeaa.PImR
