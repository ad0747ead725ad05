/- Texts that go on; the rest of a scan. -/
import Derived.Test.YtpcnpmcknknfcaaPLshx4
namespace Go.Proofs.Ytpcnpmcknknfcaa.PLsh
open Go.RowKit Go.Proofs.YtpcnpmcknknfcaaW.PrintWords Go.Proofs.YtpcnpmcknknfcaaW.PrintLast Go.Proofs.YtpcnpmcknknfcaaW.PrintMore Go.Proofs.YtpcnpmcknknfcaaW.Mine
set_option linter.unusedVariables false
abbrev Tok := S40
abbrev Res := List Tok × Int × Int × Int
theorem ev_succ {α : Type} {g : Nat → Option α} {r : α} (h : Ev (fun k => g (k + 1)) r) : Ev g r := Ev.step (fun _ => rfl) h
theorem ev_some {α : Type} {r r' : α} (h : r = r') : Ev (fun _ => some r) r' := by subst h; exact Ev.now r
theorem ev_pos {α : Type} {c : Prop} [Decidable c] {f g : Nat → Option α} {r : α} (h : c) (e : Ev f r) : Ev (fun k => if c then f k else g k) r := by simp only [h, if_true]; exact e
theorem ev_neg {α : Type} {c : Prop} [Decidable c] {f g : Nat → Option α} {r : α} (h : ¬ c) (e : Ev g r) : Ev (fun k => if c then f k else g k) r := by simp only [h, if_false]; exact e
theorem wr {i : Int} (h0 : -9223372036854775808 ≤ i + 1) (h : i + 1 ≤ 9223372036854775807) : wrap64 (i + 1) = i + 1 := by unfold wrap64; omega
/-! texts that go on -/
def tl (T : ByteArray) (i : Nat) : ByteArray := T.extract i T.size
theorem tl_sz (T : ByteArray) (i : Nat) (h : i ≤ T.size) : (tl T i).size = T.size - i := tl_size T i h
theorem bt_list (s : ByteArray) (j : Nat) : bt s (j : Int) = (bytesOf s).getD j 0 := by
  by_cases h : j < s.size
  · obtain ⟨hl, e⟩ := bt_of s j h
    rw [List.getD_eq_getElem?_getD, List.getElem?_eq_getElem hl, ← e]; rfl
  · have hl := bytesOf_length s
    rw [List.getD_eq_getElem?_getD, List.getElem?_eq_none (by omega)]
    unfold bt
    rw [Int.toNat_natCast, dif_neg h]; rfl
theorem bytesOf_ext (T : ByteArray) (a b : Nat) : bytesOf (T.extract a b) = ((bytesOf T).take b).drop a := by
  simp only [bytesOf, ByteArray.data_extract, Array.toList_extract, List.extract_eq_take_drop, List.map_take, List.map_drop, List.drop_take]
theorem bytesOf_tl (T : ByteArray) (i : Nat) : bytesOf (tl T i) = (bytesOf T).drop i := by
  unfold tl
  rw [bytesOf_ext, List.take_of_length_le (by rw [bytesOf_length]; omega)]
theorem bt_tl (T : ByteArray) (i j : Nat) : bt (tl T i) (j : Int) = bt T ((i + j : Nat) : Int) := by
  rw [bt_list, bt_list, bytesOf_tl, List.getD_eq_getElem?_getD, List.getD_eq_getElem?_getD, List.getElem?_drop]
theorem bytes_inj {a b : ByteArray} (h : bytesOf a = bytesOf b) : a = b := by
  have key : ∀ (l m : List UInt8), l.map (fun b : UInt8 => (b.toNat : Int)) = m.map (fun b : UInt8 => (b.toNat : Int)) → l = m := by
    intro l
    induction l with
    | nil => intro m h; cases m with
      | nil => rfl
      | cons y m => simp at h
    | cons x l ih => intro m h; cases m with
      | nil => simp at h
      | cons y m =>
        simp only [List.map_cons, List.cons.injEq] at h
        have hx : x = y := UInt8.toNat_inj.1 (by omega)
        rw [hx, ih m h.2]
  apply ByteArray.ext
  apply Array.ext'
  exact key _ _ h
theorem tl_tl (T : ByteArray) (i n : Nat) (h : i + n ≤ T.size) : (tl T i).extract n (tl T i).size = tl T (i + n) := by
  apply bytes_inj
  have e : (tl T i).extract n (tl T i).size = tl (tl T i) n := rfl
  rw [e, bytesOf_tl, bytesOf_tl, bytesOf_tl, List.drop_drop]
theorem tl_pre (T : ByteArray) (i n : Nat) (h : i + n ≤ T.size) : (tl T i).extract 0 n = T.extract i (i + n) := by
  apply bytes_inj
  rw [bytesOf_ext, bytesOf_tl, bytesOf_ext, List.drop_zero, List.take_drop]
theorem tw_spec (p : Int → Bool) : ∀ (l : List Int), (∀ j : Nat, j < (l.takeWhile p).length → p (l.getD j 0) = true) ∧ ((l.takeWhile p).length < l.length → p (l.getD (l.takeWhile p).length 0) = false)
  | [] => ⟨fun j h => by simp at h, fun h => by simp at h⟩
  | x :: r => by
    obtain ⟨h1, h2⟩ := tw_spec p r
    by_cases hx : p x = true
    · have e : (x :: r).takeWhile p = x :: r.takeWhile p := by simp [List.takeWhile, hx]
      rw [e]
      refine ⟨fun j h => ?_, fun h => ?_⟩
      · match j with
        | 0 => simpa using hx
        | j + 1 => have := h1 j (by simpa using h); simpa using this
      · have := h2 (by simpa using h)
        simpa using this
    · have hx' : p x = false := Bool.eq_false_iff.mpr hx
      have e : (x :: r).takeWhile p = [] := by simp [List.takeWhile, hx']
      rw [e]
      exact ⟨fun j h => by simp at h, fun _ => by simpa using hx'⟩
theorem bgn_spec (p : Int → Bool) (s : ByteArray) : (∀ j : Nat, j < bgn p s → p (bt s j) = true) ∧ (bgn p s < s.size → p (bt s (bgn p s : Nat)) = false) := by
  obtain ⟨h1, h2⟩ := tw_spec p (bytesOf s)
  refine ⟨fun j h => ?_, fun h => ?_⟩
  · rw [bt_list]; exact h1 j h
  · rw [bt_list]; exact h2 (by rw [bytesOf_length]; exact h)
/-! what is told does not hang on how often it may be asked -/
theorem scan_more : ∀ (n k m : Nat) (s : ByteArray) (line col : Int) (told : List Tok) (any : Bool), s.size ≤ n → s.size < k → s.size < m → 1 ≤ line → 1 ≤ col → scanR k s line col told any = scanR m s line col told any := by
  intro n
  induction n with
  | zero =>
    intro k m s line col told any hn hk hm hl hc
    obtain ⟨k, rfl⟩ : ∃ q, k = q + 1 := ⟨k - 1, by omega⟩
    obtain ⟨m, rfl⟩ : ∃ q, m = q + 1 := ⟨m - 1, by omega⟩
    have h0 : s.size = 0 := by omega
    rw [scanR, if_pos h0]
    conv => rhs; rw [scanR, if_pos h0]
  | succ n ih =>
    intro k m s line col told any hn hk hm hl hc
    obtain ⟨k, rfl⟩ : ∃ q, k = q + 1 := ⟨k - 1, by omega⟩
    obtain ⟨m, rfl⟩ : ∃ q, m = q + 1 := ⟨m - 1, by omega⟩
    rw [scanR]
    conv => rhs; rw [scanR]
    by_cases h0 : s.size = 0
    · rw [if_pos h0, if_pos h0]
    · rw [if_neg h0, if_neg h0]
      by_cases he : (stepF s line col told any).1 = 0
      · rw [if_pos he, if_pos he]
        obtain ⟨d1, _, d3, _, d5, _⟩ := step_bd s line col told any (by omega) he hl hc
        exact ih _ _ _ _ _ _ _ (by omega) (by omega) (by omega) d3 d5
      · rw [if_neg he, if_neg he]
/-- what the rest of a text, from place i on, tells -/
def rest (T : ByteArray) (told : List Tok) (line : Int) (frm : Nat) (any : Bool) (i : Nat) : Res := scanR ((tl T i).size + 1) (tl T i) line ((i : Int) - frm + 1) told any
theorem rest_step (T : ByteArray) (told : List Tok) (line : Int) (frm : Nat) (any : Bool) (i : Nat) (hi : i < T.size) (hf : frm ≤ i) (hl : 1 ≤ line) (i2 : Nat) (l2 : Int) (c2 : Int) (t2 : List Tok) (a2 : Bool) (f2 : Nat) (h2 : i2 ≤ T.size) (hf2 : f2 ≤ i2) (hc2 : c2 = (i2 : Int) - f2 + 1)
    (h : stepF (tl T i) line ((i : Int) - frm + 1) told any = (0, tl T i2, l2, c2, t2, a2)) : rest T told line frm any i = rest T t2 l2 f2 a2 i2 := by
  have hsz := tl_sz T i (by omega)
  have hs2 := tl_sz T i2 h2
  unfold rest
  rw [scanR, if_neg (by omega)]
  have hb := step_bd (tl T i) line ((i : Int) - frm + 1) told any (by omega) (by rw [h]) hl (by omega)
  rw [h] at hb ⊢
  simp only at hb
  rw [if_pos rfl]
  obtain ⟨d1, _, d3, _, d5, _⟩ := hb
  have d1 : (tl T i2).size < (tl T i).size := d1
  have d3 : 1 ≤ l2 := d3
  have d5 : 1 ≤ c2 := d5
  subst hc2
  show scanR (tl T i).size (tl T i2) l2 ((i2 : Int) - f2 + 1) t2 a2 = scanR ((tl T i2).size + 1) (tl T i2) l2 ((i2 : Int) - f2 + 1) t2 a2
  exact scan_more _ _ _ _ _ _ _ _ (Nat.le_refl _) d1 (by omega) d3 d5
theorem rest_bad (T : ByteArray) (told : List Tok) (line : Int) (frm : Nat) (any : Bool) (i : Nat) (hi : i < T.size) (e : Int) (he : e ≠ 0) (s2 : ByteArray) (l2 c2 : Int) (t2 : List Tok) (a2 : Bool)
    (h : stepF (tl T i) line ((i : Int) - frm + 1) told any = (e, s2, l2, c2, t2, a2)) : rest T told line frm any i = ([], e, l2, c2) := by
  have hsz := tl_sz T i (by omega)
  unfold rest
  rw [scanR, if_neg (by omega), h, if_neg he]
end Go.Proofs.Ytpcnpmcknknfcaa.PLsh
