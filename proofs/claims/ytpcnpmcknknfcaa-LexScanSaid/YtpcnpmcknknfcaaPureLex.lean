/- The reference's Scan tells what lex.Scan tells. -/
import Derived.Test.YtpcnpmcknknfcaaPLscx5
import Derived.Test.YtpcnpmcknknfcaaPLscx6
import Derived.Test.YtpcnpmcknknfcaaPLscx5
import Derived.Test.YtpcnpmcknknfcaaPLscx5
import Derived.Test.YtpcnpmcknknfcaaPLscx5
namespace Go.Proofs.Ytpcnpmcknknfcaa.PLsc
open Go.RowKit Go.Proofs.YtpcnpmcknknfcaaW.PrintWords Go.Proofs.YtpcnpmcknknfcaaW.PrintLast Go.Proofs.YtpcnpmcknknfcaaW.PrintMore Go.Proofs.YtpcnpmcknknfcaaW.Mine
set_option linter.unusedVariables false
theorem ev_succ {α : Type} {g : Nat → Option α} {r : α} (h : Ev (fun k => g (k + 1)) r) : Ev g r := Ev.step (fun _ => rfl) h
theorem ev_some {α : Type} {r r' : α} (h : r = r') : Ev (fun _ => some r) r' := by subst h; exact Ev.now r
theorem ev_pos {α : Type} {c : Prop} [Decidable c] {f g : Nat → Option α} {r : α} (h : c) (e : Ev f r) : Ev (fun k => if c then f k else g k) r := by simp only [h, if_true]; exact e
theorem ev_neg {α : Type} {c : Prop} [Decidable c] {f g : Nat → Option α} {r : α} (h : ¬ c) (e : Ev g r) : Ev (fun k => if c then f k else g k) r := by simp only [h, if_false]; exact e
theorem wr {i : Int} (h0 : -9223372036854775808 ≤ i + 1) (h : i + 1 ≤ 9223372036854775807) : wrap64 (i + 1) = i + 1 := by unfold wrap64; omega
/-! texts that go on -/
def tl (T : ByteArray) (i : Nat) : ByteArray := T.extract i T.size
theorem tl_sz (T : ByteArray) (i : Nat) (h : i ≤ T.size) : (tl T i).size = T.size - i := tl_size T i h
theorem bt_list (s : ByteArray) (j : Nat) : bt s (j : Int) = (bytesOf s).getD j 0 := by
  by_cases h : j < s.size
  · obtain ⟨hl, e⟩ := bt_of s j h
    rw [List.getD_eq_getElem?_getD, List.getElem?_eq_getElem hl, ← e]; rfl
  · have hl := bytesOf_length s
    rw [List.getD_eq_getElem?_getD, List.getElem?_eq_none (by omega)]
    unfold bt
    rw [Int.toNat_natCast, dif_neg h]; rfl
theorem bytesOf_ext (T : ByteArray) (a b : Nat) : bytesOf (T.extract a b) = ((bytesOf T).take b).drop a := by
  simp only [bytesOf, ByteArray.data_extract, Array.toList_extract, List.extract_eq_take_drop, List.map_take, List.map_drop, List.drop_take]
theorem bytesOf_tl (T : ByteArray) (i : Nat) : bytesOf (tl T i) = (bytesOf T).drop i := by
  unfold tl
  rw [bytesOf_ext, List.take_of_length_le (by rw [bytesOf_length]; omega)]
theorem bt_tl (T : ByteArray) (i j : Nat) : bt (tl T i) (j : Int) = bt T ((i + j : Nat) : Int) := by
  rw [bt_list, bt_list, bytesOf_tl, List.getD_eq_getElem?_getD, List.getD_eq_getElem?_getD, List.getElem?_drop]
theorem bytes_inj {a b : ByteArray} (h : bytesOf a = bytesOf b) : a = b := by
  have key : ∀ (l m : List UInt8), l.map (fun b : UInt8 => (b.toNat : Int)) = m.map (fun b : UInt8 => (b.toNat : Int)) → l = m := by
    intro l
    induction l with
    | nil => intro m h; cases m with
      | nil => rfl
      | cons y m => simp at h
    | cons x l ih => intro m h; cases m with
      | nil => simp at h
      | cons y m =>
        simp only [List.map_cons, List.cons.injEq] at h
        have hx : x = y := UInt8.toNat_inj.1 (by omega)
        rw [hx, ih m h.2]
  apply ByteArray.ext
  apply Array.ext'
  exact key _ _ h
theorem tl_tl (T : ByteArray) (i n : Nat) (h : i + n ≤ T.size) : (tl T i).extract n (tl T i).size = tl T (i + n) := by
  apply bytes_inj
  have e : (tl T i).extract n (tl T i).size = tl (tl T i) n := rfl
  rw [e, bytesOf_tl, bytesOf_tl, bytesOf_tl, List.drop_drop]
theorem tl_pre (T : ByteArray) (i n : Nat) (h : i + n ≤ T.size) : (tl T i).extract 0 n = T.extract i (i + n) := by
  apply bytes_inj
  rw [bytesOf_ext, bytesOf_tl, bytesOf_ext, List.drop_zero, List.take_drop]
theorem tw_spec (p : Int → Bool) : ∀ (l : List Int), (∀ j : Nat, j < (l.takeWhile p).length → p (l.getD j 0) = true) ∧ ((l.takeWhile p).length < l.length → p (l.getD (l.takeWhile p).length 0) = false)
  | [] => ⟨fun j h => by simp at h, fun h => by simp at h⟩
  | x :: r => by
    obtain ⟨h1, h2⟩ := tw_spec p r
    by_cases hx : p x = true
    · have e : (x :: r).takeWhile p = x :: r.takeWhile p := by simp [List.takeWhile, hx]
      rw [e]
      refine ⟨fun j h => ?_, fun h => ?_⟩
      · match j with
        | 0 => simpa using hx
        | j + 1 => have := h1 j (by simpa using h); simpa using this
      · have := h2 (by simpa using h)
        simpa using this
    · have hx' : p x = false := Bool.eq_false_iff.mpr hx
      have e : (x :: r).takeWhile p = [] := by simp [List.takeWhile, hx']
      rw [e]
      exact ⟨fun j h => by simp at h, fun _ => by simpa using hx'⟩
theorem bgn_spec (p : Int → Bool) (s : ByteArray) : (∀ j : Nat, j < bgn p s → p (bt s j) = true) ∧ (bgn p s < s.size → p (bt s (bgn p s : Nat)) = false) := by
  obtain ⟨h1, h2⟩ := tw_spec p (bytesOf s)
  refine ⟨fun j h => ?_, fun h => ?_⟩
  · rw [bt_list]; exact h1 j h
  · rw [bt_list]; exact h2 (by rw [bytesOf_length]; exact h)
/-! the kinds -/
theorem rletter (c : Int) : provostref05_letter.f c = some (isSml c) := by
  unfold provostref05_letter.f isSml
  by_cases h : c ≥ 97
  · rw [if_pos h, decide_eq_true h, Bool.true_and]
  · rw [if_neg h, decide_eq_false h, Bool.false_and]
theorem rdigit (c : Int) : provostref05_digit.f c = some (isDig c) := by
  unfold provostref05_digit.f isDig
  by_cases h : c ≥ 48
  · rw [if_pos h, decide_eq_true h, Bool.true_and]
  · rw [if_neg h, decide_eq_false h, Bool.false_and]
theorem rinner (c : Int) : provostref05_inner.f c = some (isIn c) := by
  unfold provostref05_inner.f isIn
  rw [rletter]
  simp only [Option.bind_some]
  rw [rdigit]
  simp only [Option.bind_some]
  cases isSml c <;> cases isDig c <;> simp
theorem rmark (c : Int) : provostref05_mark.f c = some (isMark c) := by
  unfold provostref05_mark.f isMark
  by_cases h1 : c = 44
  · rw [if_pos h1]; simp [h1]
  · rw [if_neg h1]
    by_cases h2 : c = 58
    · rw [if_pos h2]; simp [h2]
    · rw [if_neg h2]
      by_cases h3 : c = 60
      · rw [if_pos h3]; simp [h3]
      · rw [if_neg h3]
        by_cases h4 : c = 62
        · rw [if_pos h4]; simp [h4]
        · rw [if_neg h4]
          by_cases h5 : c = 61
          · rw [if_pos h5]; simp [h5]
          · rw [if_neg h5]
            by_cases h6 : c = 40
            · rw [if_pos h6]; simp [h6]
            · rw [if_neg h6, beq_eq_false_iff_ne.2 h1, beq_eq_false_iff_ne.2 h2, beq_eq_false_iff_ne.2 h3, beq_eq_false_iff_ne.2 h4, beq_eq_false_iff_ne.2 h5, beq_eq_false_iff_ne.2 h6]; rfl
/-! a number -/
theorem right_l0 (s : ByteArray) (h9 : s.size ≤ 9) (hd : ∀ j : Nat, j < s.size → isDig (bt s j) = true) (d : Nat) : ∀ i : Nat, s.size - i = d → i ≤ s.size → Ev (fun k => provostref05_Right.l0 k s (i : Int)) true := by
  induction d with
  | zero =>
    intro i hd' hi
    refine ev_succ ?_
    simp only [provostref05_Right.l0]
    exact ev_neg (by omega) (ev_some rfl)
  | succ d ih =>
    intro i hd' hi
    refine ev_succ ?_
    simp only [provostref05_Right.l0]
    rw [rdigit, hd i (by omega), wr (i := (i : Int)) (by omega) (by omega)]
    simp only [Option.bind_some]
    exact ev_pos (by omega) (ev_pos (by omega) (ev_pos trivial (ih (i + 1) (by omega) (by omega))))
def rightB (s : ByteArray) : Bool := decide (s.size ≤ 9) && !(decide (s.size > 1) && decide (bt s 0 = 48))
theorem right_ev (s : ByteArray) (h1 : 1 ≤ s.size) (hd : ∀ j : Nat, j < s.size → isDig (bt s j) = true) : Ev (fun k => provostref05_Right.f k s) (rightB s) := by
  unfold provostref05_Right.f rightB
  refine ev_neg (by omega) ?_
  by_cases h9 : s.size ≤ 9
  · rw [decide_eq_true h9, Bool.true_and]
    refine ev_neg (by omega) ?_
    have go : Ev (fun k => provostref05_Right.j0 k s false) true := by
      refine ev_succ ?_
      simp only [provostref05_Right.j0]
      exact ev_neg (by decide) (right_l0 s h9 hd _ 0 rfl (Nat.zero_le _))
    by_cases h2 : s.size > 1
    · rw [decide_eq_true h2, Bool.true_and]
      refine ev_pos (by omega) (ev_pos (by omega) ?_)
      by_cases h3 : bt s 0 = 48
      · rw [decide_eq_true h3, beq_iff_eq.2 h3]
        refine ev_succ ?_
        simp only [provostref05_Right.j0]
        exact ev_pos trivial (ev_some rfl)
      · rw [decide_eq_false h3, beq_eq_false_iff_ne.2 h3]
        exact go
    · rw [decide_eq_false h2, Bool.false_and]
      exact ev_neg (by omega) go
  · rw [decide_eq_false h9, Bool.false_and]
    refine ev_pos (by omega) ?_
    refine ev_succ ?_
    simp only [provostref05_Right.j0]
    exact ev_pos trivial (ev_some rfl)
theorem value_ev (s : ByteArray) (h9 : s.size ≤ 9) (hd : ∀ c ∈ bytesOf s, isDig c = true) : Ev (fun k => provostref05_Value.f k s) (valF (bytesOf s)) := by
  have hl := bytesOf_length s
  have key : ∀ d i : Nat, s.size - i = d → i ≤ s.size → Ev (fun k => provostref05_Value.l0 k s (valF ((bytesOf s).take i)) (i : Int)) (valF (bytesOf s)) := by
    intro d
    induction d with
    | zero =>
      intro i hd' hi
      refine ev_succ ?_
      simp only [provostref05_Value.l0]
      rw [List.take_of_length_le (by omega)]
      exact ev_neg (by omega) (ev_some rfl)
    | succ d ih =>
      intro i hd' hi
      have hlt : i < (bytesOf s).length := by omega
      obtain ⟨v0, v1⟩ := valF_9 i ((bytesOf s).take i) (by rw [List.length_take]; omega) (by omega) (fun c hc => hd c (List.mem_of_mem_take hc))
      have nx := ih (i + 1) (by omega) (by omega)
      have hb : bt s (i : Int) = (bytesOf s)[i] := by obtain ⟨_, e⟩ := bt_of s i (by omega); exact e.symm
      have hc := hd _ (List.getElem_mem hlt)
      rw [List.take_succ_eq_append_getElem hlt, valF_snoc] at nx
      simp only [isDig, Bool.and_eq_true, decide_eq_true_eq] at hc
      refine ev_succ ?_
      simp only [provostref05_Value.l0]
      rw [hb, wr (i := (i : Int)) (by omega) (by omega)]
      have e : wrap64 (wrap64 (10 * valF ((bytesOf s).take i)) + ((bytesOf s)[i] - 48) % 256) = 10 * valF ((bytesOf s).take i) + ((bytesOf s)[i] - 48) := by
        unfold wrap64; omega
      rw [e]
      exact ev_pos (by omega) (ev_pos (by omega) nx)
  unfold provostref05_Value.f
  have := key s.size 0 (by omega) (by omega)
  simpa [valF] using this
/-! what is told does not hang on how often it may be asked -/
theorem scan_more : ∀ (n k m : Nat) (s : ByteArray) (line col : Int) (told : List S40) (any : Bool), s.size ≤ n → s.size < k → s.size < m → 1 ≤ line → 1 ≤ col → scanR k s line col told any = scanR m s line col told any := by
  intro n
  induction n with
  | zero =>
    intro k m s line col told any hn hk hm hl hc
    obtain ⟨k, rfl⟩ : ∃ q, k = q + 1 := ⟨k - 1, by omega⟩
    obtain ⟨m, rfl⟩ : ∃ q, m = q + 1 := ⟨m - 1, by omega⟩
    have h0 : s.size = 0 := by omega
    rw [scanR, if_pos h0]
    conv => rhs; rw [scanR, if_pos h0]
  | succ n ih =>
    intro k m s line col told any hn hk hm hl hc
    obtain ⟨k, rfl⟩ : ∃ q, k = q + 1 := ⟨k - 1, by omega⟩
    obtain ⟨m, rfl⟩ : ∃ q, m = q + 1 := ⟨m - 1, by omega⟩
    rw [scanR]
    conv => rhs; rw [scanR]
    by_cases h0 : s.size = 0
    · rw [if_pos h0, if_pos h0]
    · rw [if_neg h0, if_neg h0]
      by_cases he : (stepF s line col told any).1 = 0
      · rw [if_pos he, if_pos he]
        obtain ⟨d1, _, d3, _, d5, _⟩ := step_bd s line col told any (by omega) he hl hc
        exact ih _ _ _ _ _ _ _ (by omega) (by omega) (by omega) d3 d5
      · rw [if_neg he, if_neg he]
end Go.Proofs.Ytpcnpmcknknfcaa.PLsc
