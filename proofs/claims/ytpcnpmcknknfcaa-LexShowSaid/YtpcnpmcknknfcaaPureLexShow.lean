/- LexShow: Show and Lines tell what the reference tells. -/
import Derived.Test.YtpcnpmcknknfcaaPureLexT
import Derived.Test.YtpcnpmcknknfcaaPLshx4
import Derived.Test.YtpcnpmcknknfcaaPLshx4
import Derived.Test.YtpcnpmcknknfcaaPLshx6
import Derived.Test.YtpcnpmcknknfcaaPLshx6
import Derived.Test.YtpcnpmcknknfcaaPLshx5
import Derived.Test.YtpcnpmcknknfcaaPLshx7
namespace Go.Proofs.Ytpcnpmcknknfcaa.PLsh
open Go.RowKit Go.Proofs.YtpcnpmcknknfcaaW.PrintWords Go.Proofs.YtpcnpmcknknfcaaW.PrintLast Go.Proofs.YtpcnpmcknknfcaaW.PrintMore Go.Proofs.YtpcnpmcknknfcaaW.Mine
set_option linter.unusedVariables false
def mkB (l : List UInt8) : ByteArray := ⟨l.toArray⟩
theorem mk_self (s : ByteArray) : mkB s.data.toList = s := rfl
/-! the kinds -/
theorem rletter (c : Int) : provostref05_letter.f c = some (isSml c) := by
  unfold provostref05_letter.f isSml
  by_cases h : c ≥ 97
  · rw [if_pos h, decide_eq_true h, Bool.true_and]
  · rw [if_neg h, decide_eq_false h, Bool.false_and]
theorem rdigit (c : Int) : provostref05_digit.f c = some (isDig c) := by
  unfold provostref05_digit.f isDig
  by_cases h : c ≥ 48
  · rw [if_pos h, decide_eq_true h, Bool.true_and]
  · rw [if_neg h, decide_eq_false h, Bool.false_and]
theorem rinner (c : Int) : provostref05_inner.f c = some (isIn c) := by
  unfold provostref05_inner.f isIn
  rw [rletter]
  simp only [Option.bind_some]
  rw [rdigit]
  simp only [Option.bind_some]
  cases isSml c <;> cases isDig c <;> simp
theorem rmark (c : Int) : provostref05_mark.f c = some (isMark c) := by
  unfold provostref05_mark.f isMark
  by_cases h1 : c = 44
  · rw [if_pos h1]; simp [h1]
  · rw [if_neg h1]
    by_cases h2 : c = 58
    · rw [if_pos h2]; simp [h2]
    · rw [if_neg h2]
      by_cases h3 : c = 60
      · rw [if_pos h3]; simp [h3]
      · rw [if_neg h3]
        by_cases h4 : c = 62
        · rw [if_pos h4]; simp [h4]
        · rw [if_neg h4]
          by_cases h5 : c = 61
          · rw [if_pos h5]; simp [h5]
          · rw [if_neg h5]
            by_cases h6 : c = 40
            · rw [if_pos h6]; simp [h6]
            · rw [if_neg h6, beq_eq_false_iff_ne.2 h1, beq_eq_false_iff_ne.2 h2, beq_eq_false_iff_ne.2 h3, beq_eq_false_iff_ne.2 h4, beq_eq_false_iff_ne.2 h5, beq_eq_false_iff_ne.2 h6]; rfl
theorem bgn_full (p : Int → Bool) (s : ByteArray) (h : ∀ c ∈ bytesOf s, p c = true) : bgn p s = s.size := by
  unfold bgn
  have := List.takeWhile_append_of_pos (l₂ := []) h
  rw [List.append_nil, List.takeWhile_nil, List.append_nil] at this
  rw [this, bytesOf_length]
theorem full_bgn (p : Int → Bool) (s : ByteArray) (h : bgn p s = s.size) : ∀ c ∈ bytesOf s, p c = true := by
  have := bgn_all p s
  rw [h, List.take_of_length_le (by rw [bytesOf_length]; omega)] at this
  exact this
/-! a number, whatever the text -/
theorem rright_l0 (s : ByteArray) (h9 : s.size ≤ 9) (d : Nat) : ∀ i : Nat, bgn isDig s - i = d → i ≤ bgn isDig s → Ev (fun k => provostref05_Right.l0 k s (i : Int)) (decide (bgn isDig s = s.size)) := by
  have hle := bgn_le isDig s
  obtain ⟨s1, s2⟩ := bgn_spec isDig s
  induction d with
  | zero =>
    intro i hd hi
    obtain rfl : i = bgn isDig s := by omega
    refine ev_succ ?_
    simp only [provostref05_Right.l0]
    by_cases h : bgn isDig s < s.size
    · rw [decide_eq_false (by omega), rdigit, s2 h]
      simp only [Option.bind_some]
      exact ev_pos (by omega) (ev_pos (by omega) (ev_neg (by decide) (ev_some rfl)))
    · rw [decide_eq_true (by omega)]
      exact ev_neg (by omega) (ev_some rfl)
  | succ d ih =>
    intro i hd hi
    refine ev_succ ?_
    simp only [provostref05_Right.l0]
    rw [rdigit, s1 i (by omega), wr (i := (i : Int)) (by omega) (by omega)]
    simp only [Option.bind_some]
    exact ev_pos (by omega) (ev_pos (by omega) (ev_pos trivial (ih (i + 1) (by omega) (by omega))))
def rightN (s : ByteArray) : Bool := decide (1 ≤ s.size) && decide (s.size ≤ 9) && !(decide (s.size > 1) && decide (bt s 0 = 48)) && decide (bgn isDig s = s.size)
theorem rright_ev (s : ByteArray) : Ev (fun k => provostref05_Right.f k s) (rightN s) := by
  have no : Ev (fun k => provostref05_Right.j0 k s true) false := by
    refine ev_succ ?_
    simp only [provostref05_Right.j0]
    exact ev_pos trivial (ev_some rfl)
  unfold provostref05_Right.f rightN
  by_cases h1 : 1 ≤ s.size
  · refine ev_neg (by omega) ?_
    by_cases h9 : s.size ≤ 9
    · rw [decide_eq_true h1, decide_eq_true h9, Bool.true_and, Bool.true_and]
      refine ev_neg (by omega) ?_
      have go : Ev (fun k => provostref05_Right.j0 k s false) (decide (bgn isDig s = s.size)) := by
        refine ev_succ ?_
        simp only [provostref05_Right.j0]
        exact ev_neg (by decide) (rright_l0 s h9 _ 0 rfl (Nat.zero_le _))
      by_cases h2 : s.size > 1
      · rw [decide_eq_true h2, Bool.true_and]
        refine ev_pos (by omega) (ev_pos (by omega) ?_)
        by_cases h3 : bt s 0 = 48
        · rw [decide_eq_true h3, beq_iff_eq.2 h3]
          exact no
        · rw [decide_eq_false h3, beq_eq_false_iff_ne.2 h3]
          exact go
      · rw [decide_eq_false h2, Bool.false_and]
        exact ev_neg (by omega) go
    · rw [decide_eq_false h9, Bool.and_false, Bool.false_and, Bool.false_and]
      exact ev_pos (by omega) no
  · rw [decide_eq_false h1, Bool.false_and, Bool.false_and, Bool.false_and]
    exact ev_pos (by omega) no
theorem value_ev (s : ByteArray) (h9 : s.size ≤ 9) (hd : ∀ c ∈ bytesOf s, isDig c = true) : Ev (fun k => provostref05_Value.f k s) (valF (bytesOf s)) := by
  have hl := bytesOf_length s
  have key : ∀ d i : Nat, s.size - i = d → i ≤ s.size → Ev (fun k => provostref05_Value.l0 k s (valF ((bytesOf s).take i)) (i : Int)) (valF (bytesOf s)) := by
    intro d
    induction d with
    | zero =>
      intro i hd' hi
      refine ev_succ ?_
      simp only [provostref05_Value.l0]
      rw [List.take_of_length_le (by omega)]
      exact ev_neg (by omega) (ev_some rfl)
    | succ d ih =>
      intro i hd' hi
      have hlt : i < (bytesOf s).length := by omega
      obtain ⟨v0, v1⟩ := valF_9 i ((bytesOf s).take i) (by rw [List.length_take]; omega) (by omega) (fun c hc => hd c (List.mem_of_mem_take hc))
      have nx := ih (i + 1) (by omega) (by omega)
      have hb : bt s (i : Int) = (bytesOf s)[i] := by obtain ⟨_, e⟩ := bt_of s i (by omega); exact e.symm
      have hc := hd _ (List.getElem_mem hlt)
      rw [List.take_succ_eq_append_getElem hlt, valF_snoc] at nx
      simp only [isDig, Bool.and_eq_true, decide_eq_true_eq] at hc
      refine ev_succ ?_
      simp only [provostref05_Value.l0]
      rw [hb, wr (i := (i : Int)) (by omega) (by omega)]
      have e : wrap64 (wrap64 (10 * valF ((bytesOf s).take i)) + ((bytesOf s)[i] - 48) % 256) = 10 * valF ((bytesOf s).take i) + ((bytesOf s)[i] - 48) := by
        unfold wrap64; omega
      rw [e]
      exact ev_pos (by omega) (ev_pos (by omega) nx)
  unfold provostref05_Value.f
  have := key s.size 0 (by omega) (by omega)
  simpa [valF] using this
theorem rlegal_l0 (s : ByteArray) (h24 : s.size ≤ 24) (d : Nat) : ∀ i : Nat, bgn isIn s - i = d → i ≤ bgn isIn s → Ev (fun k => provostref05_Legal.l0 k s (i : Int)) (decide (bgn isIn s = s.size)) := by
  have hle := bgn_le isIn s
  obtain ⟨s1, s2⟩ := bgn_spec isIn s
  induction d with
  | zero =>
    intro i hd hi
    obtain rfl : i = bgn isIn s := by omega
    refine ev_succ ?_
    simp only [provostref05_Legal.l0]
    by_cases h : bgn isIn s < s.size
    · rw [decide_eq_false (by omega), rinner, s2 h]
      simp only [Option.bind_some]
      exact ev_pos (by omega) (ev_pos (by omega) (ev_neg (by decide) (ev_some rfl)))
    · rw [decide_eq_true (by omega)]
      exact ev_neg (by omega) (ev_some rfl)
  | succ d ih =>
    intro i hd hi
    refine ev_succ ?_
    simp only [provostref05_Legal.l0]
    rw [rinner, s1 i (by omega), wr (i := (i : Int)) (by omega) (by omega)]
    simp only [Option.bind_some]
    exact ev_pos (by omega) (ev_pos (by omega) (ev_pos trivial (ih (i + 1) (by omega) (by omega))))
theorem rlegal_ev (s : ByteArray) : Ev (fun k => provostref05_Legal.f k s) (legF s) := by
  have no : Ev (fun k => provostref05_Legal.j0 k s true) false := by
    refine ev_succ ?_
    simp only [provostref05_Legal.j0]
    exact ev_pos trivial (ev_some rfl)
  unfold provostref05_Legal.f legF
  by_cases h0 : 0 < s.size
  · refine ev_neg (by omega) ?_
    by_cases h24 : s.size ≤ 24
    · refine ev_neg (by omega) (ev_pos (by omega) ?_)
      rw [rletter]
      simp only [Option.bind_some]
      rw [decide_eq_true h0, decide_eq_true h24, Bool.true_and, Bool.and_true]
      cases isSml (bt s 0) with
      | false => rw [Bool.and_false]; exact no
      | true =>
        rw [Bool.and_true]
        refine ev_succ ?_
        simp only [provostref05_Legal.j0]
        exact ev_neg (by decide) (rlegal_l0 s h24 _ 0 rfl (Nat.zero_le _))
    · rw [decide_eq_false h24]
      exact ev_pos (by omega) no
  · rw [decide_eq_false h0, Bool.and_false, Bool.false_and]
    exact ev_pos (by omega) no
theorem same_l0 (l : List Tok) (hl : l.length ≤ 100000) (d : Nat) : ∀ i : Nat, l.length - i = d → i ≤ l.length → Ev (fun k => provostlaw05_Same.l0 k l l (i : Int)) true := by
  induction d with
  | zero =>
    intro i hd hi
    refine ev_succ ?_
    simp only [provostlaw05_Same.l0]
    exact ev_neg (by omega) (ev_some rfl)
  | succ d ih =>
    intro i hd hi
    refine ev_succ ?_
    simp only [provostlaw05_Same.l0]
    rw [wr (i := (i : Int)) (by omega) (by omega)]
    exact ev_pos (by omega) (ev_pos (by omega) (ev_pos (by omega) (ev_neg (by simp) (ih (i + 1) (by omega) (by omega)))))
theorem same_ev (l : List Tok) (hl : l.length ≤ 100000) : Ev (fun k => provostlaw05_Same.f k l l) true := by
  unfold provostlaw05_Same.f
  exact ev_pos rfl (same_l0 l hl _ 0 rfl (Nat.zero_le _))
/-! the tokens that may be written down -/
theorem num_right (s : ByteArray) (v : Int) : (decide ((numF s).1 > 0) && ((numF s).1 == (s.size : Int)) && ((numF s).2 == v)) = (rightN s && (v == valF (bytesOf s))) := by
  have hle := bgn_le isDig s
  have hnf : numF s = if badN s (bgn isDig s) then ((0 : Int), (0 : Int)) else (((bgn isDig s : Nat) : Int), valF ((bytesOf s).take (bgn isDig s))) := rfl
  unfold rightN
  by_cases hb : badN s (bgn isDig s)
  · rw [hnf, if_pos hb]
    have e : (decide (1 ≤ s.size) && decide (s.size ≤ 9) && !(decide (s.size > 1) && decide (bt s 0 = 48)) && decide (bgn isDig s = s.size)) = false := by
      rw [Bool.eq_false_iff]
      intro h
      simp only [Bool.and_eq_true, decide_eq_true_eq, Bool.not_eq_true', Bool.and_eq_false_iff, decide_eq_false_iff_not] at h
      obtain ⟨⟨⟨h1, h2⟩, h3⟩, h4⟩ := h
      unfold badN at hb
      rw [h4] at hb
      have h5 : ¬ (s.size < s.size ∧ isIn (bt s (s.size : Nat)) = true) := fun h => absurd h.1 (by omega)
      omega
    rw [e]; rfl
  · rw [hnf, if_neg hb]
    by_cases hs : bgn isDig s = s.size
    · have hb2 := hb
      unfold badN at hb2
      rw [hs] at hb2 ⊢
      rw [List.take_of_length_le (by rw [bytesOf_length]; omega)]
      have e : (decide (1 ≤ s.size) && decide (s.size ≤ 9) && !(decide (s.size > 1) && decide (bt s 0 = 48)) && decide (s.size = s.size)) = true := by
        simp only [Bool.and_eq_true, decide_eq_true_eq, Bool.not_eq_true', Bool.and_eq_false_iff, decide_eq_false_iff_not]
        refine ⟨⟨⟨by omega, by omega⟩, ?_⟩, trivial⟩
        by_cases h : s.size > 1
        · exact Or.inr (fun h48 => hb2 (Or.inr (Or.inr (Or.inl ⟨h, h48⟩))))
        · exact Or.inl h
      rw [e, Bool.true_and]
      have h1 : decide (((s.size : Nat) : Int) > 0) = true := decide_eq_true (by omega)
      show (decide (((s.size : Nat) : Int) > 0) && (((s.size : Nat) : Int) == (s.size : Int)) && (valF (bytesOf s) == v)) = (v == valF (bytesOf s))
      rw [h1, beq_self_eq_true, Bool.true_and, Bool.true_and]
      exact BEq.comm
    · have h1 : (((bgn isDig s : Nat) : Int) == (s.size : Int)) = false := beq_eq_false_iff_ne.2 (by omega)
      show (decide (((bgn isDig s : Nat) : Int) > 0) && (((bgn isDig s : Nat) : Int) == (s.size : Int)) && (valF ((bytesOf s).take (bgn isDig s)) == v)) = _
      rw [h1, Bool.and_false, Bool.false_and, decide_eq_false hs, Bool.and_false, Bool.false_and]
theorem fits_ev (t : Tok) : Ev (fun k => provostref05_fits.f k t.f0 t.f1 t.f2 t.f3 t.f4) (rightT t) := by
  unfold provostref05_fits.f rightT
  by_cases k1 : t.f0 = 1
  · rw [if_pos k1]
    refine ev_pos k1 (Ev.bind (rlegal_ev t.f1) ?_)
    cases legF t.f1 with
    | true => exact ev_pos rfl (ev_some rfl)
    | false => exact ev_neg (by decide) (ev_some rfl)
  · rw [if_neg k1]
    refine ev_neg k1 ?_
    by_cases k2 : t.f0 = 2
    · rw [if_pos k2, num_right]
      refine ev_pos k2 (Ev.bind (rright_ev t.f1) ?_)
      cases hr : rightN t.f1 with
      | true =>
        have hr2 := hr
        unfold rightN at hr2
        simp only [Bool.and_eq_true, decide_eq_true_eq] at hr2
        exact ev_pos rfl (Ev.bind (value_ev t.f1 hr2.1.1.2 (full_bgn isDig t.f1 hr2.2)) (ev_some rfl))
      | false => exact ev_neg (by decide) (ev_some rfl)
    · rw [if_neg k2]
      refine ev_neg k2 ?_
      by_cases k3 : t.f0 = 3
      · refine ev_pos k3 ?_
        rw [if_pos k3, rmark]
        simp only [Option.bind_some]
        by_cases h1 : t.f1.size = 1
        · rw [decide_eq_true h1, Bool.true_and]
          refine ev_pos (by omega) (ev_pos (by omega) ?_)
          cases isMark (bt t.f1 0) with
          | true => exact ev_pos rfl (ev_some rfl)
          | false => exact ev_neg (by decide) (ev_some rfl)
        · rw [decide_eq_false h1]
          exact ev_neg (by omega) (ev_some rfl)
      · refine ev_neg k3 ?_
        rw [if_neg k3]
        by_cases k4 : t.f0 = 4
        · rw [beq_iff_eq.2 k4, Bool.true_and]
          refine ev_pos k4 ?_
          by_cases h1 : t.f1.size = 0
          · rw [decide_eq_true h1]
            refine ev_pos ?_ (ev_some rfl)
            rw [ByteArray.toList_eq]
            exact List.eq_nil_of_length_eq_zero (by simpa using h1)
          · rw [decide_eq_false h1]
            refine ev_neg ?_ (ev_some rfl)
            rw [ByteArray.toList_eq]
            intro e
            have h2 : t.f1.data.toList.length = t.f1.size := by simp
            rw [e] at h2
            exact h1 h2.symm
        · rw [beq_eq_false_iff_ne.2 k4]
          exact ev_neg k4 (ev_some rfl)
/-! Show -/
theorem mk_app (a : List UInt8) (s : ByteArray) : mkB a ++ s = mkB (a ++ s.data.toList) := by
  apply ByteArray.ext
  simp [mkB]
theorem mk_size (l : List UInt8) : (mkB l).size = l.length := by
  have := bytesOf_length (mkB l)
  have e : bytesOf (mkB l) = l.map (fun b : UInt8 => (b.toNat : Int)) := by simp [bytesOf, mkB]
  rw [e, List.length_map] at this
  omega
theorem num10 : strOfNums [10] = mkB [10] := by decide +kernel
theorem show_l0 (L : List Tok) (hL : L.length ≤ 3000) (d : Nat) : ∀ (i : Nat) (acc : List UInt8) (begun : Bool), L.length - i = d → i ≤ L.length → acc.length ≤ 26 * i → Ev (fun k => provostref05_Show.l0 k L (mkB acc) (!begun) (i : Int)) (showR (showG (L.drop i) acc begun)) := by
  induction d with
  | zero =>
    intro i acc begun hd hi ha
    rw [List.drop_eq_nil_of_le (by omega), showG]
    refine ev_succ ?_
    simp only [provostref05_Show.l0]
    refine ev_neg (by omega) ?_
    cases begun with
    | true => show Ev _ (showR none); exact ev_neg (by decide) (ev_some rfl)
    | false => show Ev _ (showR (some acc)); exact ev_pos rfl (ev_some rfl)
  | succ d ih =>
    intro i acc begun hd hi ha
    have hil : i < L.length := by omega
    have hrd : rd_T40 L (i : Int) = L[i] := by
      unfold rd_T40
      rw [Int.toNat_natCast, List.getD_eq_getElem?_getD, List.getElem?_eq_getElem hil]; rfl
    have h0 : (0 : Int) ≤ (i : Int) := by omega
    have hi1 : (i : Int) < (L.length : Int) := by omega
    have w4 : wrap64 ((i : Int) + 1) = ((i + 1 : Nat) : Int) := by unfold wrap64; omega
    rw [List.drop_eq_getElem_cons hil, showG]
    generalize ht : L[i] = t at *
    have nx := fun acc begun h => ih (i + 1) acc begun (by omega) (by omega) h
    have bad : Ev (fun k => provostref05_Show.j1 k L (mkB acc) (!begun) (i : Int) true) (showR none) := by
      refine ev_succ ?_
      simp only [provostref05_Show.j1]
      exact ev_pos trivial (ev_some rfl)
    have hz : (mkB acc).size = acc.length := mk_size acc
    refine ev_succ ?_
    simp only [provostref05_Show.l0]
    rw [hrd]
    refine ev_pos hi1 (ev_pos h0 (Ev.bind (fits_ev t) ?_))
    by_cases hr : rightT t = true
    · rw [if_pos hr]
      have h24 := right_24 t hr
      have hdl : t.f1.data.toList.length = t.f1.size := by simp
      refine ev_pos hr ?_
      by_cases h4 : t.f0 = 4
      · rw [if_pos h4]
        cases begun with
        | false =>
          rw [if_neg (by decide)]
          refine ev_pos rfl ?_
          rw [beq_iff_eq.2 h4]
          exact bad
        | true =>
          rw [if_pos rfl]
          refine ev_neg (by decide) ?_
          refine ev_succ ?_
          simp only [provostref05_Show.j1]
          simp only [Option.bind_some]
          rw [hrd, w4, num10, mk_app, hz]
          have n1 := nx (acc ++ [10]) false (by simp; omega)
          exact ev_neg (by decide) (ev_pos h0 (ev_pos hi1 (ev_pos h4 (ev_pos (by rw [mk_size]; simp; omega) n1))))
      · rw [if_neg h4]
        have hb4 : (t.f0 == 4) = false := beq_eq_false_iff_ne.2 h4
        have j2f : Ev (fun k => provostref05_Show.j2 k L (mkB acc) (i : Int) false) (showR (showG (L.drop (i + 1)) (acc ++ t.f1.data.toList) true)) := by
          refine ev_succ ?_
          simp only [provostref05_Show.j2]
          rw [hrd, w4, mk_app, hz]
          have n1 := nx (acc ++ t.f1.data.toList) true (by rw [List.length_append]; omega)
          exact ev_neg (by decide) (ev_pos h0 (ev_pos hi1 (ev_pos (by omega) n1)))
        have j2t : Ev (fun k => provostref05_Show.j2 k L (mkB acc) (i : Int) true) (showR (showG (L.drop (i + 1)) ((acc ++ [32]) ++ t.f1.data.toList) true)) := by
          refine ev_succ ?_
          simp only [provostref05_Show.j2]
          have e32 : mkB acc ++ (⟨#[32]⟩ : ByteArray) = mkB (acc ++ [32]) := mk_app acc _
          rw [hrd, w4, hz, e32, mk_app, mk_size]
          have n1 := nx ((acc ++ [32]) ++ t.f1.data.toList) true (by simp only [List.length_append, List.length_cons, List.length_nil]; omega)
          exact ev_pos trivial (ev_pos (by omega) (ev_pos h0 (ev_pos hi1 (ev_pos (by simp only [List.length_append, List.length_cons, List.length_nil]; omega) n1))))
        have j1 : Ev (fun k => provostref05_Show.j1 k L (mkB acc) (!begun) (i : Int) false) (showR (showG (L.drop (i + 1)) ((if begun = true then (if isComma t.f1 = true then acc else acc ++ [32]) else acc) ++ t.f1.data.toList) true)) := by
          refine ev_succ ?_
          simp only [provostref05_Show.j1]
          rw [hrd]
          refine ev_neg (by decide) (ev_pos h0 (ev_pos hi1 (ev_neg h4 ?_)))
          cases begun with
          | false =>
            rw [if_neg (by decide)]
            exact ev_pos rfl j2f
          | true =>
            rw [if_pos rfl]
            refine ev_neg (by decide) ?_
            unfold isComma
            by_cases c1 : t.f1.toList = [44]
            · rw [beq_iff_eq.2 c1, Bool.true_or, if_pos rfl]
              exact ev_pos c1 j2f
            · rw [beq_eq_false_iff_ne.2 c1, Bool.false_or]
              refine ev_neg c1 ?_
              by_cases c2 : t.f1.toList = [58]
              · rw [beq_iff_eq.2 c2, if_pos rfl, bne_eq_false_iff_eq.2 c2]
                exact j2f
              · rw [beq_eq_false_iff_ne.2 c2, if_neg (by decide), bne_iff_ne.2 c2]
                exact j2t
        cases begun with
        | false =>
          refine ev_pos rfl ?_
          rw [hb4]
          exact j1
        | true => exact ev_neg (by decide) j1
    · rw [if_neg hr]
      exact ev_neg hr bad
/-! Lines -/
def linesF : List Tok → List (List Tok) → List Tok → List (List Tok)
  | [], ls, l => if l.length > 0 then ls ++ [l] else ls
  | t :: r, ls, l => if t.f0 = 4 then linesF r (ls ++ [l]) [] else linesF r ls (l ++ [t])
theorem lines_bd : ∀ (r : List Tok) (ls : List (List Tok)) (l : List Tok) (N : Nat), (∀ q ∈ ls, q.length ≤ N) → l.length + r.length ≤ N → (linesF r ls l).length ≤ ls.length + r.length + 1 ∧ ∀ q ∈ linesF r ls l, q.length ≤ N
  | [], ls, l, N, h1, h2 => by
    rw [linesF]
    split
    · refine ⟨by simp, fun q hq => ?_⟩
      rcases List.mem_append.1 hq with h | h
      · exact h1 q h
      · obtain rfl := List.mem_singleton.1 h
        simpa using h2
    · exact ⟨by omega, h1⟩
  | t :: r, ls, l, N, h1, h2 => by
    rw [linesF]
    rw [List.length_cons] at h2 ⊢
    split
    · obtain ⟨a1, a2⟩ := lines_bd r (ls ++ [l]) [] N (fun q hq => by
        rcases List.mem_append.1 hq with h | h
        · exact h1 q h
        · obtain rfl := List.mem_singleton.1 h
          omega) (by simp; omega)
      rw [List.length_append, List.length_singleton] at a1
      exact ⟨by omega, a2⟩
    · obtain ⟨a1, a2⟩ := lines_bd r ls (l ++ [t]) N h1 (by rw [List.length_append, List.length_singleton]; omega)
      exact ⟨by omega, a2⟩
section
variable (L : List Tok) (hL : L.length ≤ 3000)
include hL
theorem llines_l0 (d : Nat) : ∀ (i : Nat) (ls : List (List Tok)) (l : List Tok), L.length - i = d → i ≤ L.length → ls.length ≤ i → l.length ≤ i → Ev (fun k => lex_Lines.l0 k ls l L (L.length : Int) (i : Int)) (linesF (L.drop i) ls l) := by
  induction d with
  | zero =>
    intro i ls l hd hi h1 h2
    rw [List.drop_eq_nil_of_le (by omega), linesF]
    refine ev_succ ?_
    simp only [lex_Lines.l0]
    refine ev_neg (by omega) ?_
    by_cases h : l.length > 0
    · rw [if_pos h]; exact ev_pos (by omega) (ev_pos (by omega) (ev_some rfl))
    · rw [if_neg h]; exact ev_neg (by omega) (ev_some rfl)
  | succ d ih =>
    intro i ls l hd hi h1 h2
    have hil : i < L.length := by omega
    have hrd : rd_T40 L (i : Int) = L[i] := by
      unfold rd_T40
      rw [Int.toNat_natCast, List.getD_eq_getElem?_getD, List.getElem?_eq_getElem hil]; rfl
    have w4 : wrap64 ((i : Int) + 1) = ((i + 1 : Nat) : Int) := by unfold wrap64; omega
    rw [List.drop_eq_getElem_cons hil, linesF]
    refine ev_succ ?_
    simp only [lex_Lines.l0]
    rw [hrd, w4]
    refine ev_pos (by omega) (ev_pos (by omega) (ev_pos (by omega) ?_))
    by_cases h4 : L[i].f0 = 4
    · rw [if_pos h4]
      exact ev_pos h4 (ev_pos (by omega) (ih (i + 1) _ _ (by omega) (by omega) (by rw [List.length_append, List.length_singleton]; omega) (Nat.zero_le _)))
    · rw [if_neg h4]
      exact ev_neg h4 (ev_pos (by omega) (ih (i + 1) _ _ (by omega) (by omega) (by omega) (by rw [List.length_append, List.length_singleton]; omega)))
theorem rlines_l0 (d : Nat) : ∀ (i : Nat) (ls : List (List Tok)) (l : List Tok), L.length - i = d → i ≤ L.length → ls.length ≤ i → l.length ≤ i → Ev (fun k => provostref05_Lines.l0 k L ls l (i : Int)) (linesF (L.drop i) ls l) := by
  induction d with
  | zero =>
    intro i ls l hd hi h1 h2
    rw [List.drop_eq_nil_of_le (by omega), linesF]
    refine ev_succ ?_
    simp only [provostref05_Lines.l0]
    refine ev_neg (by omega) ?_
    by_cases h : l.length > 0
    · rw [if_pos h]; exact ev_pos (by omega) (ev_pos (by omega) (ev_some rfl))
    · rw [if_neg h]; exact ev_neg (by omega) (ev_some rfl)
  | succ d ih =>
    intro i ls l hd hi h1 h2
    have hil : i < L.length := by omega
    have hrd : rd_T40 L (i : Int) = L[i] := by
      unfold rd_T40
      rw [Int.toNat_natCast, List.getD_eq_getElem?_getD, List.getElem?_eq_getElem hil]; rfl
    have w4 : wrap64 ((i : Int) + 1) = ((i + 1 : Nat) : Int) := by unfold wrap64; omega
    rw [List.drop_eq_getElem_cons hil, linesF]
    refine ev_succ ?_
    simp only [provostref05_Lines.l0]
    rw [hrd, w4]
    refine ev_pos (by omega) (ev_pos (by omega) ?_)
    by_cases h4 : L[i].f0 = 4
    · rw [if_pos h4]
      exact ev_pos h4 (ev_pos (by omega) (ih (i + 1) _ _ (by omega) (by omega) (by rw [List.length_append, List.length_singleton]; omega) (Nat.zero_le _)))
    · rw [if_neg h4]
      exact ev_neg h4 (ev_pos (by omega) (ih (i + 1) _ _ (by omega) (by omega) (by omega) (by rw [List.length_append, List.length_singleton]; omega)))
end
theorem wakes_ok : provostlaw05_wakes.f = some true := by
  unfold provostlaw05_wakes.f
  simp only [ByteArray.toList_eq]
  decide +kernel
theorem law_l0 (A : List (List Tok)) (hA : A.length ≤ 100000) (hq : ∀ q ∈ A, q.length ≤ 100000) (d : Nat) : ∀ i : Nat, A.length - i = d → i ≤ A.length → Ev (fun k => provostlaw05_LexShow.l0 k A A (i : Int)) true := by
  induction d with
  | zero =>
    intro i hd hi
    refine ev_succ ?_
    simp only [provostlaw05_LexShow.l0]
    rw [wakes_ok]
    simp only [Option.bind_some]
    exact ev_neg (by omega) (ev_some rfl)
  | succ d ih =>
    intro i hd hi
    have hil : i < A.length := by omega
    have w4 : wrap64 ((i : Int) + 1) = ((i + 1 : Nat) : Int) := by unfold wrap64; omega
    have hln : (A.getD i []).length ≤ 100000 := by
      rw [List.getD_eq_getElem?_getD, List.getElem?_eq_getElem hil]
      exact hq _ (List.getElem_mem hil)
    refine ev_succ ?_
    simp only [provostlaw05_LexShow.l0]
    rw [w4]
    exact ev_pos (by omega) (ev_pos (by omega) (ev_pos (by omega) (Ev.bind (same_ev _ hln) (ev_pos rfl (ih (i + 1) (by omega) (by omega))))))
theorem few_ev (l : List Tok) (h : l.length ≤ 9223372036854775807) : provostlaw05_few.f l = some (l.take 3000) := by
  unfold provostlaw05_few.f
  by_cases h1 : (l.length : Int) > 3000
  · rw [if_pos h1, if_pos (by omega)]
    simp only [Option.bind_some, List.length_nil, List.nil_append]
    rw [if_pos (by rw [List.length_take]; omega)]
  · rw [if_neg h1, List.take_of_length_le (by omega)]
    simp only [Option.bind_some, List.length_nil, List.nil_append]
    rw [if_pos (by omega)]
theorem law_ev (l : List Tok) (h : l.length ≤ 9223372036854775807) (hz : ∀ t ∈ l, t.f1.size ≤ 9223372036854775807) : Ev (fun k => provostlaw05_LexShow.f k l) true := by
  have hL : (l.take 3000).length ≤ 3000 := by rw [List.length_take]; omega
  have hz2 : ∀ t ∈ l.take 3000, t.f1.size ≤ 9223372036854775807 := fun t ht => hz t (List.mem_of_mem_take ht)
  have e2 : provostlaw05_few.f (l.take 3000) = some (l.take 3000) := by rw [few_ev _ (by omega), List.take_take, Nat.min_self]
  unfold provostlaw05_LexShow.f
  rw [few_ev l h]
  simp only [Option.bind_some]
  generalize l.take 3000 = L at *
  have es : lex_Show.f L = some (showR (showG L [] false)) := by
    unfold lex_Show.f
    rw [if_pos (by omega), if_pos hz2]
  rw [e2]
  simp only [Option.bind_some]
  rw [es]
  simp only [Option.bind_some]
  have s1 := show_l0 L hL _ 0 [] false rfl (Nat.zero_le _) (Nat.zero_le _)
  rw [List.drop_zero] at s1
  have l1 := llines_l0 L hL _ 0 [] [] rfl (Nat.zero_le _) (Nat.zero_le _) (Nat.zero_le _)
  have l2 := rlines_l0 L hL _ 0 [] [] rfl (Nat.zero_le _) (Nat.zero_le _) (Nat.zero_le _)
  rw [List.drop_zero] at l1 l2
  obtain ⟨b1, b2⟩ := lines_bd L [] [] 3000 (fun q hq => by cases hq) (by simpa using hL)
  simp only [List.length_nil] at b1
  refine Ev.bind s1 (Ev.bind l1 (Ev.bind l2 (ev_pos rfl (ev_pos rfl ?_))))
  rw [bne_self_eq_false]
  refine ev_succ ?_
  simp only [provostlaw05_LexShow.j0]
  exact ev_neg (by decide) (law_l0 _ (by omega) (fun q hq => by have := b2 q hq; omega) _ 0 rfl (Nat.zero_le _))
end Go.Proofs.Ytpcnpmcknknfcaa.PLsh
namespace Go.Proofs.Ytpcnpmcknknfcaa.Pure
open Go.RowKit Go.Proofs.Ytpcnpmcknknfcaa.PLsh Go.Proofs.YtpcnpmcknknfcaaW.PrintWords Go.Proofs.YtpcnpmcknknfcaaW.PrintLast Go.Proofs.YtpcnpmcknknfcaaW.Mine
theorem show_walk (A0 : Option Addr) (n0 : Nat) (l0 : List Tok) (w : World) (hr0 : Kd.C k40 w A0 l0.length l0) (hc0 : l0.length ≤ n0)
    (g0 : l0.length ≤ maxLen ∧ ∀ x ∈ l0, (Lit.int .i64 x.f0).wf = true ∧ x.f1.size ≤ maxLen ∧ (Lit.int .i64 x.f2).wf = true ∧ (Lit.int .i64 x.f3).wf = true ∧ (Lit.int .i64 x.f4).wf = true) :
    Calls Try.prog 12 #[.slice A0 l0.length n0] w fun e w' => e = .returned (.bool true) ∧ Below w.heap.size w w' := by
  obtain ⟨k, h⟩ := Ev.rounds (law_ev l0 (by have := g0.1; simpa [maxLen] using this) (fun t ht => by have := (g0.2 t ht).2.1; simpa [maxLen] using this))
  exact provostlaw05_LexShow.calls k A0 n0 l0 true w hr0 hc0 h
end Go.Proofs.Ytpcnpmcknknfcaa.Pure
