/- Plain facts for RuleText: what Twin and the reference's Check tell. -/
import Derived.Test.YtbcdlfodgoiodaaDoorPRtxx1
import Derived.Test.YtbcdlfodgoiodaaDoorPRtxx2
import Derived.Test.YtbcdlfodgoiodaaDoorPRtxx5
import Derived.Test.YtbcdlfodgoiodaaDoorPRtxx3
namespace Go.Proofs.YtbcdlfodgoiodaaDoor.PRtx
open Go.RowKit Go.Proofs.YtbcdlfodgoiodaaDoorW.PrintWords Go.Proofs.YtbcdlfodgoiodaaDoorW.PrintLast
set_option linter.unusedVariables false
theorem ev_succ {α : Type} {g : Nat → Option α} {r : α} (h : Ev (fun k => g (k + 1)) r) : Ev g r := Ev.step (fun _ => rfl) h
theorem ev_some {α : Type} {r r' : α} (h : r = r') : Ev (fun _ => some r) r' := by subst h; exact Ev.now r
theorem ev_pos {α : Type} {c : Prop} [Decidable c] {f g : Nat → Option α} {r : α} (h : c) (e : Ev f r) : Ev (fun k => if c then f k else g k) r := by simp only [h, if_true]; exact e
theorem ev_neg {α : Type} {c : Prop} [Decidable c] {f g : Nat → Option α} {r : α} (h : ¬ c) (e : Ev g r) : Ev (fun k => if c then f k else g k) r := by simp only [h, if_false]; exact e
theorem wakes_ev : Ev (fun k => provostlaw06_wakes.f k) true := Ev.of provostlaw06_wakes.mono (k := 20) (by decide +kernel)
theorem wr {i : Int} (h0 : -9223372036854775808 ≤ i + 1) (h : i + 1 ≤ 9223372036854775807) : wrap64 (i + 1) = i + 1 := by unfold wrap64; omega
/-! Twin and row -/
def cutS (r : S53) : S53 := ⟨r.f0, r.f1, r.f2.take 30⟩
def twinS (l : List S53) : List S53 := (l.take 60).map cutS
theorem rd_T (l : List S53) (i : Nat) (h : i < l.length) : rd_T53 l (i : Int) = l[i] := by
  unfold rd_T53
  rw [Int.toNat_natCast, List.getD_eq_getElem?_getD, List.getElem?_eq_getElem h]; rfl
theorem twin_l0 (l : List S53) (hl : l.length ≤ 9223372036854775807) : ∀ (d i : Nat) (acc : List S53), l.length - i = d → i ≤ 60 → i ≤ l.length → acc = (l.take i).map cutS → Ev (fun k => provostlaw06_Twin.l0 k l acc (i : Int)) (twinS l) := by
  intro d
  induction d with
  | zero =>
    intro i acc hd h60 hi hacc
    refine ev_succ ?_
    simp only [provostlaw06_Twin.l0]
    refine ev_neg (by omega) (ev_succ ?_)
    simp only [provostlaw06_Twin.j1, Bool.false_eq_true, if_false]
    refine ev_some ?_
    rw [hacc, twinS, List.take_of_length_le (by omega), List.take_of_length_le (by omega)]
  | succ d ih =>
    intro i acc hd h60 hi hacc
    refine ev_succ ?_
    simp only [provostlaw06_Twin.l0]
    refine ev_pos (by omega) (ev_succ ?_)
    by_cases h6 : i < 60
    · have hlt : i < l.length := by omega
      have e1 := rd_T l i hlt
      simp only [provostlaw06_Twin.j1, show ((i : Int) < 60) = True from by simp; omega, decide_true, if_true]
      refine ev_pos (by omega) (ev_pos (by omega) ?_)
      simp only [e1, wr (show -9223372036854775808 ≤ (i : Int) + 1 by omega) (by omega)]
      have hal : acc.length ≤ 60 := by rw [hacc]; simp; omega
      have hnext : acc ++ [cutS l[i]] = (l.take (i + 1)).map cutS := by rw [hacc, List.take_succ_eq_append_getElem hlt, List.map_append]; rfl
      have := ih (i + 1) (acc ++ [cutS l[i]]) (by omega) (by omega) (by omega) hnext
      rw [Int.natCast_add] at this
      by_cases hc : ((l[i].f2).length : Int) > 30
      · refine ev_pos hc (ev_pos (by omega) ?_)
        simp only [Option.bind_some]
        exact ev_pos (by simp; omega) (ev_pos (by omega) this)
      · refine ev_neg hc ?_
        simp only [Option.bind_some]
        have e2 : cutS l[i] = ⟨l[i].f0, l[i].f1, [] ++ l[i].f2⟩ := by unfold cutS; rw [List.take_of_length_le (by omega)]; rfl
        refine ev_pos (by simp; omega) (ev_pos (by omega) ?_)
        simp only [← e2]
        exact this
    · simp only [provostlaw06_Twin.j1, show ((i : Int) < 60) = False from by simp; omega, decide_false, Bool.false_eq_true, if_false]
      refine ev_some ?_
      obtain rfl : i = 60 := by omega
      exact hacc
theorem twin_ev (l : List S53) (hl : l.length ≤ 9223372036854775807) : Ev (fun k => provostlaw06_Twin.f k l) (twinS l) := twin_l0 l hl l.length 0 [] (by omega) (by omega) (by omega) (by simp)
/-! the reference's Check -/
theorem kindOk_ref (K k : Int) (len : Nat) (hl : len ≤ 999999999) (hK : 1 ≤ K ∧ K ≤ 5) : rc_kindOk K k len =
    (if K = 1 ∨ K = 2 then decide (k = 0 ∧ 2 ≤ len) else decide (1 ≤ k ∧ k ≤ 999999999 ∧ 1 ≤ len ∧ (K = 5 → k ≤ (len : Int)))) := by
  unfold rc_kindOk
  by_cases h1 : K = 1 ∨ K = 2
  · rw [if_pos h1, if_pos h1]
  · rw [if_neg h1, if_neg h1]
    by_cases h3 : K = 3 ∨ K = 4
    · rw [if_pos h3, decide_eq_decide]; omega
    · rw [if_neg h3, if_pos (by omega), decide_eq_decide]; omega
theorem rj3_ev (K k : Int) (s : List Int) (hl : s.length ≤ 999999999) (hK : 1 ≤ K ∧ K ≤ 5) : Ev (fun m => if K = 1 then (provostref06_Check.j3 m true K k s) else (provostref06_Check.j3 m (K == 2) K k s)) (rc_kindOk K k s.length) := by
  have key : ∀ b, b = decide (K = 1 ∨ K = 2) → Ev (fun m => provostref06_Check.j3 m b K k s) (rc_kindOk K k s.length) := by
    intro b hb
    rw [kindOk_ref K k s.length hl hK]
    refine ev_succ ?_
    simp only [provostref06_Check.j3]
    by_cases h : K = 1 ∨ K = 2
    · rw [decide_eq_true h] at hb
      subst hb
      rw [if_pos h]
      refine ev_pos rfl ?_
      by_cases hk : k = 0
      · refine ev_pos hk (ev_some ?_)
        rw [decide_eq_decide]; omega
      · refine ev_neg hk (ev_some ?_)
        rw [decide_eq_false (by omega)]
    · rw [decide_eq_false h] at hb
      subst hb
      rw [if_neg h]
      refine ev_neg (by simp) ?_
      by_cases hk : k ≥ 1
      · refine ev_pos hk ?_
        by_cases hk2 : k ≤ 999999999
        · refine ev_pos hk2 ?_
          by_cases hl1 : (s.length : Int) ≥ 1
          · refine ev_pos hl1 ?_
            by_cases h5 : K = 5
            · refine ev_pos h5 (ev_some ?_)
              rw [decide_eq_decide]; omega
            · refine ev_neg h5 (ev_some ?_)
              rw [eq_comm, decide_eq_true_iff]; omega
          · refine ev_neg hl1 (ev_some ?_)
            rw [eq_comm, decide_eq_false_iff_not]; omega
        · refine ev_neg hk2 (ev_some ?_)
          rw [eq_comm, decide_eq_false_iff_not]; omega
      · refine ev_neg hk (ev_some ?_)
        rw [eq_comm, decide_eq_false_iff_not]; omega
  by_cases h1 : K = 1
  · refine ev_pos h1 (key _ ?_)
    rw [decide_eq_true (.inl h1)]
  · refine ev_neg h1 (key _ ?_)
    rw [Bool.eq_iff_iff]; simp [h1]
theorem wrm {i : Int} (h0 : 0 ≤ i) (h : i ≤ 9223372036854775807) : wrap64 (i - 1) = i - 1 := by unfold wrap64; omega
theorem ref_l0 (n K k : Int) (s : List Int) (hs : s.length ≤ 999999999) (hK : 1 ≤ K ∧ K ≤ 5) : ∀ (d i : Nat) (last : Int), s.length - i = d → i ≤ s.length → (i = 0 → last = -1) → (0 < i → s[i - 1]? = some last ∧ 0 ≤ last) →
    Ev (fun m => provostref06_Check.l0 m n (i : Int) K k s) (rc_stepsOk n last (s.drop i) && rc_kindOk K k s.length) := by
  intro d
  induction d with
  | zero =>
    intro i last hd hi _ _
    refine ev_succ ?_
    simp only [provostref06_Check.l0]
    refine ev_neg (by omega) ?_
    rw [List.drop_of_length_le (by omega)]
    simp only [rc_stepsOk, Bool.true_and]
    exact rj3_ev K k s hs hK
  | succ d ih =>
    intro i last hd hi hz hp
    have hlt : i < s.length := by omega
    refine ev_succ ?_
    simp only [provostref06_Check.l0]
    refine ev_pos (by omega) (ev_pos (by omega) ?_)
    rw [List.drop_eq_getElem_cons hlt]
    simp only [rc_rd_i s i hlt, rc_stepsOk]
    have bad : ∀ b, Ev (fun m => provostref06_Check.j2 m n (i : Int) true K k s) (false && b) := by
      intro b
      refine ev_succ ?_
      simp only [provostref06_Check.j2, if_true, Bool.false_and]
      exact ev_some rfl
    have good : last < s[i] → s[i] < n → Ev (fun m => provostref06_Check.j2 m n (i : Int) false K k s) (decide (last < s[i]) && decide (s[i] < n) && rc_stepsOk n s[i] (s.drop (i + 1)) && rc_kindOk K k s.length) := by
      intro h1 h2
      rw [decide_eq_true h1, decide_eq_true h2]
      simp only [Bool.true_and]
      refine ev_succ ?_
      simp only [provostref06_Check.j2, Bool.false_eq_true, if_false, wr (show -9223372036854775808 ≤ (i : Int) + 1 by omega) (by omega)]
      have hl0 : 0 ≤ s[i] := by
        rcases Nat.eq_zero_or_pos i with h0 | h0
        · have := hz h0; omega
        · have := (hp h0).2; omega
      have := ih (i + 1) s[i] (by omega) (by omega) (by omega) (fun _ => ⟨by simp [List.getElem?_eq_getElem hlt], hl0⟩)
      rw [Int.natCast_add] at this
      exact this
    by_cases h1 : s[i] < 0
    · refine ev_pos h1 ?_
      have hb : ¬ last < s[i] := by
        rcases Nat.eq_zero_or_pos i with h0 | h0
        · have := hz h0; omega
        · have := (hp h0).2; omega
      rw [decide_eq_false hb]
      simp only [Bool.false_and]
      exact bad false
    · refine ev_neg h1 ?_
      by_cases h2 : s[i] ≥ n
      · refine ev_pos h2 ?_
        rw [decide_eq_false (by omega : ¬ s[i] < n)]
        simp only [Bool.and_false, Bool.false_and]
        exact bad false
      · refine ev_neg h2 ?_
        rcases Nat.eq_zero_or_pos i with h0 | h0
        · refine ev_neg (by omega) (good ?_ (by omega))
          have := hz h0; omega
        · refine ev_pos (by omega) ?_
          obtain ⟨hl1, hl2⟩ := hp h0
          have hr : rd s ((i : Int) - 1) = last := by
            rw [show ((i : Int) - 1) = ((i - 1 : Nat) : Int) by omega, rc_rd_i s (i - 1) (by omega)]
            rw [List.getElem?_eq_getElem (by omega)] at hl1
            exact Option.some.inj hl1
          simp only [wrm (show (0 : Int) ≤ i by omega) (by omega), hr]
          refine ev_pos (by omega) (ev_pos (by omega) ?_)
          by_cases h3 : last ≥ s[i]
          · simp only [h3, decide_true]
            rw [decide_eq_false (by omega : ¬ last < s[i])]
            simp only [Bool.false_and]
            exact bad false
          · simp only [h3, decide_false]
            exact good (by omega) (by omega)
theorem refcheck_ev (n K k : Int) (s : List Int) (hs : s.length ≤ 999999999) : Ev (fun m => provostref06_Check.f m n K k s) (rc_chk n K k s) := by
  unfold provostref06_Check.f
  have no : ∀ b : Bool, (b = true → rc_chk n K k s = false) → (b = false → 1 ≤ K ∧ K ≤ 5 ∧ 0 ≤ n ∧ n ≤ 12) → Ev (fun m => provostref06_Check.j0 m n b K k s) (rc_chk n K k s) := by
    intro b h1 h2
    refine ev_succ ?_
    simp only [provostref06_Check.j0]
    cases b with
    | true => rw [h1 rfl]; exact ev_pos rfl (ev_some rfl)
    | false =>
      refine ev_neg (by simp) ?_
      obtain ⟨a, b, c, d⟩ := h2 rfl
      unfold rc_chk
      rw [decide_eq_true (show 0 ≤ n ∧ n ≤ 12 from ⟨c, d⟩)]
      have := ref_l0 n K k s hs ⟨a, b⟩ s.length 0 (-1) (by omega) (by omega) (fun _ => rfl) (fun h => absurd h (by omega))
      simpa using this
  have cn : ¬ (0 ≤ n ∧ n ≤ 12) → rc_chk n K k s = false := by intro h; unfold rc_chk; rw [decide_eq_false h]; simp
  have cK : ¬ (1 ≤ K ∧ K ≤ 5) → rc_chk n K k s = false := by
    intro h; unfold rc_chk rc_kindOk
    rw [if_neg (by omega), if_neg (by omega), if_neg (by omega)]; simp
  by_cases h1 : n < 0
  · exact ev_pos h1 (no true (fun _ => cn (by omega)) (by simp))
  · refine ev_neg h1 ?_
    by_cases h2 : n > 12
    · exact ev_pos h2 (no true (fun _ => cn (by omega)) (by simp))
    · refine ev_neg h2 ?_
      by_cases h3 : K < 1
      · exact ev_pos h3 (no true (fun _ => cK (by omega)) (by simp))
      · refine ev_neg h3 (no _ ?_ ?_)
        · intro h; have := of_decide_eq_true h; exact cK (by omega)
        · intro h; have := of_decide_eq_false h; omega

end Go.Proofs.YtbcdlfodgoiodaaDoor.PRtx
