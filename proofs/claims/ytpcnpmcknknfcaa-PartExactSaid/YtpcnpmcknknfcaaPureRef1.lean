/- The reference's patterns, evaluated: Legal, Size, Of, Alike, Finer, Meet, Merge, Blocks. -/
import Derived.Test.YtpcnpmcknknfcaaPureJoin2
import Derived.Test.YtpcnpmcknknfcaaPPexx3
import Derived.Test.YtpcnpmcknknfcaaPPexx8
import Derived.Test.YtpcnpmcknknfcaaPPexx8
import Derived.Test.YtpcnpmcknknfcaaPPexx8
import Derived.Test.YtpcnpmcknknfcaaPPexx12
import Derived.Test.YtpcnpmcknknfcaaPPexx13
import Derived.Test.YtpcnpmcknknfcaaPPexx13
import Derived.Test.YtpcnpmcknknfcaaPPexx13
import Derived.Test.YtpcnpmcknknfcaaPPexx8
namespace Go.Proofs.Ytpcnpmcknknfcaa.PPex
open Go.RowKit Go.Proofs.YtpcnpmcknknfcaaW.PrintWords Go.Proofs.YtpcnpmcknknfcaaW.PrintLast Go.Proofs.YtpcnpmcknknfcaaW.PrintMore Go.Proofs.YtpcnpmcknknfcaaW.Mine
set_option linter.unusedVariables false
theorem few_cut (l : List Int) (n : Nat) (h : n ≤ 1000) : provostlaw02_few.f l (n : Int) = some (l.take n) := by
  by_cases h1 : l.length ≤ n
  · exact few_eq l n (by omega)
  · unfold provostlaw02_few.f
    rw [if_pos (by omega), if_pos (by omega), if_pos (by omega)]
    simp only [Option.bind_some, List.nil_append, List.length_nil, Int.toNat_natCast]
    rw [if_pos]
    rw [List.length_take]
    omega
/-! Legal, Size -/
def isPat (a : List Int) : Bool := decide (a.length ≤ 25) && legalF 0 a
theorem rlegal_l0 (a : List Int) (ha : a.length ≤ 25) (d : Nat) : ∀ (i : Nat) (u : Int), a.length - i = d → i ≤ a.length → 0 ≤ u → u ≤ i →
    Ev (fun k => provostref02_Legal.l0 k a (u - 1) (i : Int)) (legalF u (a.drop i)) := by
  induction d with
  | zero =>
    intro i u hd hi h0 hu
    refine ev_succ ?_
    simp only [provostref02_Legal.l0]
    rw [List.drop_eq_nil_of_le (by omega)]
    exact ev_neg (by omega) (ev_some rfl)
  | succ d ih =>
    intro i u hd hi h0 hu
    have hlt : i < a.length := by omega
    refine ev_succ ?_
    simp only [provostref02_Legal.l0]
    rw [rd_at a i hlt, List.drop_eq_getElem_cons hlt]
    refine ev_pos (by omega) (ev_pos (by omega) ?_)
    simp only [legalF]
    by_cases h1 : a[i] < 0
    · refine ev_pos h1 ?_
      rw [decide_eq_false (p := (0 ≤ a[i] ∧ a[i] ≤ u)) (by omega), Bool.false_and]
      refine ev_succ ?_
      simp only [provostref02_Legal.j1]
      exact ev_pos trivial (ev_some rfl)
    · refine ev_neg h1 ?_
      rw [wr (i := u - 1) (by omega) (by omega)]
      by_cases h2 : a[i] > u
      · rw [decide_eq_false (p := (0 ≤ a[i] ∧ a[i] ≤ u)) (by omega), Bool.false_and, decide_eq_true (p := a[i] > u - 1 + 1) (by omega)]
        refine ev_succ ?_
        simp only [provostref02_Legal.j1]
        exact ev_pos trivial (ev_some rfl)
      · rw [decide_eq_true (p := (0 ≤ a[i] ∧ a[i] ≤ u)) (by omega), Bool.true_and, decide_eq_false (p := a[i] > u - 1 + 1) (by omega)]
        refine ev_succ ?_
        simp only [provostref02_Legal.j1]
        refine ev_neg (by decide) (ev_pos (by omega) (ev_pos (by omega) ?_))
        rw [rd_at a i hlt, wr (i := (i : Int)) (by omega) (by omega)]
        have nx := ih (i + 1) (max u (a[i] + 1)) (by omega) (by omega) (by omega) (by omega)
        by_cases h3 : a[i] > u - 1
        · refine ev_pos h3 ?_
          rw [show max u (a[i] + 1) - 1 = a[i] by omega] at nx
          exact nx
        · refine ev_neg h3 ?_
          rw [show max u (a[i] + 1) - 1 = u - 1 by omega] at nx
          exact nx
theorem rlegal_ev (a : List Int) : Ev (fun k => provostref02_Legal.f k a) (isPat a) := by
  unfold provostref02_Legal.f isPat
  by_cases h : (a.length : Int) > 25
  · rw [decide_eq_false (p := a.length ≤ 25) (by omega), Bool.false_and]
    exact ev_pos h (ev_some rfl)
  · rw [decide_eq_true (p := a.length ≤ 25) (by omega), Bool.true_and]
    refine ev_neg h ?_
    have := rlegal_l0 a (by omega) a.length 0 0 (by omega) (by omega) (by omega) (by omega)
    simpa using this
theorem isPat_iff (a : List Int) : isPat a = true ↔ a.length ≤ 25 ∧ legalF 0 a = true := by unfold isPat; rw [Bool.and_eq_true, decide_eq_true_eq]
theorem lo_ev (a : List Int) : Ev (fun k => part_Legal.f k a) (isPat a) := legal_ev a
theorem top_l0 (a : List Int) (ha : a.length ≤ 25) (hp : ∀ x ∈ a, 0 ≤ x ∧ x ≤ 24) (d : Nat) : ∀ (i : Nat), a.length - i = d → i ≤ a.length →
    Ev (fun k => provostref02_top.l0 k a (usedF 0 (a.take i) - 1) (i : Int)) (usedF 0 a - 1) := by
  induction d with
  | zero =>
    intro i hd hi
    refine ev_succ ?_
    simp only [provostref02_top.l0]
    rw [List.take_of_length_le (by omega)]
    exact ev_neg (by omega) (ev_some rfl)
  | succ d ih =>
    intro i hd hi
    have hlt : i < a.length := by omega
    have hb := hp _ (List.getElem_mem hlt)
    refine ev_succ ?_
    simp only [provostref02_top.l0]
    have nx := ih (i + 1) (by omega) (by omega)
    rw [List.take_succ_eq_append_getElem hlt, usedF_snoc] at nx
    rw [rd_at a i hlt, wr (i := (i : Int)) (by omega) (by omega)]
    refine ev_pos (by omega) (ev_pos (by omega) ?_)
    by_cases h3 : a[i] > usedF 0 (a.take i) - 1
    · refine ev_pos h3 ?_
      rw [show max (usedF 0 (a.take i)) (a[i] + 1) - 1 = a[i] by omega] at nx
      exact nx
    · refine ev_neg h3 ?_
      rw [show max (usedF 0 (a.take i)) (a[i] + 1) - 1 = usedF 0 (a.take i) - 1 by omega] at nx
      exact nx
theorem pat_bd (a : List Int) (hl : legalF 0 a = true) (h25 : a.length ≤ 25) : ∀ x ∈ a, 0 ≤ x ∧ x ≤ 24 := by
  intro x hx
  obtain ⟨i, hi, rfl⟩ := List.getElem_of_mem hx
  have := legal_lt a hl h25 i hi
  rwa [rd_at a i hi] at this
theorem top_ev (a : List Int) (hl : legalF 0 a = true) (h25 : a.length ≤ 25) : Ev (fun k => provostref02_top.f k a) (usedF 0 a - 1) := by
  unfold provostref02_top.f
  have := top_l0 a h25 (pat_bd a hl h25) a.length 0 (by omega) (by omega)
  simpa [usedF] using this
theorem rsize_ev (a : List Int) : Ev (fun k => provostref02_Size.f k a) (if isPat a = true then usedF 0 a else 0) := by
  unfold provostref02_Size.f
  refine Ev.bind (rlegal_ev a) ?_
  by_cases h : isPat a = true
  · obtain ⟨h25, hl⟩ := (isPat_iff a).1 h
    rw [if_pos h]
    refine ev_pos h (Ev.bind (top_ev a hl h25) (ev_some ?_))
    have := used_len a 0 hl
    have := used_ge a 0
    rw [wr (by omega) (by omega)]; omega
  · rw [if_neg h]
    exact ev_neg h (ev_some rfl)
theorem psize_ev (a : List Int) : Ev (fun k => part_Size.f k a) (if isPat a = true then usedF 0 a else 0) := by
  by_cases h : isPat a = true
  · obtain ⟨h25, hl⟩ := (isPat_iff a).1 h
    rw [if_pos h]
    exact size_ev a hl h25
  · rw [if_neg h]
    unfold part_Size.f
    refine Ev.bind (lo_ev a) (ev_neg h ?_)
    refine ev_succ ?_
    simp only [part_Size.j0]
    exact ev_pos trivial (ev_some rfl)
/-! Of -/
theorem rof_l1 (l : List Int) (h25 : l.length ≤ 25) (i : Nat) (hi : i < l.length) (res : List Int) (nx : Ev (fun k => provostref02_Of.l0 k l (of_pat [] (l.take (i + 1)) ++ List.replicate (l.length - (i + 1)) 0) (of_size (l.take (i + 1)).reverse : Nat) ((i + 1 : Nat) : Int)) res) (d : Nat) :
    ∀ (j : Nat) (v : Int), i - j = d → j ≤ i → (v = if rd l i ∈ l.take j then ((of_at (l.take i).reverse (rd l i) : Nat) : Int) else -1) →
    Ev (fun k => provostref02_Of.l1 k l (of_pat [] (l.take i) ++ v :: List.replicate (l.length - (i + 1)) 0) (of_size (l.take i).reverse : Nat) (i : Int) (j : Int)) res := by
  have hpl : (of_pat [] (l.take i)).length = i := by rw [of_pat_len, List.length_take]; omega
  have htl : l.take (i + 1) = l.take i ++ [rd l i] := by rw [List.take_succ_eq_append_getElem hi, rd_at l i hi]
  have hsl := of_size_le (l.take i).reverse
  rw [List.length_reverse, List.length_take] at hsl
  have hsn : of_pat [] (l.take i ++ [rd l i]) = of_pat [] (l.take i) ++ [((of_at (rd l i :: (l.take i).reverse) (rd l i) : Nat) : Int)] := by rw [of_pat_snoc, List.append_nil]
  rw [htl, hsn, List.reverse_append] at nx
  simp only [List.reverse_cons, List.reverse_nil, List.nil_append, List.singleton_append] at nx
  have hset : ∀ v z : Int, (of_pat [] (l.take i) ++ v :: List.replicate (l.length - (i + 1)) 0).set i z = of_pat [] (l.take i) ++ z :: List.replicate (l.length - (i + 1)) 0 := by
    intro v z; rw [List.set_append_right _ _ (by omega), hpl, Nat.sub_self]; rfl
  have hlen : ∀ v : Int, (of_pat [] (l.take i) ++ v :: List.replicate (l.length - (i + 1)) 0).length = l.length := by intro v; simp [hpl]; omega
  have hrdi : ∀ v : Int, rd (of_pat [] (l.take i) ++ v :: List.replicate (l.length - (i + 1)) 0) (i : Int) = v := by
    intro v
    rw [rd_at _ i (by rw [hlen]; exact hi), List.getElem_append_right (by omega)]
    simp [hpl]
  induction d with
  | zero =>
    intro j v hd hj hv
    obtain rfl : j = i := by omega
    refine ev_succ ?_
    simp only [provostref02_Of.l1]
    refine ev_neg (by omega) (ev_pos (by omega) (ev_pos (by rw [hlen]; omega) ?_))
    rw [hrdi, Int.toNat_natCast, hset, wr (i := (j : Int)) (by omega) (by omega)]
    by_cases hm : rd l (j : Int) ∈ l.take j
    · rw [if_pos hm] at hv
      have hm' : rd l (j : Int) ∈ (l.take j).reverse := List.mem_reverse.2 hm
      rw [of_at_keep _ _ _ hm', of_size, if_pos hm', ← hv] at nx
      refine ev_neg (by omega) ?_
      simpa using nx
    · rw [if_neg hm] at hv
      have hm' : ¬ rd l (j : Int) ∈ (l.take j).reverse := fun h => hm (List.mem_reverse.1 h)
      rw [of_at, if_neg hm', if_pos rfl, of_size, if_neg hm'] at nx
      refine ev_pos (by omega) ?_
      rw [wr (i := ((of_size (l.take j).reverse : Nat) : Int)) (by omega) (by omega)]
      simpa using nx
  | succ d ih =>
    intro j v hd hj hv
    have hlt : j < i := by omega
    refine ev_succ ?_
    simp only [provostref02_Of.l1]
    refine ev_pos (by omega) (ev_pos (by omega) (ev_pos (by omega) (ev_pos (by omega) (ev_pos (by omega) ?_))))
    rw [wr (i := (j : Int)) (by omega) (by omega), Int.toNat_natCast]
    have htj : l.take (j + 1) = l.take j ++ [rd l j] := by rw [List.take_succ_eq_append_getElem (by omega), rd_at l j (by omega)]
    have hrdj : rd (of_pat [] (l.take i) ++ v :: List.replicate (l.length - (i + 1)) 0) (j : Int) = ((of_at (l.take i).reverse (rd l j) : Nat) : Int) := by
      rw [rd_at _ j (by rw [hlen]; omega), List.getElem_append_left (by omega)]
      simp only [of_pat_map (l.take i) [], List.getElem_map, List.append_nil, List.getElem_take]
      rw [rd_at l j (by omega)]
    by_cases he : rd l (j : Int) = rd l (i : Int)
    · refine ev_pos he (ev_pos (by rw [hlen]; omega) (ev_pos (by rw [hlen]; omega) ?_))
      rw [hrdj, hset]
      refine ih (j + 1) _ (by omega) (by omega) ?_
      rw [if_pos (by rw [htj, he]; simp), he]
    · refine ev_neg he ?_
      refine ih (j + 1) v (by omega) (by omega) ?_
      rw [hv, htj]
      have : (rd l (i : Int) ∈ l.take j ++ [rd l (j : Int)]) ↔ rd l (i : Int) ∈ l.take j := by
        rw [List.mem_append, List.mem_singleton]
        exact ⟨fun h => h.resolve_right (fun e => he e.symm), Or.inl⟩
      by_cases hm : rd l (i : Int) ∈ l.take j
      · rw [if_pos hm, if_pos (this.2 hm)]
      · rw [if_neg hm, if_neg (fun h => hm (this.1 h))]
theorem rof_l0 (l : List Int) (h25 : l.length ≤ 25) (d : Nat) : ∀ (i : Nat), l.length - i = d → i ≤ l.length →
    Ev (fun k => provostref02_Of.l0 k l (of_pat [] (l.take i) ++ List.replicate (l.length - i) 0) (of_size (l.take i).reverse : Nat) (i : Int)) (of_pat [] l) := by
  induction d with
  | zero =>
    intro i hd hi
    obtain rfl : i = l.length := by omega
    refine ev_succ ?_
    simp only [provostref02_Of.l0]
    rw [List.take_length, Nat.sub_self, List.replicate_zero, List.append_nil]
    exact ev_neg (by omega) (ev_some rfl)
  | succ d ih =>
    intro i hd hi
    have hlt : i < l.length := by omega
    have hpl : (of_pat [] (l.take i)).length = i := by rw [of_pat_len, List.length_take]; omega
    refine ev_succ ?_
    simp only [provostref02_Of.l0]
    refine ev_pos (by omega) (ev_pos (by omega) (ev_pos (by simp [hpl]; omega) ?_))
    have e : (of_pat [] (l.take i) ++ List.replicate (l.length - i) 0).set (i : Int).toNat (-1) = of_pat [] (l.take i) ++ (-1) :: List.replicate (l.length - (i + 1)) 0 := by
      rw [Int.toNat_natCast, List.set_append_right _ _ (by omega), hpl, Nat.sub_self, show l.length - i = (l.length - (i + 1)) + 1 by omega, List.replicate_succ]; rfl
    rw [e]
    exact rof_l1 l h25 i hlt _ (ih (i + 1) (by omega) (by omega)) i 0 (-1) (by omega) (by omega) (by simp)
theorem rof_ev (l : List Int) (h25 : l.length ≤ 25) : Ev (fun k => provostref02_Of.f k l) (of_pat [] l) := by
  unfold provostref02_Of.f
  refine ev_pos (by omega) (ev_pos (by omega) ?_)
  have := rof_l0 l h25 l.length 0 (by omega) (by omega)
  simpa [of_pat, of_size] using this
/-! Alike, Finer -/
theorem pair_pat (a b : List Int) : pairF a b = (isPat a && isPat b && decide (a.length = b.length)) := rfl
theorem alike_ev (l m : List Int) : Ev (fun k => provostref02_Alike.f k l m) (pairF l m) := by
  unfold provostref02_Alike.f
  rw [pair_pat]
  refine Ev.bind (rlegal_ev l) ?_
  by_cases h1 : isPat l = true
  · refine ev_pos h1 (Ev.bind (rlegal_ev m) ?_)
    rw [h1, Bool.true_and]
    by_cases h2 : isPat m = true
    · refine ev_pos h2 (ev_some ?_)
      rw [h2, Bool.eq_iff_iff]; simp; omega
    · rw [Bool.eq_false_iff.mpr h2]
      exact ev_neg (by decide) (ev_some rfl)
  · rw [Bool.eq_false_iff.mpr h1]
    exact ev_neg (by decide) (ev_some rfl)
/-- the same, places in order -/
def finI (l m : List Int) (i j : Nat) : Prop := ∀ p q : Nat, q < p → p < l.length → (p < i ∨ (p = i ∧ q < j)) → rd l p = rd l q → rd m p = rd m q
theorem fin_of_all (l m : List Int) (h : ∀ p q : Nat, q < p → p < l.length → rd l p = rd l q → rd m p = rd m q) : Fin l m := by
  intro i k hi hk e
  rcases Nat.lt_trichotomy i k with h1 | h1 | h1
  · exact (h k i h1 hk e.symm).symm
  · rw [h1]
  · exact h i k h1 hi e
theorem rfin_no (l m : List Int) (h25 : l.length ≤ 25) (hlm : l.length = m.length) (p q : Nat) (hqp : q < p) (hp : p < l.length) (he : rd l p = rd l q) (hne : rd m p ≠ rd m q) (i j : Nat) (hj : j ≤ i) (hil : i < l.length) (hlt : i < p ∨ (i = p ∧ j ≤ q))
    (hb : ∀ p' q' : Nat, q' < p' → p' < l.length → rd l p' = rd l q' → rd m p' ≠ rd m q' → (p < p' ∨ (p = p' ∧ q ≤ q'))) :
    Ev (fun k => provostref02_Finer.l1 k l m (i : Int) (j : Int)) false := by
  suffices h : ∀ d : Nat, ∀ i j : Nat, (p - i) * 30 + (i - j) = d → j ≤ i → i < l.length → (i < p ∨ (i = p ∧ j ≤ q)) → Ev (fun k => provostref02_Finer.l1 k l m (i : Int) (j : Int)) false by
    exact h _ i j rfl hj hil hlt
  intro d
  induction d using Nat.strongRecOn with
  | ind d ih =>
    intro i j hd hj hil hlt
    refine ev_succ ?_
    simp only [provostref02_Finer.l1]
    by_cases hji : j < i
    · refine ev_pos (by omega) (ev_pos (by omega) (ev_pos (by omega) (ev_pos (by omega) (ev_pos (by omega) ?_))))
      by_cases h1 : rd l (i : Int) = rd l (j : Int)
      · refine ev_pos h1 (ev_pos (by omega) (ev_pos (by omega) ?_))
        by_cases h2 : rd m (i : Int) = rd m (j : Int)
        · rw [h2, show (rd m (j : Int) != rd m (j : Int)) = false by simp]
          refine ev_succ ?_
          simp only [provostref02_Finer.j2]
          refine ev_neg (by decide) ?_
          rw [wr (i := (j : Int)) (by omega) (by omega)]
          refine ih ((p - i) * 30 + (i - (j + 1))) (by omega) i (j + 1) rfl (by omega) hil ?_
          rcases hlt with h | ⟨h, h'⟩
          · exact Or.inl h
          · refine Or.inr ⟨h, ?_⟩
            rcases Nat.lt_or_ge j q with h3 | h3
            · exact h3
            · exfalso
              obtain rfl : j = q := by omega
              subst h
              exact hne h2
        · rw [bne_iff_ne.2 h2]
          refine ev_succ ?_
          simp only [provostref02_Finer.j2]
          exact ev_pos trivial (ev_some rfl)
      · refine ev_neg h1 ?_
        refine ev_succ ?_
        simp only [provostref02_Finer.j2]
        refine ev_neg (by decide) ?_
        rw [wr (i := (j : Int)) (by omega) (by omega)]
        refine ih ((p - i) * 30 + (i - (j + 1))) (by omega) i (j + 1) rfl (by omega) hil ?_
        rcases hlt with h | ⟨h, h'⟩
        · exact Or.inl h
        · refine Or.inr ⟨h, ?_⟩
          rcases Nat.lt_or_ge j q with h3 | h3
          · exact h3
          · exfalso
            obtain rfl : j = q := by omega
            subst h
            exact h1 he
    · have hip : i < p := by
        rcases hlt with h | ⟨h, h'⟩
        · exact h
        · omega
      refine ev_neg (by omega) ?_
      rw [wr (i := (i : Int)) (by omega) (by omega)]
      refine ev_succ ?_
      simp only [provostref02_Finer.l0]
      refine ev_pos (by omega) ?_
      exact ih ((p - (i + 1)) * 30 + (i + 1 - 0)) (by omega) (i + 1) 0 rfl (by omega) (by omega) (by omega)
theorem rfin_yes (l m : List Int) (h25 : l.length ≤ 25) (hlm : l.length = m.length) (hf : Fin l m) (d : Nat) : ∀ i j : Nat, (l.length - i) * 30 + (i - j) = d → j ≤ i → i < l.length → Ev (fun k => provostref02_Finer.l1 k l m (i : Int) (j : Int)) true := by
  induction d using Nat.strongRecOn with
  | ind d ih =>
    intro i j hd hj hil
    refine ev_succ ?_
    simp only [provostref02_Finer.l1]
    by_cases hji : j < i
    · refine ev_pos (by omega) (ev_pos (by omega) (ev_pos (by omega) (ev_pos (by omega) (ev_pos (by omega) ?_))))
      have nx : Ev (fun k => provostref02_Finer.j2 k l m (i : Int) (j : Int) false) true := by
        refine ev_succ ?_
        simp only [provostref02_Finer.j2]
        refine ev_neg (by decide) ?_
        rw [wr (i := (j : Int)) (by omega) (by omega)]
        exact ih ((l.length - i) * 30 + (i - (j + 1))) (by omega) i (j + 1) rfl (by omega) hil
      by_cases h1 : rd l (i : Int) = rd l (j : Int)
      · refine ev_pos h1 (ev_pos (by omega) (ev_pos (by omega) ?_))
        rw [hf i j hil (by omega) h1, show (rd m (j : Int) != rd m (j : Int)) = false by simp]
        exact nx
      · exact ev_neg h1 nx
    · refine ev_neg (by omega) ?_
      rw [wr (i := (i : Int)) (by omega) (by omega)]
      refine ev_succ ?_
      simp only [provostref02_Finer.l0]
      by_cases h1 : i + 1 < l.length
      · refine ev_pos (by omega) ?_
        exact ih ((l.length - (i + 1)) * 30 + (i + 1 - 0)) (by omega) (i + 1) 0 rfl (by omega) (by omega)
      · exact ev_neg (by omega) (ev_some rfl)
/-- a first pair that does not fit -/
theorem first_bad (l m : List Int) (h : ¬ Fin l m) : ∃ p q : Nat, q < p ∧ p < l.length ∧ rd l p = rd l q ∧ rd m p ≠ rd m q := by
  by_cases hc : ∃ p q : Nat, q < p ∧ p < l.length ∧ rd l p = rd l q ∧ rd m p ≠ rd m q
  · exact hc
  · exfalso
    refine h (fin_of_all l m fun p q h1 h2 h3 => ?_)
    by_cases he : rd m (p : Int) = rd m (q : Int)
    · exact he
    · exact absurd ⟨p, q, h1, h2, h3, he⟩ hc
theorem rfiner_l0 (l m : List Int) (h25 : l.length ≤ 25) (hlm : l.length = m.length) (hl : ∀ x ∈ l, 0 ≤ x) (hm : ∀ x ∈ m, 0 ≤ x) : Ev (fun k => provostref02_Finer.l0 k l m 0) (finF (fun _ => 0) l m) := by
  refine ev_succ ?_
  simp only [provostref02_Finer.l0]
  by_cases h0 : 0 < l.length
  · refine ev_pos (by omega) ?_
    by_cases hf : Fin l m
    · rw [(fin_iff l m hlm hl hm).2 hf]
      exact rfin_yes l m h25 hlm hf _ 0 0 rfl (Nat.le_refl _) h0
    · rw [Bool.eq_false_iff.mpr (fun h => hf ((fin_iff l m hlm hl hm).1 h))]
      obtain ⟨p, q, h1, h2, h3, h4⟩ := first_bad l m hf
      have key : ∀ d : Nat, ∀ p q : Nat, p * 30 + q = d → q < p → p < l.length → rd l p = rd l q → rd m p ≠ rd m q → Ev (fun k => provostref02_Finer.l1 k l m ((0 : Nat) : Int) ((0 : Nat) : Int)) false := by
        intro d
        induction d using Nat.strongRecOn with
        | ind d ih =>
          intro p q hd h1 h2 h3 h4
          by_cases hc : ∃ p' q' : Nat, p' * 30 + q' < d ∧ q' < p' ∧ p' < l.length ∧ rd l p' = rd l q' ∧ rd m p' ≠ rd m q'
          · obtain ⟨p', q', g0, g1, g2, g3, g4⟩ := hc
            exact ih _ g0 p' q' rfl g1 g2 g3 g4
          · refine rfin_no l m h25 hlm p q h1 h2 h3 h4 0 0 (Nat.le_refl _) h0 (by omega) (fun p' q' g1 g2 g3 g4 => ?_)
            have : ¬ p' * 30 + q' < d := fun g0 => hc ⟨p', q', g0, g1, g2, g3, g4⟩
            omega
      exact key _ p q rfl h1 h2 h3 h4
  · refine ev_neg (by omega) (ev_some ?_)
    obtain rfl := List.eq_nil_of_length_eq_zero (show l.length = 0 by omega)
    cases m <;> rfl
def finB (l m : List Int) : Bool := if pairF l m = true then finF (fun _ => 0) l m else false
theorem pair_iff (l m : List Int) : pairF l m = true ↔ l.length ≤ 25 ∧ legalF 0 l = true ∧ legalF 0 m = true ∧ l.length = m.length := by
  rw [pair_pat, Bool.and_eq_true, Bool.and_eq_true, isPat_iff, isPat_iff, decide_eq_true_eq]
  constructor
  · rintro ⟨⟨⟨h1, h2⟩, h3, h4⟩, h5⟩; exact ⟨h1, h2, h4, h5⟩
  · rintro ⟨h1, h2, h3, h4⟩; exact ⟨⟨⟨h1, h2⟩, by omega, h3⟩, h4⟩
theorem rfiner_ev (l m : List Int) : Ev (fun k => provostref02_Finer.f k l m) (finB l m) := by
  unfold provostref02_Finer.f finB
  refine Ev.bind (alike_ev l m) ?_
  by_cases h : pairF l m = true
  · rw [if_pos h]
    obtain ⟨h1, h2, h3, h4⟩ := (pair_iff l m).1 h
    exact ev_pos h (rfiner_l0 l m h1 h4 (legal_mem l 0 h2) (legal_mem m 0 h3))
  · rw [if_neg h]
    exact ev_neg h (ev_some rfl)
theorem pfiner_eq (l m : List Int) : part_Finer.f l m = some (finB l m) := by
  unfold part_Finer.f finB
  split <;> rfl
/-! Meet, Merge -/
theorem rmeet_ev (a b : List Int) (h : a.length = b.length) (ha : legalF 0 a = true) (hb : legalF 0 b = true) (h25 : a.length ≤ 25) : Ev (fun k => provostref02_Meet.f k a b) (of_pat [] (meetL a b)) := by
  have hml := meet_len a b h
  have hA := legal_lt a ha h25
  have hB := legal_lt b hb (by omega)
  have key : ∀ d i : Nat, a.length - i = d → i ≤ a.length → Ev (fun k => provostref02_Meet.l0 k a b ((meetL a b).take i ++ (List.replicate a.length 0).drop i) (i : Int)) (of_pat [] (meetL a b)) := by
    intro d
    induction d with
    | zero =>
      intro i hd hi
      obtain rfl : i = a.length := by omega
      refine ev_succ ?_
      simp only [provostref02_Meet.l0]
      refine ev_neg (by omega) ?_
      have e : (meetL a b).take a.length ++ (List.replicate a.length (0 : Int)).drop a.length = meetL a b := by
        rw [List.take_of_length_le (by omega), List.drop_eq_nil_of_le (by simp), List.append_nil]
      rw [e]
      exact Ev.bind (rof_ev _ (by omega)) (ev_some rfl)
    | succ d ih =>
      intro i hd hi
      have hlt : i < a.length := by omega
      have q1 := hA i hlt
      have q2 := hB i (by omega)
      refine ev_succ ?_
      simp only [provostref02_Meet.l0]
      refine ev_pos (by omega) (ev_pos (by omega) (ev_pos (by omega) (ev_pos (by simp; omega) ?_)))
      have e1 : wrap64 (wrap64 (rd a (i : Int) * 26) + rd b (i : Int)) = rd (meetL a b) i := by
        rw [meet_rd a b h i hlt]; unfold wrap64; omega
      rw [e1, Int.toNat_natCast, set_next _ _ i (by simp; omega) (by omega), wr (by omega) (by omega)]
      exact ih (i + 1) (by omega) (by omega)
  unfold provostref02_Meet.f
  refine ev_pos (by omega) (ev_pos (by omega) ?_)
  have := key a.length 0 (by omega) (by omega)
  simpa using this
theorem rmerge_ev (c : List Int) (hc : legalF 0 c = true) (h25 : c.length ≤ 25) (p q : Nat) (hp : p < c.length) (hq : q < c.length) : Ev (fun k => provostref02_Merge.f k c (p : Int) (q : Int)) (of_pat [] (mergeL c p q)) := by
  have hml := merge_len c p q
  have key : ∀ d i : Nat, c.length - i = d → i ≤ c.length → Ev (fun k => provostref02_Merge.l0 k c (p : Int) (q : Int) ((mergeL c p q).take i ++ (List.replicate c.length 0).drop i) (i : Int)) (of_pat [] (mergeL c p q)) := by
    intro d
    induction d with
    | zero =>
      intro i hd hi
      obtain rfl : i = c.length := by omega
      refine ev_succ ?_
      simp only [provostref02_Merge.l0]
      refine ev_neg (by omega) ?_
      have e : (mergeL c p q).take c.length ++ (List.replicate c.length (0 : Int)).drop c.length = mergeL c p q := by
        rw [List.take_of_length_le (by omega), List.drop_eq_nil_of_le (by simp), List.append_nil]
      rw [e]
      exact Ev.bind (rof_ev _ (by omega)) (ev_some rfl)
    | succ d ih =>
      intro i hd hi
      have hlt : i < c.length := by omega
      have nx := ih (i + 1) (by omega) (by omega)
      have hs := set_next (mergeL c p q) (List.replicate c.length 0) i (by simp; omega) (by omega)
      rw [merge_rd c p q i hlt] at hs
      have ht : ((mergeL c p q).take i).length = i := by rw [List.length_take]; omega
      have hset : ∀ v z : Int, (((mergeL c p q).take i ++ (List.replicate c.length (0 : Int)).drop i).set i v).set i z = ((mergeL c p q).take i ++ (List.replicate c.length (0 : Int)).drop i).set i z := fun v z => List.set_set ..
      refine ev_succ ?_
      simp only [provostref02_Merge.l0]
      refine ev_pos (by omega) (ev_pos (by omega) (ev_pos (by simp; omega) ?_))
      simp only [Option.bind_some]
      refine ev_pos (by omega) (ev_pos (by omega) ?_)
      rw [wr (i := (i : Int)) (by omega) (by omega), Int.toNat_natCast]
      by_cases e : rd c (i : Int) = rd c (q : Int)
      · rw [if_pos e] at hs
        refine ev_pos e (ev_pos (by omega) (ev_pos (by omega) ?_))
        rw [hset, hs]
        exact nx
      · rw [if_neg e] at hs
        refine ev_neg e ?_
        rw [hs]
        exact nx
  unfold provostref02_Merge.f
  refine ev_pos (by omega) (ev_pos (by omega) ?_)
  have := key c.length 0 (by omega) (by omega)
  simpa using this
/-! Blocks, Lists -/
theorem rblocks_l1 (a : List Int) (h25 : a.length ≤ 25) (L : List (List Int)) (hL : L.length ≤ 25) (b : Nat) (hb : b ≤ 25) (res : List (List Int)) (nx : Ev (fun k => provostref02_Blocks.l0 k a (L ++ [idxF (b : Int) 0 a]) ((b + 1 : Nat) : Int)) res) (d : Nat) : ∀ i : Nat, a.length - i = d → i ≤ a.length →
    Ev (fun k => provostref02_Blocks.l1 k a L (b : Int) (idxF (b : Int) 0 (a.take i)) (i : Int)) res := by
  induction d with
  | zero =>
    intro i hd hi
    obtain rfl : i = a.length := by omega
    refine ev_succ ?_
    simp only [provostref02_Blocks.l1]
    rw [List.take_length, wr (i := (b : Int)) (by omega) (by omega)]
    exact ev_neg (by omega) (ev_pos (by omega) nx)
  | succ d ih =>
    intro i hd hi
    have hlt : i < a.length := by omega
    have n1 := ih (i + 1) (by omega) (by omega)
    rw [List.take_succ_eq_append_getElem hlt, idx_snoc, List.length_take, Nat.min_eq_left (by omega), Nat.zero_add] at n1
    have hil := idx_len (b : Int) (a.take i) 0
    rw [List.length_take] at hil
    refine ev_succ ?_
    simp only [provostref02_Blocks.l1]
    rw [rd_at a i hlt, wr (i := (i : Int)) (by omega) (by omega)]
    refine ev_pos (by omega) (ev_pos (by omega) ?_)
    by_cases e : a[i] = (b : Int)
    · rw [if_pos e] at n1
      exact ev_pos e (ev_pos (by omega) n1)
    · rw [if_neg e, List.append_nil] at n1
      exact ev_neg e n1
theorem rblocks_l0 (a : List Int) (hl : legalF 0 a = true) (h25 : a.length ≤ 25) (d : Nat) : ∀ b : Nat, (usedF 0 a).toNat - b = d → b ≤ (usedF 0 a).toNat →
    Ev (fun k => provostref02_Blocks.l0 k a (blocksOf a b) (b : Int)) (blocksOf a (usedF 0 a).toNat) := by
  have hu := used_len a 0 hl
  have hg := used_ge a 0
  induction d with
  | zero =>
    intro b hd hb
    obtain rfl : b = (usedF 0 a).toNat := by omega
    refine ev_succ ?_
    simp only [provostref02_Blocks.l0]
    exact Ev.bind (top_ev a hl h25) (ev_neg (by omega) (ev_some rfl))
  | succ d ih =>
    intro b hd hb
    refine ev_succ ?_
    simp only [provostref02_Blocks.l0]
    refine Ev.bind (top_ev a hl h25) (ev_pos (by omega) ?_)
    have hn := ih (b + 1) (by omega) (by omega)
    have e : blocksOf a (b + 1) = blocksOf a b ++ [idxF (b : Int) 0 a] := by unfold blocksOf; rw [List.range_succ, List.map_append]; rfl
    rw [e] at hn
    have := rblocks_l1 a h25 (blocksOf a b) (by simp [blocksOf]; omega) b (by omega) _ hn a.length 0 (by omega) (by omega)
    simpa [idxF] using this
theorem rblocks_ev (a : List Int) : Ev (fun k => provostref02_Blocks.f k a) (if isPat a = true then blocksOf a (usedF 0 a).toNat else []) := by
  unfold provostref02_Blocks.f
  refine Ev.bind (rlegal_ev a) ?_
  by_cases h : isPat a = true
  · obtain ⟨h25, hl⟩ := (isPat_iff a).1 h
    rw [if_pos h]
    refine ev_pos h ?_
    exact rblocks_l0 a hl h25 _ 0 rfl (Nat.zero_le _)
  · rw [if_neg h]
    exact ev_neg h (ev_some rfl)
theorem pblocks_ev (a : List Int) : Ev (fun k => part_Blocks.f k a) (if isPat a = true then blocksOf a (usedF 0 a).toNat else []) := by
  by_cases h : isPat a = true
  · obtain ⟨h25, hl⟩ := (isPat_iff a).1 h
    rw [if_pos h]
    exact blocks_ev a hl h25
  · have hs := psize_ev a
    rw [if_neg h] at hs ⊢
    unfold part_Blocks.f
    refine Ev.bind hs (ev_pos (by decide) (ev_pos (by decide) ?_))
    simp only [Option.bind_some]
    exact ev_pos (by decide) (ev_some rfl)
theorem lists_ev (L : List (List Int)) (hL : L.length ≤ 1000) (hl : ∀ l ∈ L, l.length ≤ 1000) : Ev (fun k => provostkeep_Lists.f k L L) true := by
  have key : ∀ d i : Nat, L.length - i = d → i ≤ L.length → Ev (fun k => provostkeep_Lists.l0 k L L (i : Int)) true := by
    intro d
    induction d with
    | zero =>
      intro i hd hi
      refine ev_succ ?_
      simp only [provostkeep_Lists.l0]
      exact ev_neg (by omega) (ev_some rfl)
    | succ d ih =>
      intro i hd hi
      have hlt : i < L.length := by omega
      have hrd : rd_L1 L (i : Int) = L[i] := by
        unfold rd_L1; rw [Int.toNat_natCast, List.getD_eq_getElem?_getD, List.getElem?_eq_getElem hlt]; rfl
      refine ev_succ ?_
      simp only [provostkeep_Lists.l0]
      rw [hrd, wr (i := (i : Int)) (by omega) (by omega)]
      have := hl _ (List.getElem_mem hlt)
      exact ev_pos (by omega) (ev_pos (by omega) (ev_pos (by omega) (Ev.bind (ints_ev _ (by omega)) (ev_pos rfl (ih (i + 1) (by omega) (by omega))))))
  unfold provostkeep_Lists.f
  exact ev_pos rfl (key L.length 0 (by omega) (by omega))
end Go.Proofs.Ytpcnpmcknknfcaa.PPex
