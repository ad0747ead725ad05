/- PartOf's pure statement. -/
import Derived.Test.YtpcnpmcknknfcaaPurePart
import Derived.Test.YtpcnpmcknknfcaaPPofx2
import Derived.Test.YtpcnpmcknknfcaaPPofx4
namespace Go.Proofs.Ytpcnpmcknknfcaa.Pure
open Go.RowKit Go.Proofs.Ytpcnpmcknknfcaa.PPof Go.Proofs.YtpcnpmcknknfcaaW.PrintWords Go.Proofs.YtpcnpmcknknfcaaW.PrintLast Go.Proofs.YtpcnpmcknknfcaaW.PrintMore Go.Proofs.YtpcnpmcknknfcaaW.Mine
set_option linter.unusedVariables false
theorem wakes_ev : Ev (fun k => provostlaw02_wakes.f k) true := Ev.of provostlaw02_wakes.mono (k := 30) (by decide +kernel)
theorem l1_ev (l : List Int) (h25 : l.length ≤ 25) (i : Nat) (hi : i < l.length) (nx : Ev (fun k => provostlaw02_PartOf.l0 k l (of_pat [] l) ((i + 1 : Nat) : Int)) true) (d : Nat) :
    ∀ j : Nat, i - j = d → j ≤ i → Ev (fun k => provostlaw02_PartOf.l1 k l (of_pat [] l) (i : Int) (j : Int)) true := by
  have hl := of_pat_len l []
  induction d with
  | zero =>
    intro j hd hj
    refine ev_succ ?_
    simp only [provostlaw02_PartOf.l1]
    rw [wr (i := (i : Int)) (by omega) (by omega)]
    exact ev_neg (by omega) nx
  | succ d ih =>
    intro j hd hj
    refine ev_succ ?_
    simp only [provostlaw02_PartOf.l1]
    refine ev_pos (by omega) (ev_pos (by omega) (ev_pos (by omega) (ev_pos (by omega) (ev_pos (by omega) (ev_pos (by omega) (ev_pos (by omega) (ev_neg ?_ ?_)))))))
    · rw [pat_same l i j hi (by omega)]; simp
    · rw [wr (by omega) (by omega)]
      exact ih (j + 1) (by omega) (by omega)
theorem l0_ev (l : List Int) (h25 : l.length ≤ 25) (nx : Ev (fun k => provostlaw02_PartOf.l2 k (of_pat [] l) (blocksOf (of_pat [] l) (usedF 0 (of_pat [] l)).toNat) 0 0) true) (d : Nat) :
    ∀ i : Nat, l.length - i = d → i ≤ l.length → Ev (fun k => provostlaw02_PartOf.l0 k l (of_pat [] l) (i : Int)) true := by
  have hl := of_pat_len l []
  induction d with
  | zero =>
    intro i hd hi
    refine ev_succ ?_
    simp only [provostlaw02_PartOf.l0]
    refine ev_neg (by omega) ?_
    rw [show (25 : Int) = ((25 : Nat) : Int) from rfl, few_eq _ 25 (by omega), List.take_of_length_le (by omega)]
    simp only [Option.bind_some]
    exact Ev.bind (blocks_ev _ (pat_legal l) (by omega)) nx
  | succ d ih =>
    intro i hd hi
    refine ev_succ ?_
    simp only [provostlaw02_PartOf.l0]
    refine ev_pos (by omega) ?_
    exact l1_ev l h25 i (by omega) (ih (i + 1) (by omega) (by omega)) i 0 (by omega) (by omega)
/-! places of a block -/
theorem idx_mem (b : Int) : ∀ (l : List Int) (o : Nat) (p : Int), p ∈ idxF b o l → ∃ j : Nat, ∃ h : j < l.length, p = ((o + j : Nat) : Int) ∧ l[j] = b
  | [], _, _, h => by cases h
  | x :: r, o, p, h => by
    unfold idxF at h
    have go : p ∈ idxF b (o + 1) r → ∃ j : Nat, ∃ h : j < (x :: r).length, p = ((o + j : Nat) : Int) ∧ (x :: r)[j] = b := fun h => by
      obtain ⟨j, hj, h1, h2⟩ := idx_mem b r (o + 1) p h
      exact ⟨j + 1, by simp; omega, by rw [h1]; omega, by simpa using h2⟩
    by_cases e : x = b
    · rw [if_pos e] at h
      rcases List.mem_cons.1 h with h | h
      · exact ⟨0, by simp, by simpa using h, e⟩
      · exact go h
    · rw [if_neg e] at h
      exact go h
theorem idx_rise (b : Int) : ∀ (l : List Int) (o : Nat), (idxF b o l).Pairwise (· < ·)
  | [], _ => List.Pairwise.nil
  | x :: r, o => by
    unfold idxF
    by_cases e : x = b
    · rw [if_pos e]
      refine List.Pairwise.cons (fun p hp => ?_) (idx_rise b r (o + 1))
      obtain ⟨j, _, h, _⟩ := idx_mem b r (o + 1) p hp
      omega
    · rw [if_neg e]; exact idx_rise b r (o + 1)
theorem idx_some (b : Int) : ∀ (l : List Int) (o : Nat), b ∈ l → 0 < (idxF b o l).length
  | [], _, h => by cases h
  | x :: r, o, h => by
    unfold idxF
    by_cases e : x = b
    · rw [if_pos e]; simp
    · rw [if_neg e]; exact idx_some b r (o + 1) ((List.mem_cons.1 h).resolve_left (fun h => e h.symm))
/-- the least places of the blocks rise -/
theorem idx_first : ∀ (a : List Int) (u : Int) (o : Nat), legalF u a = true → 0 ≤ u → ∀ v, u ≤ v → v + 1 < usedF u a → rd (idxF v o a) 0 < rd (idxF (v + 1) o a) 0
  | [], u, o, _, _, v, h1, h2 => by simp only [usedF, List.foldl_nil] at h2; omega
  | x :: r, u, o, hl, h0, v, h1, h2 => by
    simp only [legalF, Bool.and_eq_true, decide_eq_true_eq] at hl
    have h2' : v + 1 < usedF (max u (x + 1)) r := by simpa [usedF] using h2
    unfold idxF
    rw [if_neg (show ¬ x = v + 1 by omega)]
    by_cases e : x = v
    · rw [if_pos e]
      have hm : v + 1 ∈ r := legal_all r _ hl.2 (by omega) (v + 1) (by omega) h2'
      have hp := idx_some (v + 1) r (o + 1) hm
      have h3 : rd ((o : Int) :: idxF v (o + 1) r) 0 = o := rfl
      rw [h3]
      have h4 : rd (idxF (v + 1) (o + 1) r) 0 ∈ idxF (v + 1) (o + 1) r := by
        have := rd_at (idxF (v + 1) (o + 1) r) 0 hp
        rw [show ((0 : Nat) : Int) = 0 from rfl] at this
        rw [this]
        exact List.getElem_mem hp
      obtain ⟨j, _, hj, _⟩ := idx_mem _ _ _ _ h4
      omega
    · rw [if_neg e]
      exact idx_first r _ (o + 1) hl.2 (by omega) v (by omega) h2'
/-- how many stand in the blocks below -/
def cnt (a : List Int) (i : Nat) : Nat := a.countP fun x => decide (x < (i : Int))
theorem cnt_succ (i : Nat) : ∀ (a : List Int) (o : Nat), cnt a (i + 1) = cnt a i + (idxF (i : Int) o a).length
  | [], _ => rfl
  | x :: r, o => by
    have h := cnt_succ i r (o + 1)
    unfold cnt at *
    rw [List.countP_cons, List.countP_cons, h, idxF]
    by_cases e : x = (i : Int)
    · rw [if_pos e, List.length_cons, if_pos (by simp; omega), if_neg (by simp; omega)]; omega
    · rw [if_neg e]
      by_cases l : x < (i : Int)
      · rw [if_pos (by simp; omega), if_pos (by simpa using l)]; omega
      · rw [if_neg (by simp; omega), if_neg (by simpa using l)]; omega
theorem cnt_zero (a : List Int) (h : ∀ x ∈ a, 0 ≤ x) : cnt a 0 = 0 := by
  unfold cnt
  rw [List.countP_eq_zero]
  intro x hx
  have := h x hx
  simp; omega
theorem cnt_all (a : List Int) (m : Nat) (h : ∀ x ∈ a, x < (m : Int)) : cnt a m = a.length := by
  unfold cnt
  rw [List.countP_eq_length]
  intro x hx
  simpa using h x hx
theorem l3_ev (a : List Int) (h25 : a.length ≤ 25) (m i n0 : Nat) (hi : i < m) (hm25 : m ≤ 25) (hn : n0 ≤ 25) (nx : Ev (fun k => provostlaw02_PartOf.l2 k a (blocksOf a m) ((n0 + (idxF (i : Int) 0 a).length : Nat) : Int) ((i + 1 : Nat) : Int)) true) (hle : (idxF (i : Int) 0 a).length ≤ 25) (d : Nat) :
    ∀ j : Nat, (idxF (i : Int) 0 a).length - j = d → j ≤ (idxF (i : Int) 0 a).length → Ev (fun k => provostlaw02_PartOf.l3 k a (blocksOf a m) ((n0 + j : Nat) : Int) (i : Int) (j : Int)) true := by
  have hbl : (blocksOf a m).length = m := by simp [blocksOf]
  induction d with
  | zero =>
    intro j hd hj
    obtain rfl : j = (idxF (i : Int) 0 a).length := by omega
    refine ev_succ ?_
    simp only [provostlaw02_PartOf.l3]
    rw [blocks_get a m i hi, wr (i := (i : Int)) (by omega) (by omega)]
    exact ev_pos (by omega) (ev_pos (by omega) (ev_neg (by omega) nx))
  | succ d ih =>
    intro j hd hj
    have hlt : j < (idxF (i : Int) 0 a).length := by omega
    obtain ⟨q, hq, hp, hv⟩ := idx_mem (i : Int) a 0 _ (List.getElem_mem hlt)
    refine ev_succ ?_
    simp only [provostlaw02_PartOf.l3]
    rw [blocks_get a m i hi, rd_at _ j hlt, hp, Nat.zero_add, rd_at a q hq, hv]
    have step : Ev (fun k => provostlaw02_PartOf.j6 k a (blocksOf a m) ((n0 + j : Nat) : Int) (i : Int) (j : Int) false) true := by
      refine ev_succ ?_
      simp only [provostlaw02_PartOf.j6]
      refine ev_neg (by decide) ?_
      rw [wr (i := ((n0 + j : Nat) : Int)) (by omega) (by omega), wr (i := (j : Int)) (by omega) (by omega)]
      exact ih (j + 1) (by omega) (by omega)
    refine ev_pos (by omega) (ev_pos (by omega) (ev_pos (by omega) (ev_pos (by omega) (ev_neg (by omega) (ev_neg (by omega) (ev_pos (by omega) (ev_pos (by omega) (ev_pos rfl ?_))))))))
    by_cases hj0 : (j : Int) > 0
    · refine ev_pos hj0 ?_
      obtain ⟨e, rfl⟩ : ∃ e, j = e + 1 := ⟨j - 1, by omega⟩
      have hw : wrap64 (((e + 1 : Nat) : Int) - 1) = (e : Int) := by unfold wrap64; omega
      rw [hw, rd_at _ e (by omega)]
      have hr := List.pairwise_iff_getElem.1 (idx_rise (i : Int) a 0) e (e + 1) (by omega) hlt (by omega)
      rw [hp, Nat.zero_add] at hr
      rw [decide_eq_false (p := ((idxF (i : Int) 0 a)[e]'(by omega) ≥ (q : Int))) (by omega)]
      exact ev_pos (by omega) (ev_pos (by omega) step)
    · exact ev_neg hj0 step
theorem l2_ev (a : List Int) (h25 : a.length ≤ 25) (hl : legalF 0 a = true) (d : Nat) :
    ∀ i : Nat, (usedF 0 a).toNat - i = d → i ≤ (usedF 0 a).toNat → Ev (fun k => provostlaw02_PartOf.l2 k a (blocksOf a (usedF 0 a).toNat) ((cnt a i : Nat) : Int) (i : Int)) true := by
  have hu := used_len a 0 hl
  have hg := used_ge a 0
  have hbl : (blocksOf a (usedF 0 a).toNat).length = (usedF 0 a).toNat := by simp [blocksOf]
  have hc : ∀ i, cnt a i ≤ a.length := fun i => List.countP_le_length
  induction d with
  | zero =>
    intro i hd hi
    obtain rfl : i = (usedF 0 a).toNat := by omega
    refine ev_succ ?_
    simp only [provostlaw02_PartOf.l2]
    refine ev_neg (by omega) (ev_pos ?_ ?_)
    · rw [cnt_all a _ (fun x hx => by have := used_mem a 0 x hx; omega)]
    · refine Ev.bind (size_ev a hl h25) (ev_some ?_)
      rw [hbl, Int.toNat_of_nonneg hg]; simp
  | succ d ih =>
    intro i hd hi
    have hlt : i < (usedF 0 a).toNat := by omega
    have hmem : (i : Int) ∈ a := legal_all a 0 hl (Int.le_refl _) i (by omega) (by omega)
    have hpos := idx_some (i : Int) a 0 hmem
    have hcs := cnt_succ i a 0
    have hci := hc (i + 1)
    have nx := ih (i + 1) (by omega) (by omega)
    rw [hcs] at nx
    have l3 := l3_ev a h25 (usedF 0 a).toNat i (cnt a i) hlt (by omega) (by omega) nx (by omega) _ 0 rfl (by omega)
    have step : Ev (fun k => provostlaw02_PartOf.j4 k a (blocksOf a (usedF 0 a).toNat) ((cnt a i : Nat) : Int) (i : Int) false) true := by
      refine ev_succ ?_
      simp only [provostlaw02_PartOf.j4]
      exact ev_neg (by decide) l3
    refine ev_succ ?_
    simp only [provostlaw02_PartOf.l2]
    rw [blocks_get a _ i hlt]
    refine ev_pos (by omega) (ev_pos (by omega) (ev_neg (by omega) ?_))
    by_cases h0 : (i : Int) > 0
    · refine ev_pos h0 ?_
      obtain ⟨e, rfl⟩ : ∃ e, i = e + 1 := ⟨i - 1, by omega⟩
      have hw : wrap64 (((e + 1 : Nat) : Int) - 1) = (e : Int) := by unfold wrap64; omega
      have hpe := idx_some (e : Int) a 0 (legal_all a 0 hl (Int.le_refl _) e (by omega) (by omega))
      have hr := idx_first a 0 0 hl (Int.le_refl _) (e : Int) (by omega) (by omega)
      rw [hw, blocks_get a _ e (by omega), show ((e + 1 : Nat) : Int) = (e : Int) + 1 by omega] at *
      rw [decide_eq_false (p := (rd (idxF (e : Int) 0 a) 0 ≥ rd (idxF ((e : Int) + 1) 0 a) 0)) (by omega)]
      exact ev_pos (by omega) (ev_pos (by omega) (ev_pos (by omega) (ev_pos (by omega) step)))
    · exact ev_neg h0 step
theorem PartOf : provostlaw02_PartOf.Pure := by
  intro l0 h1 h2 h3
  refine Ev.rounds ?_
  have hf : ∀ l : List Int, l.length ≤ 25 → provostlaw02_few.f l 25 = some l := fun l h => by
    rw [show (25 : Int) = ((25 : Nat) : Int) from rfl, few_eq l 25 (by omega), List.take_of_length_le h]
  have hf0 : provostlaw02_few.f l0 25 = some (l0.take 25) := by rw [show (25 : Int) = ((25 : Nat) : Int) from rfl, few_eq l0 25 (by omega)]
  have h25 : (l0.take 25).length ≤ 25 := List.length_take_le _ _
  have hw : ∀ x ∈ l0.take 25, (Lit.int .i64 x).wf = true := fun x hx => h3 x (List.mem_of_mem_take hx)
  generalize l0.take 25 = l at *
  have hl := of_pat_len l []
  have ho : part_Of.f l = some (of_pat [] l, 0) := by unfold part_Of.f; rw [if_neg (by omega), if_pos hw]
  unfold provostlaw02_PartOf.f
  rw [hf0]
  simp only [Option.bind_some]
  rw [hf l h25]
  simp only [Option.bind_some]
  rw [ho]
  simp only [Option.bind_some]
  rw [hf _ (by omega)]
  simp only [Option.bind_some]
  refine ev_pos trivial (ev_pos (by omega) ?_)
  have hleg := legal_ev (of_pat [] l)
  rw [pat_legal l, decide_eq_true (by omega)] at hleg
  refine Ev.bind hleg (ev_pos rfl (Ev.bind wakes_ev ?_))
  refine ev_succ ?_
  simp only [provostlaw02_PartOf.j0]
  refine ev_neg (by decide) ?_
  have hz := cnt_zero (of_pat [] l) (legal_mem _ 0 (pat_legal l))
  have h2e := l2_ev (of_pat [] l) (by omega) (pat_legal l) _ 0 rfl (by omega)
  rw [hz] at h2e
  exact l0_ev l h25 h2e _ 0 rfl (by omega)
end Go.Proofs.Ytpcnpmcknknfcaa.Pure
