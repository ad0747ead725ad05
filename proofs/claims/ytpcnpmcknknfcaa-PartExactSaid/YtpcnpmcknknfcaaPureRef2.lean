/- The reference's numbers, evaluated: ways, Bell, First, At, Rank, Join. -/
import Derived.Test.YtpcnpmcknknfcaaPureRef1
import Derived.Test.YtpcnpmcknknfcaaPurePrev
import Derived.Test.YtpcnpmcknknfcaaPPexx4
import Derived.Test.YtpcnpmcknknfcaaPPexx4
import Derived.Test.YtpcnpmcknknfcaaPPexx4
import Derived.Test.YtpcnpmcknknfcaaPPexx5
import Derived.Test.YtpcnpmcknknfcaaPPexx9
import Derived.Test.YtpcnpmcknknfcaaPPexx14
namespace Go.Proofs.Ytpcnpmcknknfcaa.PPex
open Go.RowKit Go.Proofs.YtpcnpmcknknfcaaW.PrintWords Go.Proofs.YtpcnpmcknknfcaaW.PrintLast Go.Proofs.YtpcnpmcknknfcaaW.PrintMore Go.Proofs.YtpcnpmcknknfcaaW.Mine
set_option linter.unusedVariables false
theorem rd_set (l : List Int) (i j : Nat) (v : Int) (hi : i < l.length) : rd (l.set i v) (j : Int) = if j = i then v else rd l (j : Int) := by
  unfold rd
  rw [Int.toNat_natCast, List.getD_eq_getElem?_getD, List.getD_eq_getElem?_getD, List.getElem?_set]
  by_cases h : i = j
  · subst h; rw [if_pos rfl, if_pos hi, if_pos rfl]; rfl
  · rw [if_neg h, if_neg (fun e => h e.symm)]
theorem ways_l2 (L B n K : Nat) (hn : n ≤ 100) (hK : K + 1 < n) (res : Int) (nx : ∀ row : List Int, row.length = n → (∀ j : Nat, j < n - (K + 1) → rd row (j : Int) = wy (K + 1) j) → Ev (fun k => provostref02_ways.l1 k (L : Int) (B : Int) row ((K + 1 : Nat) : Int)) res) (d : Nat) :
    ∀ (b : Nat) (row : List Int), n - K - 1 - b = d → b + 1 ≤ n - K → row.length = n → (∀ j : Nat, j < n - K → rd row (j : Int) = if j < b then wy (K + 1) j else wy K j) → Ev (fun k => provostref02_ways.l2 k (L : Int) (B : Int) row (K : Int) (b : Int)) res := by
  induction d with
  | zero =>
    intro b row hd hb hlen hrow
    refine ev_succ ?_
    simp only [provostref02_ways.l2]
    have e1 : wrap64 ((row.length : Int) - (K : Int)) = ((n - K : Nat) : Int) := by unfold wrap64; omega
    rw [e1, wr (i := (b : Int)) (by omega) (by omega), wr (i := (K : Int)) (by omega) (by omega)]
    refine ev_neg (by omega) ?_
    exact nx row hlen (fun j hj => by rw [hrow j (by omega), if_pos (by omega)])
  | succ d ih =>
    intro b row hd hb hlen hrow
    refine ev_succ ?_
    simp only [provostref02_ways.l2]
    have e1 : wrap64 ((row.length : Int) - (K : Int)) = ((n - K : Nat) : Int) := by unfold wrap64; omega
    rw [e1, wr (i := (b : Int)) (by omega) (by omega), u64_id (b : Int) (by omega) (by omega), Int.toNat_natCast]
    refine ev_pos (by omega) (ev_pos (by omega) (ev_pos (by omega) (ev_pos (by omega) (ev_pos (by omega) ?_))))
    have h1 := hrow b (by omega)
    have h2 := hrow (b + 1) (by omega)
    rw [if_neg (by omega)] at h1 h2
    rw [show ((b : Int) + 1) = ((b + 1 : Nat) : Int) by omega, h1, h2]
    refine ih (b + 1) _ (by omega) (by omega) (by simp [hlen]) (fun j hj => ?_)
    rw [rd_set _ _ _ _ (by omega)]
    by_cases e : j = b
    · subst e; rw [if_pos rfl, if_pos (by omega)]; rfl
    · rw [if_neg e, hrow j hj]
      by_cases h3 : j < b
      · rw [if_pos h3, if_pos (by omega)]
      · rw [if_neg h3, if_neg (by omega)]
theorem ways_l1 (L B n : Nat) (hn : n ≤ 100) (hLB : L + B + 2 = n) (d : Nat) : ∀ (K : Nat) (row : List Int), L - K = d → K ≤ L → row.length = n → (∀ j : Nat, j < n - K → rd row (j : Int) = wy K j) →
    Ev (fun k => provostref02_ways.l1 k (L : Int) (B : Int) row (K : Int)) (wy L B) := by
  induction d with
  | zero =>
    intro K row hd hK hlen hrow
    obtain rfl : K = L := by omega
    refine ev_succ ?_
    simp only [provostref02_ways.l1]
    refine ev_neg (by omega) (ev_pos (by omega) (ev_pos (by omega) (ev_some ?_)))
    exact hrow B (by omega)
  | succ d ih =>
    intro K row hd hK hlen hrow
    refine ev_succ ?_
    simp only [provostref02_ways.l1]
    refine ev_pos (by omega) ?_
    exact ways_l2 L B n K hn (by omega) _ (fun row h1 h2 => ih (K + 1) row (by omega) (by omega) h1 h2) _ 0 row rfl (by omega) hlen (fun j hj => by rw [if_neg (by omega)]; exact hrow j hj)
theorem ways_l0 (L B n : Nat) (hn : n ≤ 100) (hLB : L + B + 2 = n) (d : Nat) : ∀ (i : Nat) (row : List Int), n - i = d → i ≤ n → row.length = n → (∀ j : Nat, j < i → rd row (j : Int) = 1) →
    Ev (fun k => provostref02_ways.l0 k (L : Int) (B : Int) row (i : Int)) (wy L B) := by
  induction d with
  | zero =>
    intro i row hd hi hlen hrow
    refine ev_succ ?_
    simp only [provostref02_ways.l0]
    refine ev_neg (by omega) ?_
    exact ways_l1 L B n hn hLB L 0 row (by omega) (Nat.zero_le _) hlen (fun j hj => by rw [hrow j (by omega)]; rfl)
  | succ d ih =>
    intro i row hd hi hlen hrow
    refine ev_succ ?_
    simp only [provostref02_ways.l0]
    refine ev_pos (by omega) (ev_pos (by omega) ?_)
    rw [wr (i := (i : Int)) (by omega) (by omega), Int.toNat_natCast]
    refine ih (i + 1) _ (by omega) (by omega) (by simp [hlen]) (fun j hj => ?_)
    rw [rd_set _ _ _ _ (by omega)]
    by_cases e : j = i
    · rw [if_pos e]
    · rw [if_neg e]; exact hrow j (by omega)
theorem ways_ev (L B : Nat) (h : L + B ≤ 98) : Ev (fun k => provostref02_ways.f k (L : Int) (B : Int)) (wy L B) := by
  unfold provostref02_ways.f
  have e : wrap64 (wrap64 ((L : Int) + (B : Int)) + 2) = ((L + B + 2 : Nat) : Int) := by unfold wrap64; omega
  rw [e]
  refine ev_pos (by omega) (ev_pos (by omega) ?_)
  exact ways_l0 L B (L + B + 2) (by omega) rfl _ 0 _ rfl (Nat.zero_le _) (by rw [List.length_replicate, Int.toNat_natCast]) (fun j hj => by omega)
theorem rbell_ev (n : Nat) (h : n ≤ 25) : Ev (fun k => provostref02_Bell.f k (n : Int)) ((WN n 0 : Nat) : Int) := by
  unfold provostref02_Bell.f
  have := ways_ev n 0 (by omega)
  rw [wy_wn n 0 (by omega)] at this
  exact Ev.bind this (ev_some rfl)
theorem rfirst_eq (n : Nat) (h : n ≤ 25) : provostref02_First.f (n : Int) = some (List.replicate n 0) := by
  unfold provostref02_First.f
  rw [if_pos (by omega), Int.toNat_natCast, if_pos (by omega)]
/-! Rank -/
theorem rrank_l0 (a : List Int) (h25 : a.length ≤ 25) (hl : legalF 0 a = true) (d : Nat) : ∀ i : Nat, a.length - i = d → i ≤ a.length → Ev (fun k => provostref02_Rank.l0 k a (part_Rank.acc a i) (usedF 0 (a.take i)) (i : Int)) (part_Rank.acc a a.length) := by
  induction d with
  | zero =>
    intro i hd hi
    obtain rfl : i = a.length := by omega
    refine ev_succ ?_
    simp only [provostref02_Rank.l0]
    exact ev_neg (by omega) (ev_some rfl)
  | succ d ih =>
    intro i hd hi
    have hlt : i < a.length := by omega
    obtain ⟨h1, h2, h3, _⟩ := legal_take a 0 i hl hlt (by omega)
    have hu := used_len _ 0 h1
    have hg := used_ge (a.take i) 0
    rw [List.length_take] at hu
    obtain ⟨u, hu2⟩ := Int.eq_ofNat_of_zero_le hg
    have nx := ih (i + 1) (by omega) (by omega)
    have hac : part_Rank.acc a (i + 1) = IntKind.u64.wrap (part_Rank.acc a i + IntKind.u64.wrap (IntKind.u64.wrap (rd a i) * wy (a.length - 1 - i) (usedF 0 (a.take i)).toNat)) := rfl
    rw [hac, List.take_succ_eq_append_getElem hlt, usedF_snoc, ← rd_at a i hlt, hu2, Int.toNat_natCast] at nx
    refine ev_succ ?_
    simp only [provostref02_Rank.l0]
    have e : wrap64 (wrap64 ((a.length : Int) - 1) - (i : Int)) = ((a.length - 1 - i : Nat) : Int) := by unfold wrap64; omega
    rw [e, hu2]
    refine ev_pos (by omega) (ev_pos (by omega) (Ev.bind (ways_ev _ _ (by omega)) ?_))
    rw [wr (i := (i : Int)) (by omega) (by omega), wr (i := (u : Int)) (by omega) (by omega)]
    rw [hu2] at h3
    by_cases hx : rd a (i : Int) = (u : Int)
    · refine ev_pos hx ?_
      rw [show max (u : Int) (rd a (i : Int) + 1) = (u : Int) + 1 by omega] at nx
      exact nx
    · refine ev_neg hx ?_
      rw [show max (u : Int) (rd a (i : Int) + 1) = (u : Int) by omega] at nx
      exact nx
theorem rrank_ev (a : List Int) (h25 : a.length ≤ 25) (hl : legalF 0 a = true) : Ev (fun k => provostref02_Rank.f k a) ((rkS 0 a : Nat) : Int) := by
  unfold provostref02_Rank.f
  have := rrank_l0 a h25 hl a.length 0 (by omega) (by omega)
  rw [acc_all a h25 hl] at this
  simpa [usedF, part_Rank.acc] using this
/-! At -/
theorem rat_l1 (n : Nat) (h25 : n ≤ 25) (i u m : Nat) (him : i + 1 + m = n) (hui : u ≤ i) (rank : Int) (h0 : 0 ≤ rank) (h1 : rank ≤ 18446744073709551615) (pre : List Int) (hp : pre.length = i) (res : List Int)
    (nx : Ev (fun k => provostref02_At.l0 k (n : Int) (IntKind.u64.wrap (rank - IntKind.u64.wrap (atF_x m rank u * (WN m u : Nat)))) ((pre ++ [atF_x m rank u]) ++ List.replicate m 0) ((max u ((atF_x m rank u).toNat + 1) : Nat) : Int) ((i + 1 : Nat) : Int)) res) :
    Ev (fun k => provostref02_At.l1 k (n : Int) rank (pre ++ 0 :: List.replicate m 0) (u : Int) (i : Int) ((WN m u : Nat) : Int)) res := by
  have hE := wn_pos m u
  have hE2 := wn_le m u (by omega)
  obtain ⟨q0, q1⟩ := atF_x0 m rank u h0
  have hdv := Int.mul_ediv_add_emod rank ((WN m u : Nat) : Int)
  have hm0 := Int.emod_nonneg rank (show ((WN m u : Nat) : Int) ≠ 0 by omega)
  have hm1 := Int.emod_lt_of_pos rank (show (0 : Int) < ((WN m u : Nat) : Int) by omega)
  have hx : atF_x m rank u = if rank / (WN m u : Nat) < (u : Int) then rank / (WN m u : Nat) else u := rfl
  have hset : ∀ x z : Int, (pre ++ x :: List.replicate m 0).set i z = pre ++ z :: List.replicate m 0 := by
    intro x z; rw [List.set_append_right _ _ (by omega), hp, Nat.sub_self]; rfl
  have hlen : ∀ x : Int, (pre ++ x :: List.replicate m 0).length = n := by intro x; simp [hp]; omega
  have hrd : ∀ x : Int, rd (pre ++ x :: List.replicate m 0) (i : Int) = x := by
    intro x
    rw [rd_at _ i (by rw [hlen]; omega), List.getElem_append_right (by omega)]
    simp [hp]
  -- c times taken
  have key : ∀ d c : Nat, (atF_x m rank u).toNat - c = d → (c : Int) ≤ atF_x m rank u → Ev (fun k => provostref02_At.l1 k (n : Int) (rank - (c : Int) * (WN m u : Nat)) (pre ++ (c : Int) :: List.replicate m 0) (u : Int) (i : Int) ((WN m u : Nat) : Int)) res := by
    intro d
    generalize WN m u = E at *
    generalize hq : rank / (E : Int) = q at *
    generalize rank % (E : Int) = s at *
    have hqu : atF_x m rank u ≤ q ∧ atF_x m rank u ≤ u ∧ (atF_x m rank u = q ∨ atF_x m rank u = u) := by
      rw [hx]; split <;> omega
    clear hx
    generalize atF_x m rank u = x at *
    induction d with
    | zero =>
      intro c hd hc
      obtain rfl : x = (c : Int) := by omega
      refine ev_succ ?_
      simp only [provostref02_At.l1]
      refine ev_pos (by omega) (ev_pos (by rw [hlen]; omega) ?_)
      have stop : Ev (fun k => provostref02_At.j2 k (n : Int) (rank - (c : Int) * (E : Int)) (pre ++ (c : Int) :: List.replicate m 0) (u : Int) (i : Int) (E : Int) false) res := by
        refine ev_succ ?_
        simp only [provostref02_At.j2]
        refine ev_neg (by decide) (ev_pos (by omega) (ev_pos (by rw [hlen]; omega) ?_))
        rw [hrd, wr (i := (i : Int)) (by omega) (by omega), wr (i := (u : Int)) (by omega) (by omega)]
        have hcq : (c : Int) * E ≤ q * E := Int.mul_le_mul_of_nonneg_right hqu.1 (by omega)
        have hqE : q * (E : Int) = E * q := Int.mul_comm ..
        have hc0 : 0 ≤ (c : Int) * (E : Int) := Int.mul_nonneg (by omega) (by omega)
        have e1 : IntKind.u64.wrap (rank - IntKind.u64.wrap ((c : Int) * (E : Int))) = rank - (c : Int) * (E : Int) := by
          generalize (c : Int) * (E : Int) = z at *
          generalize q * (E : Int) = z2 at *
          rw [u64_id z (by omega) (by omega), u64_id _ (by omega) (by omega)]
        rw [e1, List.append_assoc, List.singleton_append, Int.toNat_natCast] at nx
        by_cases hcu : (c : Int) = (u : Int)
        · refine ev_pos hcu ?_
          rw [show ((max u (c + 1) : Nat) : Int) = (u : Int) + 1 by omega] at nx
          exact nx
        · refine ev_neg hcu ?_
          rw [show ((max u (c + 1) : Nat) : Int) = (u : Int) by omega] at nx
          exact nx
      rw [hrd]
      by_cases hcu : (c : Int) < (u : Int)
      · refine ev_pos hcu ?_
        have hcq : q = (c : Int) := by omega
        rw [hcq] at hdv
        have : (E : Int) * (c : Int) = (c : Int) * (E : Int) := Int.mul_comm ..
        rw [decide_eq_false (p := rank - (c : Int) * (E : Int) ≥ (E : Int)) (by omega)]
        exact stop
      · exact ev_neg hcu stop
    | succ d ih =>
      intro c hd hc
      refine ev_succ ?_
      simp only [provostref02_At.l1]
      refine ev_pos (by omega) (ev_pos (by rw [hlen]; omega) ?_)
      rw [hrd]
      refine ev_pos (by omega) ?_
      have hcq : ((c : Int) + 1) * E ≤ q * E := Int.mul_le_mul_of_nonneg_right (by omega) (by omega)
      have hqE : q * (E : Int) = E * q := Int.mul_comm ..
      have hc1 : ((c : Int) + 1) * (E : Int) = (c : Int) * (E : Int) + E := by rw [Int.add_mul, Int.one_mul]
      have hc0 : 0 ≤ (c : Int) * (E : Int) := Int.mul_nonneg (by omega) (by omega)
      rw [decide_eq_true (p := rank - (c : Int) * (E : Int) ≥ (E : Int)) (by omega)]
      refine ev_succ ?_
      simp only [provostref02_At.j2]
      refine ev_pos trivial (ev_pos (by omega) (ev_pos (by rw [hlen]; omega) ?_))
      rw [hrd, Int.toNat_natCast, hset, wr (i := (c : Int)) (by omega) (by omega), u64_id _ (by omega) (by omega)]
      have nn := ih (c + 1) (by omega) (by omega)
      rw [show (((c + 1 : Nat) : Nat) : Int) = (c : Int) + 1 by omega, hc1] at nn
      rw [show rank - (c : Int) * (E : Int) - (E : Int) = rank - ((c : Int) * (E : Int) + (E : Int)) by omega]
      exact nn
  have := key _ 0 rfl (by omega)
  simpa using this
theorem rat_l0 (n : Nat) (h25 : n ≤ 25) (d : Nat) : ∀ (i u : Nat) (rank : Int) (pre : List Int), n - i = d → i ≤ n → u ≤ i → 0 ≤ rank → rank ≤ 18446744073709551615 → pre.length = i →
    Ev (fun k => provostref02_At.l0 k (n : Int) rank (pre ++ List.replicate (n - i) 0) (u : Int) (i : Int)) (pre ++ atF_go (n - i) rank u) := by
  induction d with
  | zero =>
    intro i u rank pre hd hi hu h0 h1 hp
    obtain rfl : i = n := by omega
    refine ev_succ ?_
    simp only [provostref02_At.l0]
    rw [Nat.sub_self, List.replicate_zero, atF_go]
    exact ev_neg (by omega) (ev_some rfl)
  | succ d ih =>
    intro i u rank pre hd hi hu h0 h1 hp
    obtain ⟨m, hm⟩ : ∃ m, n = i + 1 + m := ⟨n - i - 1, by omega⟩
    obtain ⟨q0, q1⟩ := atF_x0 m rank u h0
    refine ev_succ ?_
    simp only [provostref02_At.l0]
    have e : wrap64 (wrap64 ((n : Int) - 1) - (i : Int)) = ((m : Nat) : Int) := by unfold wrap64; omega
    rw [e, show n - i = m + 1 by omega, List.replicate_succ, atF_go]
    have hw := ways_ev m u (by omega)
    rw [wy_wn m u (by omega)] at hw
    refine ev_pos (by omega) (Ev.bind hw ?_)
    obtain ⟨w0, w1⟩ := u64_in (IntKind.u64.wrap (atF_x m rank u * (WN m u : Nat))) rank
    have nx := ih (i + 1) (max u ((atF_x m rank u).toNat + 1)) _ (pre ++ [atF_x m rank u]) (by omega) (by omega) (by omega) w0 w1 (by simp [hp])
    rw [show n - (i + 1) = m by omega, List.append_assoc, List.singleton_append] at nx
    have nx2 : Ev (fun k => provostref02_At.l0 k (n : Int) (IntKind.u64.wrap (rank - IntKind.u64.wrap (atF_x m rank u * (WN m u : Nat)))) ((pre ++ [atF_x m rank u]) ++ List.replicate m 0) ((max u ((atF_x m rank u).toNat + 1) : Nat) : Int) ((i + 1 : Nat) : Int)) (pre ++ atF_x m rank u :: atF_go m (IntKind.u64.wrap (rank - IntKind.u64.wrap (atF_x m rank u * (WN m u : Nat)))) (max u ((atF_x m rank u).toNat + 1))) := by
      rw [List.append_assoc, List.singleton_append]
      rw [List.append_assoc, List.singleton_append] at nx
      exact nx
    exact rat_l1 n h25 i u m hm.symm hu rank h0 h1 pre hp _ nx2
theorem rat_ev (n : Nat) (h25 : n ≤ 25) (rank : Int) (h0 : 0 ≤ rank) (h1 : rank ≤ 18446744073709551615) : Ev (fun k => provostref02_At.f k (n : Int) rank) (atF_go n rank 0) := by
  unfold provostref02_At.f
  refine ev_pos (by omega) (ev_pos (by omega) ?_)
  have := rat_l0 n h25 n 0 0 rank [] (by omega) (by omega) (by omega) h0 h1 rfl
  simpa using this
/-! Join -/
def msr (l : List Int) : Nat := l.foldr (fun x s => x.toNat + s) 0
theorem msr_set : ∀ (l : List Int) (i : Nat) (v : Int), i < l.length → 0 ≤ v → v < rd l i → msr (l.set i v) < msr l
  | [], _, _, h, _, _ => absurd h (by simp)
  | x :: r, 0, v, _, h0, hv => by
    rw [rd_cons0] at hv
    simp only [msr, List.set_cons_zero, List.foldr_cons]
    omega
  | x :: r, i + 1, v, h, h0, hv => by
    rw [rd_consS] at hv
    have := msr_set r i v (by simpa using h) h0 hv
    simp only [msr, List.set_cons_succ, List.foldr_cons] at *
    omega
/-- labels on the way: each the number of a place of its own class -/
def Lab (J l : List Int) : Prop := l.length = J.length ∧ ∀ j : Nat, j < J.length → 0 ≤ rd l j ∧ rd l j < (J.length : Int) ∧ rd J (rd l j) = rd J j
theorem lab_set {J l : List Int} (h : Lab J l) (i k : Nat) (hi : i < J.length) (hk : k < J.length) (e : rd J i = rd J k) : Lab J (l.set i (rd l k)) := by
  refine ⟨by simp [h.1], fun j hj => ?_⟩
  rw [rd_set l i j _ (by rw [h.1]; exact hi)]
  by_cases hji : j = i
  · rw [if_pos hji]
    obtain ⟨h1, h2, h3⟩ := h.2 k hk
    exact ⟨h1, h2, by rw [h3, hji, e]⟩
  · rw [if_neg hji]; exact h.2 j hj
section
variable (a b : List Int) (hab : a.length = b.length) (ha : legalF 0 a = true) (hb : legalF 0 b = true) (h25 : a.length ≤ 25)
def relAB (i k : Nat) : Prop := rd a (i : Int) = rd a (k : Int) ∨ rd b (i : Int) = rd b (k : Int)
include hab ha hb in
theorem join_close (l : List Int) (h : Lab (joinP a b) l) (hc : ∀ i k : Nat, i < a.length → k < a.length → relAB a b i k → rd l i ≤ rd l k) : of_pat [] l = joinP a b := by
  obtain ⟨hg, j1, j2, j3⟩ := join_fin a b hab ha hb
  have hlen : l.length = a.length := by rw [h.1, hg.1]
  refine fin_anti _ _ (by rw [of_pat_len, hlen, hg.1]) (pat_legal l) hg.2 (fin_trans (by rw [of_pat_len]) (pat_fin l) ?_) (fin_trans (by rw [hg.1, hlen]) (j3 l ?_ ?_) (fin_pat l))
  · intro i k hi hk e
    obtain ⟨_, _, h1⟩ := h.2 i (by rw [hg.1]; omega)
    obtain ⟨_, _, h2⟩ := h.2 k (by rw [hg.1]; omega)
    rw [← h1, ← h2, e]
  · intro i k hi hk e
    have h1 := hc i k hi hk (Or.inl e)
    have h2 := hc k i hk hi (Or.inl e.symm)
    omega
  · intro i k hi hk e
    have h1 := hc i k (by omega) (by omega) (Or.inr e)
    have h2 := hc k i (by omega) (by omega) (Or.inr e.symm)
    omega
include hab ha hb h25 in
theorem rjoin_pass (S : Nat) (l0 : List Int) (hS : msr l0 = S) (again : ∀ l : List Int, Lab (joinP a b) l → msr l < S → Ev (fun k => provostref02_Join.l1 k a b l true) (joinP a b)) :
    ∀ (d i j : Nat) (l : List Int) (x : Bool), (a.length - i) * 40 + (a.length - j) = d → i < a.length → j ≤ a.length → Lab (joinP a b) l → (x = true → msr l < S) →
      (x = false → l = l0 ∧ ∀ p q : Nat, p < a.length → q < a.length → (p < i ∨ (p = i ∧ q < j)) → relAB a b p q → rd l p ≤ rd l q) →
      Ev (fun k => provostref02_Join.l3 k a b l x (i : Int) (j : Int)) (joinP a b) := by
  obtain ⟨hg, f1, f2, _⟩ := join_fin a b hab ha hb
  intro d
  induction d using Nat.strongRecOn with
  | ind d ih =>
    intro i j l x hd hi hj hl hx1 hx0
    have hlen : l.length = a.length := by rw [hl.1, hg.1]
    refine ev_succ ?_
    simp only [provostref02_Join.l3]
    by_cases hja : j < a.length
    · have relJ : relAB a b i j → rd (joinP a b) (i : Int) = rd (joinP a b) (j : Int) := by
        rintro (e | e)
        · exact f1 i j hi hja e
        · exact f2 i j (by omega) (by omega) e
      have go : relAB a b i j → Ev (fun k => provostref02_Join.j4 k a b l x (i : Int) (j : Int) (decide ((rd l (j : Int)) < (rd l (i : Int))))) (joinP a b) := by
        intro hr
        refine ev_succ ?_
        simp only [provostref02_Join.j4]
        rw [wr (i := (j : Int)) (by omega) (by omega), Int.toNat_natCast]
        by_cases hlt : rd l (j : Int) < rd l (i : Int)
        · rw [decide_eq_true hlt]
          refine ev_pos rfl (ev_pos (by omega) (ev_pos (by omega) (ev_pos (by omega) (ev_pos (by omega) ?_))))
          obtain ⟨b0, _, _⟩ := hl.2 j (by rw [hg.1]; exact hja)
          have hm := msr_set l i (rd l j) (by omega) b0 hlt
          refine ih ((a.length - i) * 40 + (a.length - (j + 1))) (by omega) i (j + 1) _ true rfl hi (by omega) (lab_set hl i j (by rw [hg.1]; exact hi) (by rw [hg.1]; exact hja) (relJ hr)) (fun _ => ?_) (fun h => by cases h)
          cases x with
          | true => have := hx1 rfl; omega
          | false => obtain ⟨e, _⟩ := hx0 rfl; rw [e] at hm; rw [e]; omega
        · rw [decide_eq_false hlt]
          refine ev_neg (by decide) ?_
          refine ih ((a.length - i) * 40 + (a.length - (j + 1))) (by omega) i (j + 1) l x rfl hi (by omega) hl hx1 (fun h => ?_)
          obtain ⟨e, hc⟩ := hx0 h
          refine ⟨e, fun p q hp hq hpq hrel => ?_⟩
          rcases hpq with h1 | ⟨h1, h2⟩
          · exact hc p q hp hq (Or.inl h1) hrel
          · rcases Nat.lt_or_ge q j with h3 | h3
            · exact hc p q hp hq (Or.inr ⟨h1, h3⟩) hrel
            · obtain rfl : q = j := by omega
              subst h1
              omega
      have skip : ¬ relAB a b i j → Ev (fun k => provostref02_Join.j4 k a b l x (i : Int) (j : Int) false) (joinP a b) := by
        intro hr
        refine ev_succ ?_
        simp only [provostref02_Join.j4]
        rw [wr (i := (j : Int)) (by omega) (by omega)]
        refine ev_neg (by decide) ?_
        refine ih ((a.length - i) * 40 + (a.length - (j + 1))) (by omega) i (j + 1) l x rfl hi (by omega) hl hx1 (fun h => ?_)
        obtain ⟨e, hc⟩ := hx0 h
        refine ⟨e, fun p q hp hq hpq hrel => ?_⟩
        rcases hpq with h1 | ⟨h1, h2⟩
        · exact hc p q hp hq (Or.inl h1) hrel
        · rcases Nat.lt_or_ge q j with h3 | h3
          · exact hc p q hp hq (Or.inr ⟨h1, h3⟩) hrel
          · obtain rfl : q = j := by omega
            subst h1
            exact absurd hrel hr
      refine ev_pos (by omega) (ev_pos (by omega) (ev_pos (by omega) (ev_pos (by omega) ?_)))
      by_cases e1 : rd a (i : Int) = rd a (j : Int)
      · exact ev_pos e1 (ev_pos (by omega) (ev_pos (by omega) (go (Or.inl e1))))
      · refine ev_neg e1 (ev_pos (by omega) (ev_pos (by omega) ?_))
        by_cases e2 : rd b (i : Int) = rd b (j : Int)
        · exact ev_pos e2 (ev_pos (by omega) (ev_pos (by omega) (go (Or.inr e2))))
        · exact ev_neg e2 (skip (fun h => h.elim e1 e2))
    · refine ev_neg (by omega) ?_
      rw [wr (i := (i : Int)) (by omega) (by omega)]
      refine ev_succ ?_
      simp only [provostref02_Join.l2]
      by_cases hin : i + 1 < a.length
      · refine ev_pos (by omega) ?_
        refine ih ((a.length - (i + 1)) * 40 + (a.length - 0)) (by omega) (i + 1) 0 l x rfl hin (Nat.zero_le _) hl hx1 (fun h => ?_)
        obtain ⟨e, hc⟩ := hx0 h
        refine ⟨e, fun p q hp hq hpq hrel => ?_⟩
        rcases hpq with h1 | ⟨h1, h2⟩
        · rcases Nat.lt_or_ge p i with h3 | h3
          · exact hc p q hp hq (Or.inl h3) hrel
          · exact hc p q hp hq (Or.inr ⟨by omega, by omega⟩) hrel
        · omega
      · refine ev_neg (by omega) ?_
        cases x with
        | true => exact again l hl (hx1 rfl)
        | false =>
          obtain ⟨e, hc⟩ := hx0 rfl
          refine ev_succ ?_
          simp only [provostref02_Join.l1]
          refine ev_neg (by decide) (Ev.bind (rof_ev l (by omega)) (ev_some ?_))
          exact join_close a b hab ha hb l hl (fun p q hp hq hrel => hc p q hp hq (by omega) hrel)
include hab ha hb h25 in
theorem rjoin_l1 (S : Nat) : ∀ l : List Int, msr l = S → Lab (joinP a b) l → Ev (fun k => provostref02_Join.l1 k a b l true) (joinP a b) := by
  induction S using Nat.strongRecOn with
  | ind S ih =>
    intro l hS hl
    have hg := (join_fin a b hab ha hb).1
    refine ev_succ ?_
    simp only [provostref02_Join.l1]
    refine ev_pos trivial ?_
    refine ev_succ ?_
    simp only [provostref02_Join.l2]
    by_cases h0 : 0 < a.length
    · refine ev_pos (by omega) ?_
      exact rjoin_pass a b hab ha hb h25 S l hS (fun l' h1 h2 => ih _ h2 l' rfl h1) _ 0 0 l false rfl h0 (Nat.zero_le _) hl (fun h => by cases h) (fun _ => ⟨rfl, fun p q _ _ h _ => by omega⟩)
    · refine ev_neg (by omega) ?_
      refine ev_succ ?_
      simp only [provostref02_Join.l1]
      have hlen : l.length = a.length := by rw [hl.1, hg.1]
      refine ev_neg (by decide) (Ev.bind (rof_ev l (by omega)) (ev_some ?_))
      exact join_close a b hab ha hb l hl (fun p q hp _ _ => by omega)
include hab ha hb h25 in
theorem rjoin_ev : Ev (fun k => provostref02_Join.f k a b) (joinP a b) := by
  have hg := (join_fin a b hab ha hb).1
  have key : ∀ d i : Nat, a.length - i = d → i ≤ a.length → ∀ l : List Int, l.length = a.length → (∀ j : Nat, j < i → rd l (j : Int) = (j : Int)) → Ev (fun k => provostref02_Join.l0 k a b l (i : Int)) (joinP a b) := by
    intro d
    induction d with
    | zero =>
      intro i hd hi l hlen hid
      refine ev_succ ?_
      simp only [provostref02_Join.l0]
      refine ev_neg (by omega) ?_
      refine rjoin_l1 a b hab ha hb h25 _ l rfl ⟨by rw [hlen, hg.1], fun j hj => ?_⟩
      rw [hg.1] at hj
      rw [hid j (by omega), hg.1]
      exact ⟨by omega, by omega, rfl⟩
    | succ d ih =>
      intro i hd hi l hlen hid
      refine ev_succ ?_
      simp only [provostref02_Join.l0]
      refine ev_pos (by omega) (ev_pos (by omega) (ev_pos (by omega) ?_))
      rw [wr (i := (i : Int)) (by omega) (by omega), Int.toNat_natCast]
      refine ih (i + 1) (by omega) (by omega) _ (by simp [hlen]) (fun j hj => ?_)
      rw [rd_set l i j _ (by omega)]
      by_cases e : j = i
      · rw [if_pos e, e]
      · rw [if_neg e]; exact hid j (by omega)
  unfold provostref02_Join.f
  refine ev_pos (by omega) (ev_pos (by omega) ?_)
  exact key a.length 0 (by omega) (Nat.zero_le _) _ (by simp) (fun j hj => by omega)
end
end Go.Proofs.Ytpcnpmcknknfcaa.PPex
