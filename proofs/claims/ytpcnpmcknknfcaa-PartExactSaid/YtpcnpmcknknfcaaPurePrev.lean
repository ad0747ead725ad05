/- Prev, evaluated. -/
import Derived.Test.YtpcnpmcknknfcaaPureRk
import Derived.Test.YtpcnpmcknknfcaaPPexx7
namespace Go.Proofs.Ytpcnpmcknknfcaa.PPex
open Go.RowKit Go.Proofs.YtpcnpmcknknfcaaW.PrintWords Go.Proofs.YtpcnpmcknknfcaaW.PrintLast Go.Proofs.YtpcnpmcknknfcaaW.PrintMore Go.Proofs.YtpcnpmcknknfcaaW.Mine
set_option linter.unusedVariables false
theorem wrm {i : Int} (h0 : -9223372036854775808 ≤ i - 1) (h : i - 1 ≤ 9223372036854775807) : wrap64 (i - 1) = i - 1 := by unfold wrap64; omega
def pvF (l : List Int) : Nat → List Int × Bool
  | 0 => ([], false)
  | i + 1 => if rd l ((i + 1 : Nat) : Int) = 0 then pvF l i else (l.take (i + 1) ++ (rd l ((i + 1 : Nat) : Int) - 1) :: fillS (max (usedF 0 (l.take (i + 1))) (rd l ((i + 1 : Nat) : Int))).toNat (l.length - (i + 2)), true)
theorem legal_app : ∀ (a b : List Int) (u : Int), legalF u (a ++ b) = (legalF u a && legalF (usedF u a) b)
  | [], b, u => by simp [legalF, usedF]
  | x :: r, b, u => by
    have := legal_app r b (max u (x + 1))
    simp only [List.cons_append, legalF, this, Bool.and_assoc]
    rfl
theorem prev_l1 : ∀ (m : Nat) (p z : List Int), z.length = m → p.length + m ≤ 25 → legalF 0 p = true → Ev (fun k => part_Prev.l1 k (p ++ z) (p.length : Int)) (p ++ fillS (usedF 0 p).toNat m, true)
  | 0, p, z, hz, h25, hp => by
    obtain rfl := List.eq_nil_of_length_eq_zero hz
    refine ev_succ ?_
    simp only [part_Prev.l1, List.append_nil, fillS]
    exact ev_neg (by omega) (ev_some rfl)
  | m + 1, p, z, hz, h25, hp => by
    have hu := used_len p 0 hp
    have hg := used_ge p 0
    match z, hz with
    | x :: z, hz =>
      simp only [List.length_cons] at hz
      refine ev_succ ?_
      simp only [part_Prev.l1]
      have ht : (p ++ x :: z).take ((p.length : Int)).toNat = p := by rw [Int.toNat_natCast]; simp
      have hs : ∀ t, (p ++ x :: z).set ((p.length : Int)).toNat t = (p ++ [t]) ++ z := by
        intro t; rw [Int.toNat_natCast, List.set_append_right _ _ (Nat.le_refl _), Nat.sub_self]; simp
      simp only [ht, hs]
      rw [wr (by omega) (by omega)]
      refine ev_pos (by simp; omega) (ev_pos (by omega) (ev_pos (by simp; omega) (Ev.bind (size_ev p hp (by omega)) ?_)))
      have hl : legalF 0 (p ++ [usedF 0 p]) = true := by
        rw [legal_app, hp]; simp [legalF]; omega
      have ih := prev_l1 m (p ++ [usedF 0 p]) z (by omega) (by simp; omega) hl
      rw [usedF_snoc, show (max (usedF 0 p) (usedF 0 p + 1)).toNat = (usedF 0 p).toNat + 1 by omega] at ih
      rw [fillS, show ((usedF 0 p).toNat : Int) = usedF 0 p by omega]
      have e : ((p ++ [usedF 0 p]).length : Int) = (p.length : Int) + 1 := by simp
      rw [e] at ih
      simpa using ih
theorem prev_l0 (l : List Int) (h25 : l.length ≤ 25) (hl : legalF 0 l = true) : ∀ i : Nat, i < l.length → Ev (fun k => part_Prev.l0 k l (i : Int)) (pvF l i)
  | 0, _ => by
    refine ev_succ ?_
    simp only [part_Prev.l0, pvF]
    exact ev_neg (by omega) (ev_some rfl)
  | i + 1, hi => by
    have hc := legal_app (l.take (i + 1)) (l.drop (i + 1)) 0
    rw [List.take_append_drop, hl, List.drop_eq_getElem_cons hi] at hc
    have hc := hc.symm
    rw [Bool.and_eq_true] at hc
    obtain ⟨hc1, hc2⟩ := hc
    simp only [legalF, Bool.and_eq_true, decide_eq_true_eq] at hc2
    have hu := used_len _ 0 hc1
    have hg := used_ge (l.take (i + 1)) 0
    have htl : (l.take (i + 1)).length = i + 1 := by rw [List.length_take]; omega
    rw [htl] at hu
    refine ev_succ ?_
    simp only [part_Prev.l0, pvF]
    have ih := prev_l0 l h25 hl i (by omega)
    rw [rd_at l (i + 1) hi]
    refine ev_pos (by omega) (ev_pos (by omega) (ev_pos (by omega) ?_))
    rw [wrm (by omega) (by omega), show ((i + 1 : Nat) : Int) - 1 = (i : Int) by omega]
    by_cases h0 : l[i + 1] = 0
    · refine ev_pos h0 ?_
      rw [if_pos h0]; exact ih
    · refine ev_neg h0 ?_
      rw [if_neg h0]
      have hcl : slices_Clone_int_int.f l = some l := by unfold slices_Clone_int_int.f; rw [if_pos (by omega)]
      rw [hcl]
      simp only [Option.bind_some]
      refine ev_pos (by omega) ?_
      rw [rd_at l (i + 1) hi, wrm (by omega) (by omega), wr (by omega) (by omega), Int.toNat_natCast]
      have hset : l.set (i + 1) (l[i + 1] - 1) = (l.take (i + 1) ++ [l[i + 1] - 1]) ++ l.drop (i + 2) := by
        generalize l[i + 1] - 1 = y
        have e : l = l.take (i + 1) ++ l[i + 1] :: l.drop (i + 2) := by rw [← List.drop_eq_getElem_cons hi, List.take_append_drop]
        generalize l[i + 1] = z at e
        generalize l.drop (i + 2) = d at *
        generalize l.take (i + 1) = a at *
        rw [e, List.set_append_right _ _ (by omega), htl, Nat.sub_self]
        simp
      have hlp : legalF 0 (l.take (i + 1) ++ [l[i + 1] - 1]) = true := by
        rw [legal_app, hc1]; simp [legalF]; omega
      have h1 := prev_l1 (l.length - (i + 2)) (l.take (i + 1) ++ [l[i + 1] - 1]) (l.drop (i + 2)) (by simp) (by simp; omega) hlp
      rw [hset]
      rw [usedF_snoc, show l[i + 1] - 1 + 1 = l[i + 1] by omega] at h1
      have e : ((l.take (i + 1) ++ [l[i + 1] - 1]).length : Int) = ((i + 1 : Nat) : Int) + 1 := by rw [List.length_append, htl]; simp
      rw [e] at h1
      simpa using h1
theorem prev_scan : ∀ (s p : List Int), 0 < p.length → (∃ u : Nat, usedF 0 p = (u : Int) ∧ legalF (u : Int) s = true) →
    pvF (p ++ s) ((p ++ s).length - 1) = match prevS (usedF 0 p).toNat s with
      | some s' => (p ++ s', true)
      | none => pvF (p ++ s) (p.length - 1)
  | [], p, hp, _ => by simp [prevS]
  | x :: r, p, hp, ⟨u, hu, hl⟩ => by
    obtain ⟨m, rfl, hm, hr⟩ := legal_cons hl
    have hu2 : usedF 0 (p ++ [(m : Int)]) = ((max u (m + 1) : Nat) : Int) := by rw [usedF_snoc, hu]; omega
    have ih := prev_scan r (p ++ [(m : Int)]) (by simp) ⟨_, hu2, hr⟩
    rw [List.append_assoc, List.singleton_append, hu2, Int.toNat_natCast] at ih
    rw [ih, hu, prevS, Int.toNat_natCast, Int.toNat_natCast]
    cases prevS (max u (m + 1)) r with
    | some r' => simp
    | none =>
      simp only
      obtain ⟨q, hq⟩ : ∃ q, p.length = q + 1 := ⟨p.length - 1, by omega⟩
      have hlen : (p ++ [(m : Int)]).length - 1 = q + 1 := by simp [hq]
      have ht : (p ++ (m : Int) :: r).take (q + 1) = p := by rw [← hq]; simp
      have hrd : rd (p ++ (m : Int) :: r) ((q + 1 : Nat) : Int) = (m : Int) := by
        rw [rd_at _ (q + 1) (by simp; omega), List.getElem_append_right (by omega)]
        simp [hq]
      rw [hlen, pvF, ht, hrd, hu, show p.length - 1 = q by omega]
      by_cases hx : (m : Int) = 0
      · rw [if_pos hx, if_pos hx]
      · rw [if_neg hx, if_neg hx, show (max (u : Int) (m : Int)).toNat = max u m by omega]
        have e : (p ++ (m : Int) :: r).length - (q + 2) = r.length := by simp; omega
        rw [e]
def optR : Option (List Int) → List Int × Bool
  | some b => (b, true)
  | none => ([], false)
theorem head0 {x : Int} {r : List Int} (h : legalF 0 (x :: r) = true) : x = 0 ∧ legalF 1 r = true := by
  simp only [legalF, Bool.and_eq_true, decide_eq_true_eq] at h
  obtain rfl : x = 0 := by omega
  exact ⟨rfl, h.2⟩
theorem next_all (l : List Int) (hl : legalF 0 l = true) : nxF l (l.length - 1) = optR (nextS 0 l) := by
  match l with
  | [] => rfl
  | x :: r =>
    obtain ⟨rfl, hr⟩ := head0 hl
    have h := next_scan 0 r [0] (by simp) ⟨1, rfl, hr⟩
    have e : usedF 0 [0] = 1 := rfl
    rw [e] at h
    simp only [List.singleton_append] at h
    rw [h, nextS]
    show _ = optR (match nextS 1 r with | some r' => some (0 :: r') | none => if (0 : Int).toNat < 0 then some ((0 + 1) :: List.replicate r.length 0) else none)
    show (match nextS 1 r with | some s' => ((0 :: s' : List Int), true) | none => nxF (0 :: r) 0) = _
    cases nextS 1 r <;> rfl
theorem prev_all (l : List Int) (hl : legalF 0 l = true) : pvF l (l.length - 1) = optR (prevS 0 l) := by
  match l with
  | [] => rfl
  | x :: r =>
    obtain ⟨rfl, hr⟩ := head0 hl
    have h := prev_scan r [0] (by simp) ⟨1, rfl, hr⟩
    have e : usedF 0 [0] = 1 := rfl
    rw [e] at h
    simp only [List.singleton_append] at h
    rw [h, prevS]
    show (match prevS 1 r with | some s' => ((0 :: s' : List Int), true) | none => pvF (0 :: r) 0) = optR (match prevS 1 r with | some r' => some (0 :: r') | none => if (0 : Int) = 0 then none else some ((0 - 1) :: fillS (max 0 (0 : Int).toNat) r.length))
    cases prevS 1 r <;> rfl
theorem prev_ev (l : List Int) (h25 : l.length ≤ 25) (hl : legalF 0 l = true) : Ev (fun k => part_Prev.f k l) (optR (prevS 0 l)) := by
  unfold part_Prev.f
  have h := legal_ev l
  rw [hl, decide_eq_true h25] at h
  refine Ev.bind h (ev_pos rfl ?_)
  rw [← prev_all l hl]
  by_cases h0 : l.length = 0
  · obtain rfl := List.eq_nil_of_length_eq_zero h0
    refine ev_succ ?_
    simp only [part_Prev.l0, List.length_nil]
    exact ev_neg (by unfold wrap64; decide) (ev_some rfl)
  · rw [wrm (by omega) (by omega), show (l.length : Int) - 1 = ((l.length - 1 : Nat) : Int) by omega]
    exact prev_l0 l h25 hl (l.length - 1) (by omega)
end Go.Proofs.Ytpcnpmcknknfcaa.PPex
