/- Ranks of patterns: plain facts. -/
import Derived.Test.YtpcnpmcknknfcaaPurePat
import Derived.Test.YtpcnpmcknknfcaaPPexx7
import Derived.Test.YtpcnpmcknknfcaaPPexx3
import Derived.Test.YtpcnpmcknknfcaaPPexx7
import Derived.Test.YtpcnpmcknknfcaaPPexx7
import Derived.Test.YtpcnpmcknknfcaaPPexx2
namespace Go.Proofs.Ytpcnpmcknknfcaa.PPex
open Go.RowKit Go.Proofs.YtpcnpmcknknfcaaW.PrintWords Go.Proofs.YtpcnpmcknknfcaaW.PrintLast Go.Proofs.YtpcnpmcknknfcaaW.PrintMore Go.Proofs.YtpcnpmcknknfcaaW.Mine
set_option linter.unusedVariables false
/-- how many stand ahead, u blocks being there -/
def rkS : Nat → List Int → Nat
  | _, [] => 0
  | u, x :: r => x.toNat * WN r.length u + rkS (max u (x.toNat + 1)) r
theorem legal_cons {u : Nat} {x : Int} {r : List Int} (h : legalF (u : Int) (x :: r) = true) : ∃ m : Nat, x = (m : Int) ∧ m ≤ u ∧ legalF ((max u (m + 1) : Nat) : Int) r = true := by
  simp only [legalF, Bool.and_eq_true, decide_eq_true_eq] at h
  obtain ⟨m, rfl⟩ := Int.eq_ofNat_of_zero_le h.1.1
  refine ⟨m, rfl, by omega, ?_⟩
  rw [show ((max u (m + 1) : Nat) : Int) = max (u : Int) ((m : Int) + 1) by omega]
  exact h.2
theorem rk_lt : ∀ (l : List Int) (u : Nat), legalF (u : Int) l = true → rkS u l < WN l.length u
  | [], u, _ => by simp [rkS, WN]
  | x :: r, u, h => by
    obtain ⟨m, rfl, hm, hr⟩ := legal_cons h
    have ih := rk_lt r _ hr
    simp only [rkS, List.length_cons, WN, Int.toNat_natCast]
    rcases Nat.lt_or_ge m u with h | h
    · rw [Nat.max_eq_left (by omega)] at *
      have h1 : (m + 1) * WN r.length u ≤ u * WN r.length u := Nat.mul_le_mul_right _ h
      rw [Nat.succ_mul] at h1
      omega
    · obtain rfl : m = u := by omega
      rw [Nat.max_eq_right (by omega)] at *
      omega
theorem u64_id (x : Int) (h0 : 0 ≤ x) (h1 : x ≤ 18446744073709551615) : IntKind.u64.wrap x = x := by
  simp only [IntKind.wrap, IntKind.signed, IntKind.bits]; simp; omega
/-- the sum from the front, and what is still to come -/
theorem acc_rk (l : List Int) (h25 : l.length ≤ 25) (hleg : legalF 0 l = true) : ∀ k, k ≤ l.length → ∃ u : Nat, usedF 0 (l.take k) = (u : Int) ∧ u ≤ k ∧ legalF (u : Int) (l.drop k) = true ∧ 0 ≤ part_Rank.acc l k ∧ part_Rank.acc l k + (rkS u (l.drop k) : Nat) = (rkS 0 l : Nat)
  | 0, _ => ⟨0, rfl, Nat.le_refl _, hleg, Int.le_refl _, by simp [part_Rank.acc]⟩
  | k + 1, hk => by
    obtain ⟨u, hu, huk, hl, ha0, ha⟩ := acc_rk l h25 hleg k (by omega)
    have hlt : k < l.length := by omega
    rw [List.drop_eq_getElem_cons hlt] at hl ha
    obtain ⟨m, hm, hmu, hr⟩ := legal_cons hl
    rw [hm] at ha
    have hb := rk_lt l 0 hleg
    have hbig := wn_le l.length 0 (by omega)
    have hlen : (l.drop (k + 1)).length = l.length - 1 - k := by rw [List.length_drop]; omega
    have hwle := wn_le (l.length - 1 - k) u (by omega)
    have hmul : m * WN (l.length - 1 - k) u ≤ rkS 0 l := by
      simp only [rkS, hlen, Int.toNat_natCast] at ha
      omega
    refine ⟨max u (m + 1), ?_, by omega, hr, ?_⟩
    · rw [List.take_succ_eq_append_getElem hlt, usedF_snoc, hu, hm]; omega
    · have hacc : part_Rank.acc l (k + 1) = part_Rank.acc l k + ((m * WN (l.length - 1 - k) u : Nat) : Int) := by
        rw [part_Rank.acc, hu, Int.toNat_natCast, rd_at l k hlt, hm, wy_wn _ _ (by omega), u64_id (m : Int) (by omega) (by omega)]
        have e : (m : Int) * (WN (l.length - 1 - k) u : Nat) = ((m * WN (l.length - 1 - k) u : Nat) : Int) := by simp
        simp only [rkS, hlen, Int.toNat_natCast] at ha
        rw [e]
        generalize m * WN (l.length - 1 - k) u = p at *
        rw [u64_id (p : Int) (by omega) (by omega), u64_id _ (by omega) (by omega)]
      simp only [rkS, hlen, Int.toNat_natCast] at ha
      rw [hacc]
      generalize m * WN (l.length - 1 - k) u = p at *
      constructor <;> omega
theorem acc_all (l : List Int) (h25 : l.length ≤ 25) (hleg : legalF 0 l = true) : part_Rank.acc l l.length = (rkS 0 l : Nat) := by
  obtain ⟨u, _, _, _, _, h⟩ := acc_rk l h25 hleg l.length (Nat.le_refl _)
  rw [List.drop_length] at h
  simpa [rkS] using h
/-- the pattern with that rank -/
theorem at_rk : ∀ (l : List Int) (u : Nat), legalF (u : Int) l = true → l.length + u ≤ 25 → atF_go l.length (rkS u l : Nat) u = l
  | [], u, _, _ => rfl
  | x :: r, u, h, h25 => by
    obtain ⟨m, rfl, hm, hr⟩ := legal_cons h
    have hlt := rk_lt r _ hr
    have hpos := wn_pos r.length u
    have hle := wn_le r.length u (by simp only [List.length_cons] at h25; omega)
    have hbig := rk_lt _ u h
    have hbw := wn_le (r.length + 1) u (by simpa [Nat.add_assoc] using h25)
    simp only [List.length_cons] at hbig h25
    have hx : atF_x r.length (rkS u ((m : Int) :: r) : Nat) u = (m : Int) := by
      unfold atF_x
      have hd : ((rkS u ((m : Int) :: r) : Nat) : Int) / (WN r.length u : Nat) = ((rkS u ((m : Int) :: r) / WN r.length u : Nat) : Int) := by simp
      have hdv : (m * WN r.length u + rkS (max u (m + 1)) r) / WN r.length u = m + rkS (max u (m + 1)) r / WN r.length u := by
        rw [Nat.add_comm, Nat.mul_comm, Nat.add_mul_div_left _ _ hpos, Nat.add_comm]
      have hq : rkS u ((m : Int) :: r) / WN r.length u = m + rkS (max u (m + 1)) r / WN r.length u := by simp only [rkS, Int.toNat_natCast]; exact hdv
      rw [hd, hq]
      rcases Nat.lt_or_ge m u with hmu | hmu
      · rw [Nat.max_eq_left (by omega)] at *
        rw [Nat.div_eq_of_lt hlt, if_pos (by omega)]; simp
      · generalize rkS (max u (m + 1)) r / WN r.length u = z
        rw [if_neg (by omega)]; omega
    have hrest : IntKind.u64.wrap ((rkS u ((m : Int) :: r) : Nat) - IntKind.u64.wrap ((m : Int) * (WN r.length u : Nat))) = (rkS (max u (m + 1)) r : Nat) := by
      have e : (m : Int) * (WN r.length u : Nat) = ((m * WN r.length u : Nat) : Int) := by simp
      simp only [rkS, Int.toNat_natCast] at hbig ⊢
      rw [e]
      generalize m * WN r.length u = p at *
      rw [u64_id (p : Int) (by omega) (by omega), u64_id _ (by omega) (by omega)]
      omega
    rw [List.length_cons, atF_go, hx, hrest, Int.toNat_natCast, at_rk r _ hr (by omega)]
/-! the pattern behind, and the one ahead -/
def nextS : Nat → List Int → Option (List Int)
  | _, [] => none
  | u, x :: r => match nextS (max u (x.toNat + 1)) r with
    | some r' => some (x :: r')
    | none => if x.toNat < u then some ((x + 1) :: List.replicate r.length 0) else none
def fillS : Nat → Nat → List Int
  | _, 0 => []
  | u, m + 1 => (u : Int) :: fillS (u + 1) m
def prevS : Nat → List Int → Option (List Int)
  | _, [] => none
  | u, x :: r => match prevS (max u (x.toNat + 1)) r with
    | some r' => some (x :: r')
    | none => if x = 0 then none else some ((x - 1) :: fillS (max u x.toNat) r.length)
theorem rk_zeros : ∀ (m u : Nat), rkS u (List.replicate m 0) = 0
  | 0, _ => rfl
  | m + 1, u => by simp [List.replicate_succ, rkS, rk_zeros m]
theorem legal_zeros : ∀ (m u : Nat), legalF (u : Int) (List.replicate m 0) = true
  | 0, _ => rfl
  | m + 1, u => by
    have h := legal_zeros m (max u 1)
    simp only [List.replicate_succ, legalF, Bool.and_eq_true, decide_eq_true_eq]
    refine ⟨by omega, ?_⟩
    rwa [show max (u : Int) (0 + 1) = ((max u 1 : Nat) : Int) by omega]
theorem prev_zeros : ∀ (m u : Nat), prevS u (List.replicate m 0) = none
  | 0, _ => rfl
  | m + 1, u => by simp [List.replicate_succ, prevS, prev_zeros m]
theorem next_none : ∀ (l : List Int) (u : Nat), legalF (u : Int) l = true → nextS u l = none → rkS u l + 1 = WN l.length u ∧ l = fillS u l.length
  | [], u, _, _ => ⟨rfl, rfl⟩
  | x :: r, u, h, hn => by
    obtain ⟨m, rfl, hm, hr⟩ := legal_cons h
    rw [nextS, Int.toNat_natCast] at hn
    cases e : nextS (max u (m + 1)) r with
    | some r' => rw [e] at hn; cases hn
    | none =>
      rw [e] at hn
      obtain ⟨h1, h2⟩ := next_none r _ hr e
      by_cases hx : m < u
      · simp only [if_pos hx] at hn; cases hn
      · obtain rfl : m = u := by omega
        rw [Nat.max_eq_right (by omega)] at h1 h2
        refine ⟨?_, ?_⟩
        · simp only [rkS, List.length_cons, WN, Int.toNat_natCast]
          rw [Nat.max_eq_right (by omega)]
          omega
        · rw [List.length_cons, fillS, ← h2]
theorem next_some : ∀ (l : List Int) (u : Nat) (b : List Int), legalF (u : Int) l = true → nextS u l = some b →
    legalF (u : Int) b = true ∧ b.length = l.length ∧ rkS u b = rkS u l + 1 ∧ prevS u b = some l ∧ ∃ (p : List Int) (x y : Int) (s t : List Int), l = p ++ x :: s ∧ b = p ++ y :: t ∧ x < y
  | [], u, b, _, hn => by cases hn
  | x :: r, u, b, h, hn => by
    obtain ⟨m, rfl, hm, hr⟩ := legal_cons h
    rw [nextS, Int.toNat_natCast] at hn
    cases e : nextS (max u (m + 1)) r with
    | some r' =>
      rw [e] at hn
      injection hn with hn
      subst hn
      obtain ⟨h1, h2, h3, h4, p, x, y, s, t, h5, h6, h7⟩ := next_some r _ r' hr e
      refine ⟨?_, by simp [h2], ?_, ?_, (m : Int) :: p, x, y, s, t, by rw [h5]; rfl, by rw [h6]; rfl, h7⟩
      · simp only [legalF, Bool.and_eq_true, decide_eq_true_eq] at h ⊢
        refine ⟨h.1, ?_⟩
        rwa [show max (u : Int) ((m : Int) + 1) = ((max u (m + 1) : Nat) : Int) by omega]
      · simp only [rkS, Int.toNat_natCast, h2, h3]; omega
      · rw [prevS, Int.toNat_natCast, h4]
    | none =>
      rw [e] at hn
      obtain ⟨h1, h2⟩ := next_none r _ hr e
      by_cases hx : m < u
      · simp only [if_pos hx] at hn
        injection hn with hn
        subst hn
        rw [Nat.max_eq_left (by omega)] at h1 h2
        have e1 : ((m : Int) + 1).toNat = m + 1 := by omega
        refine ⟨?_, by simp, ?_, ?_, [], (m : Int), (m : Int) + 1, r, _, rfl, rfl, by omega⟩
        · simp only [legalF, Bool.and_eq_true, decide_eq_true_eq]
          refine ⟨by omega, ?_⟩
          rw [show max (u : Int) ((m : Int) + 1 + 1) = ((max u (m + 2) : Nat) : Int) by omega]
          exact legal_zeros _ _
        · simp only [rkS, e1, Int.toNat_natCast, List.length_replicate, rk_zeros]
          rw [Nat.max_eq_left (by omega), Nat.succ_mul]
          omega
        · rw [prevS, e1, prev_zeros]
          simp only
          rw [if_neg (by omega), List.length_replicate, Nat.max_eq_left (by omega), ← h2]
          simp
      · simp only [if_neg hx] at hn; cases hn
theorem next_scan (p0 : Int) : ∀ (s p : List Int), 0 < p.length → (∃ u : Nat, usedF 0 p = (u : Int) ∧ legalF (u : Int) s = true) →
    nxF (p ++ s) ((p ++ s).length - 1) = match nextS (usedF 0 p).toNat s with
      | some s' => (p ++ s', true)
      | none => nxF (p ++ s) (p.length - 1)
  | [], p, hp, _ => by simp [nextS]
  | x :: r, p, hp, ⟨u, hu, hl⟩ => by
    obtain ⟨m, rfl, hm, hr⟩ := legal_cons hl
    have hu2 : usedF 0 (p ++ [(m : Int)]) = ((max u (m + 1) : Nat) : Int) := by rw [usedF_snoc, hu]; omega
    have ih := next_scan p0 r (p ++ [(m : Int)]) (by simp) ⟨_, hu2, hr⟩
    rw [List.append_assoc, List.singleton_append, hu2, Int.toNat_natCast] at ih
    rw [ih, hu, nextS, Int.toNat_natCast, Int.toNat_natCast]
    cases nextS (max u (m + 1)) r with
    | some r' => simp
    | none =>
      simp only
      obtain ⟨q, hq⟩ : ∃ q, p.length = q + 1 := ⟨p.length - 1, by omega⟩
      have hlen : (p ++ [(m : Int)]).length - 1 = q + 1 := by simp [hq]
      have ht : (p ++ (m : Int) :: r).take (q + 1) = p := by rw [← hq]; simp
      have hrd : rd (p ++ (m : Int) :: r) ((q + 1 : Nat) : Int) = (m : Int) := by
        rw [rd_at _ (q + 1) (by simp; omega), List.getElem_append_right (by omega)]
        simp [hq]
      rw [hlen, nxF, ht, hrd, hu, show p.length - 1 = q by omega]
      by_cases hx : m < u
      · rw [if_pos (by omega), if_pos hx]
        simp; omega
      · rw [if_neg (by omega), if_neg hx]
end Go.Proofs.Ytpcnpmcknknfcaa.PPex
