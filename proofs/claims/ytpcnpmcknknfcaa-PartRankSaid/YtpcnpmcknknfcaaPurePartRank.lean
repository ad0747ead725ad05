/- PartRank's pure statement. -/
import Derived.Test.YtpcnpmcknknfcaaPurePrev
import Derived.Test.YtpcnpmcknknfcaaPPrax2
import Derived.Test.YtpcnpmcknknfcaaPPrax4
namespace Go.Proofs.Ytpcnpmcknknfcaa.Pure
open Go.RowKit Go.Proofs.Ytpcnpmcknknfcaa.PPra Go.Proofs.YtpcnpmcknknfcaaW.PrintWords Go.Proofs.YtpcnpmcknknfcaaW.PrintLast Go.Proofs.YtpcnpmcknknfcaaW.PrintMore Go.Proofs.YtpcnpmcknknfcaaW.Mine
set_option linter.unusedVariables false
theorem wakes_ev : Ev (fun k => provostlaw02_wakes.f k) true := Ev.of provostlaw02_wakes.mono (k := 30) (by decide +kernel)
/-- one row stands behind another: to the first place where they part, and then to the end -/
theorem more_ev (a b p : List Int) (x y : Int) (s t : List Int) (ha : a = p ++ x :: s) (hb : b = p ++ y :: t) (hxy : x < y) (h25 : a.length ≤ 25) (hl : b.length = a.length) (n : Int) (d : Nat) :
    ∀ i : Nat, p.length - i = d → i ≤ p.length → (n + 1 = IntKind.u64.wrap (n + 1)) → Ev (fun k => provostlaw02_PartRank.l0 k a 0 n b (n + 1) a true false (i : Int)) true := by
  have hpl : p.length < a.length := by rw [ha]; simp
  have hra : rd a (p.length : Int) = x := by rw [rd_at a p.length hpl]; simp [ha]
  have hrb : rd b (p.length : Int) = y := by rw [rd_at b p.length (by omega)]; simp [hb]
  induction d with
  | zero =>
    intro i hd hi hn
    obtain rfl : i = p.length := by omega
    refine ev_succ ?_
    simp only [provostlaw02_PartRank.l0]
    refine ev_pos (by omega) (ev_pos (by omega) ?_)
    refine ev_succ ?_
    simp only [provostlaw02_PartRank.j2, Bool.not_false]
    rw [hra, hrb]
    refine ev_pos trivial (ev_pos (by omega) (ev_pos (by omega) (ev_pos (by omega) (ev_neg (by omega) ?_))))
    rw [decide_eq_true (p := y > x) (by omega), wr (by omega) (by omega)]
    have fin : Ev (fun k => provostlaw02_PartRank.j2 k a 0 n b (n + 1) a true true ((p.length : Int) + 1) false) true := by
      refine ev_succ ?_
      simp only [provostlaw02_PartRank.j2]
      refine ev_neg (by decide) (ev_pos trivial (ev_pos hn (ev_pos trivial (Ev.bind (ints_ev a (by omega)) (ev_pos rfl (ev_pos trivial (ev_some ?_)))))))
      rw [hl]; simp
    refine ev_succ ?_
    simp only [provostlaw02_PartRank.l0, Bool.not_true]
    by_cases h1 : (p.length : Int) + 1 < (a.length : Int)
    · exact ev_pos h1 (ev_pos (by omega) fin)
    · exact ev_neg h1 fin
  | succ d ih =>
    intro i hd hi hn
    have hlt : i < p.length := by omega
    have e1 : rd a (i : Int) = rd b (i : Int) := by
      rw [rd_at a i (by omega), rd_at b i (by omega)]
      simp only [ha, hb]
      rw [List.getElem_append_left hlt, List.getElem_append_left hlt]
    refine ev_succ ?_
    simp only [provostlaw02_PartRank.l0]
    refine ev_pos (by omega) (ev_pos (by omega) ?_)
    refine ev_succ ?_
    simp only [provostlaw02_PartRank.j2, Bool.not_false]
    rw [e1]
    refine ev_pos trivial (ev_pos (by omega) (ev_pos (by omega) (ev_pos (by omega) (ev_neg (by omega) ?_))))
    rw [decide_eq_false (p := rd b (i : Int) > rd b (i : Int)) (by omega), wr (by omega) (by omega)]
    exact ih (i + 1) (by omega) (by omega) hn
theorem PartRank : provostlaw02_PartRank.Pure := by
  intro l0 h1 h2 h3
  refine Ev.rounds ?_
  have hf : ∀ l : List Int, l.length ≤ 25 → provostlaw02_few.f l 25 = some l := fun l h => by
    rw [show (25 : Int) = ((25 : Nat) : Int) from rfl, few_eq l 25 (by omega), List.take_of_length_le h]
  have hf0 : provostlaw02_few.f l0 25 = some (l0.take 25) := by rw [show (25 : Int) = ((25 : Nat) : Int) from rfl, few_eq l0 25 (by omega)]
  have h25 : (l0.take 25).length ≤ 25 := List.length_take_le _ _
  have hw : ∀ x ∈ l0.take 25, (Lit.int .i64 x).wf = true := fun x hx => h3 x (List.mem_of_mem_take hx)
  generalize l0.take 25 = l at *
  have hlen := of_pat_len l []
  have ho : part_Of.f l = some (of_pat [] l, 0) := by unfold part_Of.f; rw [if_neg (by omega), if_pos hw]
  have hleg := pat_legal l
  unfold provostlaw02_PartRank.f
  rw [hf0]
  simp only [Option.bind_some]
  rw [ho]
  simp only [Option.bind_some]
  generalize of_pat [] l = a at *
  have ha : a.length ≤ 25 := by omega
  have hra : ∀ b : List Int, b.length ≤ 25 → legalF 0 b = true → part_Rank.f b = some (((rkS 0 b : Nat) : Int), 0) := fun b hb hl => by
    unfold part_Rank.f
    rw [if_pos (by rw [hl, decide_eq_true hb]; rfl), acc_all b hb hl]
  have hbe : part_Bell.f (a.length : Int) = some (((WN a.length 0 : Nat) : Int), 0) := by
    unfold part_Bell.f
    rw [if_neg (by omega), Int.toNat_natCast, wy_wn _ _ (by omega)]
  have hlt := rk_lt a 0 hleg
  have hbig := wn_le a.length 0 (by omega)
  have hat : part_At.f (a.length : Int) ((rkS 0 a : Nat) : Int) = some (a, 0) := by
    unfold part_At.f
    rw [if_neg (by omega), if_pos (by omega), Int.toNat_natCast, if_pos (by omega), at_rk a 0 hleg (by omega)]
  rw [hf a ha]
  simp only [Option.bind_some]
  rw [hra a ha hleg]
  simp only [Option.bind_some]
  rw [hbe]
  simp only [Option.bind_some]
  rw [hat]
  simp only [Option.bind_some]
  refine ev_pos trivial (ev_pos trivial (ev_pos trivial (ev_pos trivial (ev_neg (by omega) (Ev.bind (ints_ev a (by omega)) (ev_pos rfl (Ev.bind wakes_ev ?_)))))))
  refine ev_succ ?_
  simp only [provostlaw02_PartRank.j0, Bool.not_true]
  refine ev_neg (by decide) ?_
  have hnx : part_Next.f a = some (optR (nextS 0 a)) := by
    unfold part_Next.f
    rw [if_pos (by rw [hleg, decide_eq_true ha]; rfl), next_all a hleg]
  rw [hf a ha]
  simp only [Option.bind_some]
  rw [hnx]
  simp only [Option.bind_some]
  cases e : nextS 0 a with
  | none =>
    obtain ⟨h5, _⟩ := next_none a 0 hleg e
    simp only [optR]
    refine ev_neg (by decide) (ev_pos ?_ (ev_some rfl))
    rw [u64_id _ (by omega) (by omega)]; omega
  | some b =>
    obtain ⟨h5, h6, h7, h8, p, x, y, s, t, h9, h10, h11⟩ := next_some a 0 b hleg e
    have hlb := rk_lt b 0 h5
    rw [h6] at hlb
    simp only [optR]
    refine ev_pos trivial ?_
    rw [hf b (by omega)]
    simp only [Option.bind_some]
    rw [hra b (by omega) h5]
    simp only [Option.bind_some]
    have hp := prev_ev b (by omega) h5
    rw [h8] at hp
    refine Ev.bind hp ?_
    have hm := more_ev a b p x y s t h9 h10 h11 ha h6 ((rkS 0 a : Nat) : Int) p.length 0 (by omega) (by omega) (by rw [u64_id _ (by omega) (by omega)])
    rw [h7]
    exact hm
end Go.Proofs.Ytpcnpmcknknfcaa.Pure
