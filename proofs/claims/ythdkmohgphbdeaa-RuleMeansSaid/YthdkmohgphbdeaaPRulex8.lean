/- A text written by my program wip/gen/p2.py out of the translation and of my foreign texts; not trusted: Lean checks it. -/
import Derived.Test.YthdkmohgphbdeaaPRulex0
import Derived.Test.YthdkmohgphbdeaaPRulex1
import Derived.Test.YthdkmohgphbdeaaPRulex3
namespace Go.Proofs.Ythdkmohgphbdeaa.PRule
open Go.RowKit Go.Proofs.YthdkmohgphbdeaaW.PrintWords Go.Proofs.YthdkmohgphbdeaaW.PrintLast Go.Proofs.YthdkmohgphbdeaaW.PrintMore
attribute [local go_sem] max2_int min2_int max_two min_two max_three min_three max_four min_four   -- for this text's walks alone
set_option linter.unusedVariables false
set_option linter.unusedSimpArgs false

/-! ### provostlaw06_RuleMeans: function 7 -/
mutual
def provostlaw06_RuleMeans.l0 : Nat → List (S55) → List Int → Int → Option (Bool)
  | 0, _, _, _ => none
  | k + 1, x3, x4, x5 => if x5 < (x3.length : Int) then (if 0 ≤ x5 then ((provostlaw06_row.f x4).bind fun t246 => ((rule_Holds.f k ((rd_T55 x3 x5).f0) ((rd_T55 x3 x5).f1) ((rd_T55 x3 x5).f2) t246).bind fun t249 => (if t249 = true then (provostlaw06_RuleMeans.l1 k x3 x4 x5 ((rd_T55 x3 x5).f2) 0 0) else (provostlaw06_RuleMeans.l0 k x3 x4 (wrap64 (x5 + 1)))))) else (none)) else ((provostlaw06_wakes.f k).bind fun t282 => (some t282))
def provostlaw06_RuleMeans.l1 : Nat → List (S55) → List Int → Int → List Int → Int → Int → Option (Bool)
  | 0, _, _, _, _, _, _ => none
  | k + 1, x3, x4, x5, x6, x7, x8 => if x8 < (x6.length : Int) then (if 0 ≤ x8 then (if (rd x6 x8) < 0 then (provostlaw06_RuleMeans.j2 k x3 x4 x5 x6 x7 x8 true) else (provostlaw06_RuleMeans.j2 k x3 x4 x5 x6 x7 x8 (decide ((rd x6 x8) ≥ (x4.length : Int))))) else (none)) else (if 0 ≤ x5 then (if x5 < (x3.length : Int) then (if ((rd_T55 x3 x5).f0) = 4 then (if x7 > ((rd_T55 x3 x5).f1) then (provostlaw06_RuleMeans.j6 k x3 x4 x5 true) else (if ((rd_T55 x3 x5).f0) = 5 then (if x7 < ((rd_T55 x3 x5).f1) then (provostlaw06_RuleMeans.j6 k x3 x4 x5 true) else (if ((rd_T55 x3 x5).f0) < 1 then (provostlaw06_RuleMeans.j6 k x3 x4 x5 true) else (provostlaw06_RuleMeans.j6 k x3 x4 x5 (decide (((rd_T55 x3 x5).f0) > 5))))) else (if ((rd_T55 x3 x5).f0) < 1 then (provostlaw06_RuleMeans.j6 k x3 x4 x5 true) else (provostlaw06_RuleMeans.j6 k x3 x4 x5 (decide (((rd_T55 x3 x5).f0) > 5)))))) else (if ((rd_T55 x3 x5).f0) = 5 then (if x7 < ((rd_T55 x3 x5).f1) then (provostlaw06_RuleMeans.j6 k x3 x4 x5 true) else (if ((rd_T55 x3 x5).f0) < 1 then (provostlaw06_RuleMeans.j6 k x3 x4 x5 true) else (provostlaw06_RuleMeans.j6 k x3 x4 x5 (decide (((rd_T55 x3 x5).f0) > 5))))) else (if ((rd_T55 x3 x5).f0) < 1 then (provostlaw06_RuleMeans.j6 k x3 x4 x5 true) else (provostlaw06_RuleMeans.j6 k x3 x4 x5 (decide (((rd_T55 x3 x5).f0) > 5)))))) else (none)) else (none))
def provostlaw06_RuleMeans.j2 : Nat → List (S55) → List Int → Int → List Int → Int → Int → Bool → Option (Bool)
  | 0, _, _, _, _, _, _, _ => none
  | k + 1, x3, x4, x5, x6, x7, x8, x56 => if x56 = true then (some false) else (provostlaw06_RuleMeans.l2 k x3 x4 x5 x6 x7 x8 0 true 0)
def provostlaw06_RuleMeans.l2 : Nat → List (S55) → List Int → Int → List Int → Int → Int → Int → Bool → Int → Option (Bool)
  | 0, _, _, _, _, _, _, _, _, _ => none
  | k + 1, x3, x4, x5, x6, x7, x8, x9, x10, x11 => if x11 < (x6.length : Int) then (if 0 ≤ x8 then (if x8 < (x6.length : Int) then (if 0 ≤ (rd x6 x8) then (if (rd x6 x8) < (x4.length : Int) then (if 0 ≤ x11 then (if 0 ≤ (rd x6 x11) then (if (rd x6 x11) < (x4.length : Int) then (if (rd x4 (rd x6 x8)) = (rd x4 (rd x6 x11)) then (if x10 = true then (provostlaw06_RuleMeans.l2 k x3 x4 x5 x6 x7 x8 (wrap64 (x9 + 1)) (decide (x11 ≥ x8)) (wrap64 (x11 + 1))) else (provostlaw06_RuleMeans.l2 k x3 x4 x5 x6 x7 x8 (wrap64 (x9 + 1)) false (wrap64 (x11 + 1)))) else (provostlaw06_RuleMeans.l2 k x3 x4 x5 x6 x7 x8 x9 x10 (wrap64 (x11 + 1)))) else (none)) else (none)) else (none)) else (none)) else (none)) else (none)) else (none)) else (if x10 = true then (provostlaw06_RuleMeans.j4 k x3 x4 x5 x6 (wrap64 (x7 + 1)) x8 x9) else (provostlaw06_RuleMeans.j4 k x3 x4 x5 x6 x7 x8 x9))
def provostlaw06_RuleMeans.j4 : Nat → List (S55) → List Int → Int → List Int → Int → Int → Int → Option (Bool)
  | 0, _, _, _, _, _, _, _ => none
  | k + 1, x3, x4, x5, x6, x7, x8, x9 => if 0 ≤ x5 then (if x5 < (x3.length : Int) then (if ((rd_T55 x3 x5).f0) = 1 then (if x9 = 1 then (if ((rd_T55 x3 x5).f0) = 2 then (if x9 = (x6.length : Int) then (if ((rd_T55 x3 x5).f0) = 3 then (provostlaw06_RuleMeans.j5 k x3 x4 x5 x6 x7 x8 (decide (x9 > ((rd_T55 x3 x5).f1)))) else (provostlaw06_RuleMeans.j5 k x3 x4 x5 x6 x7 x8 false)) else (provostlaw06_RuleMeans.j5 k x3 x4 x5 x6 x7 x8 true)) else (if ((rd_T55 x3 x5).f0) = 3 then (provostlaw06_RuleMeans.j5 k x3 x4 x5 x6 x7 x8 (decide (x9 > ((rd_T55 x3 x5).f1)))) else (provostlaw06_RuleMeans.j5 k x3 x4 x5 x6 x7 x8 false))) else (provostlaw06_RuleMeans.j5 k x3 x4 x5 x6 x7 x8 true)) else (if ((rd_T55 x3 x5).f0) = 2 then (if x9 = (x6.length : Int) then (if ((rd_T55 x3 x5).f0) = 3 then (provostlaw06_RuleMeans.j5 k x3 x4 x5 x6 x7 x8 (decide (x9 > ((rd_T55 x3 x5).f1)))) else (provostlaw06_RuleMeans.j5 k x3 x4 x5 x6 x7 x8 false)) else (provostlaw06_RuleMeans.j5 k x3 x4 x5 x6 x7 x8 true)) else (if ((rd_T55 x3 x5).f0) = 3 then (provostlaw06_RuleMeans.j5 k x3 x4 x5 x6 x7 x8 (decide (x9 > ((rd_T55 x3 x5).f1)))) else (provostlaw06_RuleMeans.j5 k x3 x4 x5 x6 x7 x8 false)))) else (none)) else (none)
def provostlaw06_RuleMeans.j5 : Nat → List (S55) → List Int → Int → List Int → Int → Int → Bool → Option (Bool)
  | 0, _, _, _, _, _, _, _ => none
  | k + 1, x3, x4, x5, x6, x7, x8, x129 => if x129 = true then (some false) else (provostlaw06_RuleMeans.l1 k x3 x4 x5 x6 x7 (wrap64 (x8 + 1)))
def provostlaw06_RuleMeans.j6 : Nat → List (S55) → List Int → Int → Bool → Option (Bool)
  | 0, _, _, _, _ => none
  | k + 1, x3, x4, x5, x177 => if x177 = true then (some false) else (provostlaw06_RuleMeans.l0 k x3 x4 (wrap64 (x5 + 1)))
end
def provostlaw06_RuleMeans.f (k : Nat) (a0_0 : Int) (l0_1 : List (S55)) (l0_2 : List Int) (l0_3 : List ByteArray) : Option (Bool) := (provostlaw06_Twin.f k l0_1).bind fun t239 => ((provostlaw06_row.f l0_2).bind fun t242 => (provostlaw06_RuleMeans.l0 k t239 t242 0))
theorem provostlaw06_RuleMeans.mono_l : ∀ k, (∀ y0 y1 y2, LeO (provostlaw06_RuleMeans.l0 k y0 y1 y2) (provostlaw06_RuleMeans.l0 (k + 1) y0 y1 y2)) ∧ (∀ y0 y1 y2 y3 y4 y5, LeO (provostlaw06_RuleMeans.l1 k y0 y1 y2 y3 y4 y5) (provostlaw06_RuleMeans.l1 (k + 1) y0 y1 y2 y3 y4 y5)) ∧ (∀ y0 y1 y2 y3 y4 y5 y6, LeO (provostlaw06_RuleMeans.j2 k y0 y1 y2 y3 y4 y5 y6) (provostlaw06_RuleMeans.j2 (k + 1) y0 y1 y2 y3 y4 y5 y6)) ∧ (∀ y0 y1 y2 y3 y4 y5 y6 y7 y8, LeO (provostlaw06_RuleMeans.l2 k y0 y1 y2 y3 y4 y5 y6 y7 y8) (provostlaw06_RuleMeans.l2 (k + 1) y0 y1 y2 y3 y4 y5 y6 y7 y8)) ∧ (∀ y0 y1 y2 y3 y4 y5 y6, LeO (provostlaw06_RuleMeans.j4 k y0 y1 y2 y3 y4 y5 y6) (provostlaw06_RuleMeans.j4 (k + 1) y0 y1 y2 y3 y4 y5 y6)) ∧ (∀ y0 y1 y2 y3 y4 y5 y6, LeO (provostlaw06_RuleMeans.j5 k y0 y1 y2 y3 y4 y5 y6) (provostlaw06_RuleMeans.j5 (k + 1) y0 y1 y2 y3 y4 y5 y6)) ∧ (∀ y0 y1 y2 y3, LeO (provostlaw06_RuleMeans.j6 k y0 y1 y2 y3) (provostlaw06_RuleMeans.j6 (k + 1) y0 y1 y2 y3))
  | 0 => ⟨fun _ _ _ r h => by simp [provostlaw06_RuleMeans.l0] at h, fun _ _ _ _ _ _ r h => by simp [provostlaw06_RuleMeans.l1] at h, fun _ _ _ _ _ _ _ r h => by simp [provostlaw06_RuleMeans.j2] at h, fun _ _ _ _ _ _ _ _ _ r h => by simp [provostlaw06_RuleMeans.l2] at h, fun _ _ _ _ _ _ _ r h => by simp [provostlaw06_RuleMeans.j4] at h, fun _ _ _ _ _ _ _ r h => by simp [provostlaw06_RuleMeans.j5] at h, fun _ _ _ _ r h => by simp [provostlaw06_RuleMeans.j6] at h⟩
  | k + 1 => by
    obtain ⟨ih0, ih1, ih2, ih3, ih4, ih5, ih6⟩ := provostlaw06_RuleMeans.mono_l k
    refine ⟨?_, ?_, ?_, ?_, ?_, ?_, ?_⟩
    · intro y0 y1 y2
      unfold provostlaw06_RuleMeans.l0
      repeat' first
      | (with_reducible exact ih0 _ _ _)
      | (with_reducible exact ih1 _ _ _ _ _ _)
      | (with_reducible exact ih2 _ _ _ _ _ _ _)
      | (with_reducible exact ih3 _ _ _ _ _ _ _ _ _)
      | (with_reducible exact ih4 _ _ _ _ _ _ _)
      | (with_reducible exact ih5 _ _ _ _ _ _ _)
      | (with_reducible exact ih6 _ _ _ _)
      | (with_reducible exact provostlaw06_Twin.mono _ _)
      | (with_reducible exact provostlaw06_wakes.mono _)
      | (with_reducible exact rule_Holds.mono _ _ _ _ _)
      | (with_reducible exact LeO.refl _)
      | (with_reducible exact LeO.none _)
      | (with_reducible refine LeO.ite ?_ ?_)
      | (with_reducible refine LeO.bind ?_ (fun _ => ?_))
      | exact ih0 _ _ _
      | exact ih1 _ _ _ _ _ _
      | exact ih2 _ _ _ _ _ _ _
      | exact ih3 _ _ _ _ _ _ _ _ _
      | exact ih4 _ _ _ _ _ _ _
      | exact ih5 _ _ _ _ _ _ _
      | exact ih6 _ _ _ _
      | exact provostlaw06_Twin.mono _ _
      | exact provostlaw06_wakes.mono _
      | exact rule_Holds.mono _ _ _ _ _
      | exact LeO.none _
      | refine LeO.ite ?_ ?_
      | refine LeO.bind ?_ (fun _ => ?_)
    · intro y0 y1 y2 y3 y4 y5
      unfold provostlaw06_RuleMeans.l1
      repeat' first
      | (with_reducible exact ih0 _ _ _)
      | (with_reducible exact ih1 _ _ _ _ _ _)
      | (with_reducible exact ih2 _ _ _ _ _ _ _)
      | (with_reducible exact ih3 _ _ _ _ _ _ _ _ _)
      | (with_reducible exact ih4 _ _ _ _ _ _ _)
      | (with_reducible exact ih5 _ _ _ _ _ _ _)
      | (with_reducible exact ih6 _ _ _ _)
      | (with_reducible exact provostlaw06_Twin.mono _ _)
      | (with_reducible exact provostlaw06_wakes.mono _)
      | (with_reducible exact rule_Holds.mono _ _ _ _ _)
      | (with_reducible exact LeO.refl _)
      | (with_reducible exact LeO.none _)
      | (with_reducible refine LeO.ite ?_ ?_)
      | (with_reducible refine LeO.bind ?_ (fun _ => ?_))
      | exact ih0 _ _ _
      | exact ih1 _ _ _ _ _ _
      | exact ih2 _ _ _ _ _ _ _
      | exact ih3 _ _ _ _ _ _ _ _ _
      | exact ih4 _ _ _ _ _ _ _
      | exact ih5 _ _ _ _ _ _ _
      | exact ih6 _ _ _ _
      | exact provostlaw06_Twin.mono _ _
      | exact provostlaw06_wakes.mono _
      | exact rule_Holds.mono _ _ _ _ _
      | exact LeO.none _
      | refine LeO.ite ?_ ?_
      | refine LeO.bind ?_ (fun _ => ?_)
    · intro y0 y1 y2 y3 y4 y5 y6
      unfold provostlaw06_RuleMeans.j2
      repeat' first
      | (with_reducible exact ih0 _ _ _)
      | (with_reducible exact ih1 _ _ _ _ _ _)
      | (with_reducible exact ih2 _ _ _ _ _ _ _)
      | (with_reducible exact ih3 _ _ _ _ _ _ _ _ _)
      | (with_reducible exact ih4 _ _ _ _ _ _ _)
      | (with_reducible exact ih5 _ _ _ _ _ _ _)
      | (with_reducible exact ih6 _ _ _ _)
      | (with_reducible exact provostlaw06_Twin.mono _ _)
      | (with_reducible exact provostlaw06_wakes.mono _)
      | (with_reducible exact rule_Holds.mono _ _ _ _ _)
      | (with_reducible exact LeO.refl _)
      | (with_reducible exact LeO.none _)
      | (with_reducible refine LeO.ite ?_ ?_)
      | (with_reducible refine LeO.bind ?_ (fun _ => ?_))
      | exact ih0 _ _ _
      | exact ih1 _ _ _ _ _ _
      | exact ih2 _ _ _ _ _ _ _
      | exact ih3 _ _ _ _ _ _ _ _ _
      | exact ih4 _ _ _ _ _ _ _
      | exact ih5 _ _ _ _ _ _ _
      | exact ih6 _ _ _ _
      | exact provostlaw06_Twin.mono _ _
      | exact provostlaw06_wakes.mono _
      | exact rule_Holds.mono _ _ _ _ _
      | exact LeO.none _
      | refine LeO.ite ?_ ?_
      | refine LeO.bind ?_ (fun _ => ?_)
    · intro y0 y1 y2 y3 y4 y5 y6 y7 y8
      unfold provostlaw06_RuleMeans.l2
      repeat' first
      | (with_reducible exact ih0 _ _ _)
      | (with_reducible exact ih1 _ _ _ _ _ _)
      | (with_reducible exact ih2 _ _ _ _ _ _ _)
      | (with_reducible exact ih3 _ _ _ _ _ _ _ _ _)
      | (with_reducible exact ih4 _ _ _ _ _ _ _)
      | (with_reducible exact ih5 _ _ _ _ _ _ _)
      | (with_reducible exact ih6 _ _ _ _)
      | (with_reducible exact provostlaw06_Twin.mono _ _)
      | (with_reducible exact provostlaw06_wakes.mono _)
      | (with_reducible exact rule_Holds.mono _ _ _ _ _)
      | (with_reducible exact LeO.refl _)
      | (with_reducible exact LeO.none _)
      | (with_reducible refine LeO.ite ?_ ?_)
      | (with_reducible refine LeO.bind ?_ (fun _ => ?_))
      | exact ih0 _ _ _
      | exact ih1 _ _ _ _ _ _
      | exact ih2 _ _ _ _ _ _ _
      | exact ih3 _ _ _ _ _ _ _ _ _
      | exact ih4 _ _ _ _ _ _ _
      | exact ih5 _ _ _ _ _ _ _
      | exact ih6 _ _ _ _
      | exact provostlaw06_Twin.mono _ _
      | exact provostlaw06_wakes.mono _
      | exact rule_Holds.mono _ _ _ _ _
      | exact LeO.none _
      | refine LeO.ite ?_ ?_
      | refine LeO.bind ?_ (fun _ => ?_)
    · intro y0 y1 y2 y3 y4 y5 y6
      unfold provostlaw06_RuleMeans.j4
      repeat' first
      | (with_reducible exact ih0 _ _ _)
      | (with_reducible exact ih1 _ _ _ _ _ _)
      | (with_reducible exact ih2 _ _ _ _ _ _ _)
      | (with_reducible exact ih3 _ _ _ _ _ _ _ _ _)
      | (with_reducible exact ih4 _ _ _ _ _ _ _)
      | (with_reducible exact ih5 _ _ _ _ _ _ _)
      | (with_reducible exact ih6 _ _ _ _)
      | (with_reducible exact provostlaw06_Twin.mono _ _)
      | (with_reducible exact provostlaw06_wakes.mono _)
      | (with_reducible exact rule_Holds.mono _ _ _ _ _)
      | (with_reducible exact LeO.refl _)
      | (with_reducible exact LeO.none _)
      | (with_reducible refine LeO.ite ?_ ?_)
      | (with_reducible refine LeO.bind ?_ (fun _ => ?_))
      | exact ih0 _ _ _
      | exact ih1 _ _ _ _ _ _
      | exact ih2 _ _ _ _ _ _ _
      | exact ih3 _ _ _ _ _ _ _ _ _
      | exact ih4 _ _ _ _ _ _ _
      | exact ih5 _ _ _ _ _ _ _
      | exact ih6 _ _ _ _
      | exact provostlaw06_Twin.mono _ _
      | exact provostlaw06_wakes.mono _
      | exact rule_Holds.mono _ _ _ _ _
      | exact LeO.none _
      | refine LeO.ite ?_ ?_
      | refine LeO.bind ?_ (fun _ => ?_)
    · intro y0 y1 y2 y3 y4 y5 y6
      unfold provostlaw06_RuleMeans.j5
      repeat' first
      | (with_reducible exact ih0 _ _ _)
      | (with_reducible exact ih1 _ _ _ _ _ _)
      | (with_reducible exact ih2 _ _ _ _ _ _ _)
      | (with_reducible exact ih3 _ _ _ _ _ _ _ _ _)
      | (with_reducible exact ih4 _ _ _ _ _ _ _)
      | (with_reducible exact ih5 _ _ _ _ _ _ _)
      | (with_reducible exact ih6 _ _ _ _)
      | (with_reducible exact provostlaw06_Twin.mono _ _)
      | (with_reducible exact provostlaw06_wakes.mono _)
      | (with_reducible exact rule_Holds.mono _ _ _ _ _)
      | (with_reducible exact LeO.refl _)
      | (with_reducible exact LeO.none _)
      | (with_reducible refine LeO.ite ?_ ?_)
      | (with_reducible refine LeO.bind ?_ (fun _ => ?_))
      | exact ih0 _ _ _
      | exact ih1 _ _ _ _ _ _
      | exact ih2 _ _ _ _ _ _ _
      | exact ih3 _ _ _ _ _ _ _ _ _
      | exact ih4 _ _ _ _ _ _ _
      | exact ih5 _ _ _ _ _ _ _
      | exact ih6 _ _ _ _
      | exact provostlaw06_Twin.mono _ _
      | exact provostlaw06_wakes.mono _
      | exact rule_Holds.mono _ _ _ _ _
      | exact LeO.none _
      | refine LeO.ite ?_ ?_
      | refine LeO.bind ?_ (fun _ => ?_)
    · intro y0 y1 y2 y3
      unfold provostlaw06_RuleMeans.j6
      repeat' first
      | (with_reducible exact ih0 _ _ _)
      | (with_reducible exact ih1 _ _ _ _ _ _)
      | (with_reducible exact ih2 _ _ _ _ _ _ _)
      | (with_reducible exact ih3 _ _ _ _ _ _ _ _ _)
      | (with_reducible exact ih4 _ _ _ _ _ _ _)
      | (with_reducible exact ih5 _ _ _ _ _ _ _)
      | (with_reducible exact ih6 _ _ _ _)
      | (with_reducible exact provostlaw06_Twin.mono _ _)
      | (with_reducible exact provostlaw06_wakes.mono _)
      | (with_reducible exact rule_Holds.mono _ _ _ _ _)
      | (with_reducible exact LeO.refl _)
      | (with_reducible exact LeO.none _)
      | (with_reducible refine LeO.ite ?_ ?_)
      | (with_reducible refine LeO.bind ?_ (fun _ => ?_))
      | exact ih0 _ _ _
      | exact ih1 _ _ _ _ _ _
      | exact ih2 _ _ _ _ _ _ _
      | exact ih3 _ _ _ _ _ _ _ _ _
      | exact ih4 _ _ _ _ _ _ _
      | exact ih5 _ _ _ _ _ _ _
      | exact ih6 _ _ _ _
      | exact provostlaw06_Twin.mono _ _
      | exact provostlaw06_wakes.mono _
      | exact rule_Holds.mono _ _ _ _ _
      | exact LeO.none _
      | refine LeO.ite ?_ ?_
      | refine LeO.bind ?_ (fun _ => ?_)
theorem provostlaw06_RuleMeans.mono : ∀ a0 a1 a2 a3 k, LeO (provostlaw06_RuleMeans.f k a0 a1 a2 a3) (provostlaw06_RuleMeans.f (k + 1) a0 a1 a2 a3) := by
  intro a0 a1 a2 a3 k
  obtain ⟨ih0, ih1, ih2, ih3, ih4, ih5, ih6⟩ := provostlaw06_RuleMeans.mono_l k
  unfold provostlaw06_RuleMeans.f
  repeat' first
      | (with_reducible exact ih0 _ _ _)
      | (with_reducible exact ih1 _ _ _ _ _ _)
      | (with_reducible exact ih2 _ _ _ _ _ _ _)
      | (with_reducible exact ih3 _ _ _ _ _ _ _ _ _)
      | (with_reducible exact ih4 _ _ _ _ _ _ _)
      | (with_reducible exact ih5 _ _ _ _ _ _ _)
      | (with_reducible exact ih6 _ _ _ _)
      | (with_reducible exact provostlaw06_Twin.mono _ _)
      | (with_reducible exact provostlaw06_wakes.mono _)
      | (with_reducible exact rule_Holds.mono _ _ _ _ _)
      | (with_reducible exact LeO.refl _)
      | (with_reducible exact LeO.none _)
      | (with_reducible refine LeO.ite ?_ ?_)
      | (with_reducible refine LeO.bind ?_ (fun _ => ?_))
      | exact ih0 _ _ _
      | exact ih1 _ _ _ _ _ _
      | exact ih2 _ _ _ _ _ _ _
      | exact ih3 _ _ _ _ _ _ _ _ _
      | exact ih4 _ _ _ _ _ _ _
      | exact ih5 _ _ _ _ _ _ _
      | exact ih6 _ _ _ _
      | exact provostlaw06_Twin.mono _ _
      | exact provostlaw06_wakes.mono _
      | exact rule_Holds.mono _ _ _ _ _
      | exact LeO.none _
      | refine LeO.ite ?_ ?_
      | refine LeO.bind ?_ (fun _ => ?_)
def provostlaw06_RuleMeans.T6 : Bool × List (List Nat × List Nat) := (true, [([], []), ([], []), ([0, 1], [0, 1]), ([2], [2]), ([], []), ([4], [4]), ([3, 5, 5], [3, 5]), ([6], [6])])
def provostlaw06_RuleMeans.B6 : List Nat := [0, 0, 3, 7, 0, 16, 63, 127]
theorem provostlaw06_RuleMeans.tab6 : rtab .any (opsOf Try.f7 6) = provostlaw06_RuleMeans.T6 := by kernel_rfl
theorem provostlaw06_RuleMeans.bits6 : waitsOk provostlaw06_RuleMeans.T6.2 provostlaw06_RuleMeans.B6 = true := by kernel_rfl
def provostlaw06_RuleMeans.T19 : Bool × List (List Nat × List Nat) := (true, [([], []), ([], []), ([], []), ([1, 2], [1, 2]), ([3], [3]), ([0, 4], [0, 4]), ([5], [5]), ([], []), ([], []), ([], []), ([8, 9], [8, 9]), ([10], [10]), ([7, 11], [7, 11]), ([12], [12]), ([6, 13], [6, 13])])
def provostlaw06_RuleMeans.B19 : List Nat := [0, 0, 0, 6, 14, 31, 63, 0, 0, 0, 768, 1792, 3968, 8064, 16383]
theorem provostlaw06_RuleMeans.tab19 : rtab .any (opsOf Try.f7 19) = provostlaw06_RuleMeans.T19 := by kernel_rfl
theorem provostlaw06_RuleMeans.bits19 : waitsOk provostlaw06_RuleMeans.T19.2 provostlaw06_RuleMeans.B19 = true := by kernel_rfl


end Go.Proofs.Ythdkmohgphbdeaa.PRule
