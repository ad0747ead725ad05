/- A text written by my program wip/gen/p2.py out of the translation and of my foreign texts; not trusted: Lean checks it. -/
import Derived.Test.YtpcnpmcknknfcaaPLplx0
import Derived.Test.YtpcnpmcknknfcaaPLplx3
namespace Go.Proofs.Ytpcnpmcknknfcaa.PLpl
open Go.RowKit Go.Proofs.YtpcnpmcknknfcaaW.PrintWords Go.Proofs.YtpcnpmcknknfcaaW.PrintLast Go.Proofs.YtpcnpmcknknfcaaW.PrintMore
attribute [local go_sem] max2_int min2_int max_two min_two max_three min_three max_four min_four   -- for this text's walks alone
set_option linter.unusedVariables false
set_option linter.unusedSimpArgs false

/-! ### provostlaw05_between: function 26 -/
mutual
def provostlaw05_between.l0 : Nat → ByteArray → Bool → Int → Option (Bool)
  | 0, _, _, _ => none
  | k + 1, x0, x3, x4 => if x4 < (x0.size : Int) then (if 0 ≤ x4 then (if (bt x0 x4) = 35 then (provostlaw05_between.j1 k x0 true x4) else (provostlaw05_between.j1 k x0 x3 x4)) else (none)) else (some true)
def provostlaw05_between.j1 : Nat → ByteArray → Bool → Int → Option (Bool)
  | 0, _, _, _ => none
  | k + 1, x0, x3, x4 => if 0 ≤ x4 then (if x4 < (x0.size : Int) then (if (bt x0 x4) = 10 then (provostlaw05_between.j2 k x0 false x4) else (provostlaw05_between.j2 k x0 x3 x4)) else (none)) else (none)
def provostlaw05_between.j2 : Nat → ByteArray → Bool → Int → Option (Bool)
  | 0, _, _, _ => none
  | k + 1, x0, x3, x4 => if x3 = true then (provostlaw05_between.j3 k x0 x3 x4 false) else (if 0 ≤ x4 then (if x4 < (x0.size : Int) then (if (bt x0 x4) = 32 then (provostlaw05_between.j3 k x0 x3 x4 false) else (if (bt x0 x4) = 9 then (provostlaw05_between.j3 k x0 x3 x4 false) else (provostlaw05_between.j3 k x0 x3 x4 ((bt x0 x4) != 10)))) else (none)) else (none))
def provostlaw05_between.j3 : Nat → ByteArray → Bool → Int → Bool → Option (Bool)
  | 0, _, _, _, _ => none
  | k + 1, x0, x3, x4, x38 => if x38 = true then (some false) else (provostlaw05_between.l0 k x0 x3 (wrap64 (x4 + 1)))
end
def provostlaw05_between.f (k : Nat) (a0 : ByteArray) : Option (Bool) := provostlaw05_between.l0 k a0 false 0
theorem provostlaw05_between.mono_l : ∀ k, (∀ y0 y1 y2, LeO (provostlaw05_between.l0 k y0 y1 y2) (provostlaw05_between.l0 (k + 1) y0 y1 y2)) ∧ (∀ y0 y1 y2, LeO (provostlaw05_between.j1 k y0 y1 y2) (provostlaw05_between.j1 (k + 1) y0 y1 y2)) ∧ (∀ y0 y1 y2, LeO (provostlaw05_between.j2 k y0 y1 y2) (provostlaw05_between.j2 (k + 1) y0 y1 y2)) ∧ (∀ y0 y1 y2 y3, LeO (provostlaw05_between.j3 k y0 y1 y2 y3) (provostlaw05_between.j3 (k + 1) y0 y1 y2 y3))
  | 0 => ⟨fun _ _ _ r h => by simp [provostlaw05_between.l0] at h, fun _ _ _ r h => by simp [provostlaw05_between.j1] at h, fun _ _ _ r h => by simp [provostlaw05_between.j2] at h, fun _ _ _ _ r h => by simp [provostlaw05_between.j3] at h⟩
  | k + 1 => by
    obtain ⟨ih0, ih1, ih2, ih3⟩ := provostlaw05_between.mono_l k
    refine ⟨?_, ?_, ?_, ?_⟩
    · intro y0 y1 y2
      unfold provostlaw05_between.l0
      repeat' first
      | (with_reducible exact ih0 _ _ _)
      | (with_reducible exact ih1 _ _ _)
      | (with_reducible exact ih2 _ _ _)
      | (with_reducible exact ih3 _ _ _ _)
      | (with_reducible exact LeO.refl _)
      | (with_reducible exact LeO.none _)
      | (with_reducible refine LeO.ite ?_ ?_)
      | (with_reducible refine LeO.bind ?_ (fun _ => ?_))
      | exact ih0 _ _ _
      | exact ih1 _ _ _
      | exact ih2 _ _ _
      | exact ih3 _ _ _ _
      | exact LeO.none _
      | refine LeO.ite ?_ ?_
      | refine LeO.bind ?_ (fun _ => ?_)
    · intro y0 y1 y2
      unfold provostlaw05_between.j1
      repeat' first
      | (with_reducible exact ih0 _ _ _)
      | (with_reducible exact ih1 _ _ _)
      | (with_reducible exact ih2 _ _ _)
      | (with_reducible exact ih3 _ _ _ _)
      | (with_reducible exact LeO.refl _)
      | (with_reducible exact LeO.none _)
      | (with_reducible refine LeO.ite ?_ ?_)
      | (with_reducible refine LeO.bind ?_ (fun _ => ?_))
      | exact ih0 _ _ _
      | exact ih1 _ _ _
      | exact ih2 _ _ _
      | exact ih3 _ _ _ _
      | exact LeO.none _
      | refine LeO.ite ?_ ?_
      | refine LeO.bind ?_ (fun _ => ?_)
    · intro y0 y1 y2
      unfold provostlaw05_between.j2
      repeat' first
      | (with_reducible exact ih0 _ _ _)
      | (with_reducible exact ih1 _ _ _)
      | (with_reducible exact ih2 _ _ _)
      | (with_reducible exact ih3 _ _ _ _)
      | (with_reducible exact LeO.refl _)
      | (with_reducible exact LeO.none _)
      | (with_reducible refine LeO.ite ?_ ?_)
      | (with_reducible refine LeO.bind ?_ (fun _ => ?_))
      | exact ih0 _ _ _
      | exact ih1 _ _ _
      | exact ih2 _ _ _
      | exact ih3 _ _ _ _
      | exact LeO.none _
      | refine LeO.ite ?_ ?_
      | refine LeO.bind ?_ (fun _ => ?_)
    · intro y0 y1 y2 y3
      unfold provostlaw05_between.j3
      repeat' first
      | (with_reducible exact ih0 _ _ _)
      | (with_reducible exact ih1 _ _ _)
      | (with_reducible exact ih2 _ _ _)
      | (with_reducible exact ih3 _ _ _ _)
      | (with_reducible exact LeO.refl _)
      | (with_reducible exact LeO.none _)
      | (with_reducible refine LeO.ite ?_ ?_)
      | (with_reducible refine LeO.bind ?_ (fun _ => ?_))
      | exact ih0 _ _ _
      | exact ih1 _ _ _
      | exact ih2 _ _ _
      | exact ih3 _ _ _ _
      | exact LeO.none _
      | refine LeO.ite ?_ ?_
      | refine LeO.bind ?_ (fun _ => ?_)
theorem provostlaw05_between.mono : ∀ a0 k, LeO (provostlaw05_between.f k a0) (provostlaw05_between.f (k + 1) a0) := by
  intro a0 k
  obtain ⟨ih0, ih1, ih2, ih3⟩ := provostlaw05_between.mono_l k
  unfold provostlaw05_between.f
  repeat' first
      | (with_reducible exact ih0 _ _ _)
      | (with_reducible exact ih1 _ _ _)
      | (with_reducible exact ih2 _ _ _)
      | (with_reducible exact ih3 _ _ _ _)
      | (with_reducible exact LeO.refl _)
      | (with_reducible exact LeO.none _)
      | (with_reducible refine LeO.ite ?_ ?_)
      | (with_reducible refine LeO.bind ?_ (fun _ => ?_))
      | exact ih0 _ _ _
      | exact ih1 _ _ _
      | exact ih2 _ _ _
      | exact ih3 _ _ _ _
      | exact LeO.none _
      | refine LeO.ite ?_ ?_
      | refine LeO.bind ?_ (fun _ => ?_)
set_option maxHeartbeats 8000000 in
set_option maxRecDepth 100000 in
theorem provostlaw05_between.calls (k : Nat) (a0 : ByteArray) (r : Bool) (w : World) (h : provostlaw05_between.f k a0 = some r) :
    Calls Try.prog 26 #[.string a0] w fun e w' => e = .returned (.bool r) ∧ Drawn0 w w' := by
  have H : (provostlaw05_between.l0 k a0 false 0) = some r := h
  clear h
  have H' := Aside0.mk H
  clear H
  go_enter Try.func26, Try.ntmps26
  go_wp2
  go_loopg [3, 4] k (fun kq v3 v4 w' => ∃ (x3_1 : Bool) (x4_1 : Int), v3 = .bool x3_1 ∧ v4 = .int .i64 x4_1 ∧ Aside0 (provostlaw05_between.l0 kq a0 x3_1 x4_1 = some r) ∧ Aside0 (kq ≤ k) ∧ Drawn0 w w')
  case atStart => exact ⟨(false), (0), (by first | rfl | (simp; done) | (simp [*]; done)), (by first | rfl | (simp; done) | (simp [*]; done)), H', ⟨Nat.le_refl _⟩, by repeat (first | exact Drawn0.refl _ | apply Drawn0.step)⟩
  case round =>
    clear H'
    obtain ⟨x3_1, x4_1, rfl, rfl, HA, HK1, ⟨m1, rfl⟩⟩ := hrel
    cases gk with
    | zero => exact absurd HA.out (by simp [provostlaw05_between.l0])
    | succ k1 =>
      have H := HA.out
      clear HA
      simp only [provostlaw05_between.l0] at H
      by_cases c2 : x4_1 < (a0.size : Int)
      · rw [if_pos c2] at H
        have c2b0 : decide (x4_1 < (a0.size : Int)) = true := decide_eq_true c2
        clear c2
        by_cases c3 : 0 ≤ x4_1
        · rw [if_pos c3] at H
          have c3b0 : decide (0 ≤ x4_1) = true := decide_eq_true c3
          clear c3
          have HC5 := Aside0.mk H
          clear H
          have p4 : 0 ≤ (x4_1 : Int) := of_decide_eq_true (by first | (with_reducible assumption) | assumption)
          have q4 : x4_1 < (a0.size : Int) := of_decide_eq_true (by first | (with_reducible assumption) | assumption)
          have hx4 := bt_at a0 x4_1
          replace p4 := eq_true p4
          replace q4 := eq_true q4
          go_upto_if 14 with (fail)
          go_cut [3] (fun v3 wc => ∃ (kq : Nat) (x3_4 : Bool), v3 = .bool x3_4 ∧ Aside0 (provostlaw05_between.j1 kq a0 x3_4 x4_1 = some r) ∧ Aside0 (kq ≤ k1) ∧ Drawn0 w wc)
          case first =>
            have H := HC5.out
            clear HC5
            by_cases c6 : (bt a0 x4_1) = 35
            · rw [if_pos c6] at H
              have c6b0 : ((bt a0 x4_1) == 35) = true := beq_iff_eq.mpr c6
              have c6b1 : ((bt a0 x4_1) != 35) = false := bne_eq_false_iff_eq.mpr c6
              clear c6
              (first | rw [c6b0] | (simp only [i64_w, i32_w]; rw [c6b0]) | skip)
              have H' := Aside0.mk H
              clear H
              go_wp2
              go_meet
              case rel => exact ⟨_, (true), (by first | rfl | (simp; done) | (simp [*]; done)), H', ⟨by have := HK1.out; first | omega | exact Nat.le_refl _⟩, by repeat (first | exact Drawn0.refl _ | apply Drawn0.step)⟩
            · rw [if_neg c6] at H
              have c6b0 : ((bt a0 x4_1) == 35) = false := beq_eq_false_iff_ne.mpr c6
              have c6b1 : ((bt a0 x4_1) != 35) = true := bne_iff_ne.mpr c6
              (first | rw [c6b0] | (simp only [i64_w, i32_w]; rw [c6b0]) | skip)
              have H' := Aside0.mk H
              clear H
              go_wp2
              go_meet
              case rel => exact ⟨_, (x3_1), (by first | rfl | (simp; done) | (simp [*]; done)), H', ⟨by have := HK1.out; first | omega | exact Nat.le_refl _⟩, by repeat (first | exact Drawn0.refl _ | apply Drawn0.step)⟩
          case rest =>
            clear HC5
            try clear c2
            try clear c2b0
            try clear p2
            try clear c3
            try clear c3b0
            try clear p4
            try clear q4
            try clear hx4
            try clear c6
            try clear c6b0
            try clear c6b1
            try clear p4
            try clear q4
            obtain ⟨kq, x3_4, rfl, HA, HJ4, ⟨mc4, rfl⟩⟩ := hcut
            cases kq with
            | zero => exact absurd HA.out (by simp [provostlaw05_between.j1])
            | succ kj4 =>
              have H := HA.out
              clear HA
              simp only [provostlaw05_between.j1] at H
              by_cases c7 : 0 ≤ x4_1
              · rw [if_pos c7] at H
                have c7b0 : decide (0 ≤ x4_1) = true := decide_eq_true c7
                clear c7
                by_cases c8 : x4_1 < (a0.size : Int)
                · rw [if_pos c8] at H
                  have c8b0 : decide (x4_1 < (a0.size : Int)) = true := decide_eq_true c8
                  clear c8
                  have HC10 := Aside0.mk H
                  clear H
                  have p9 : 0 ≤ (x4_1 : Int) := of_decide_eq_true (by first | (with_reducible assumption) | assumption)
                  have q9 : x4_1 < (a0.size : Int) := of_decide_eq_true (by first | (with_reducible assumption) | assumption)
                  have hx9 := bt_at a0 x4_1
                  replace p9 := eq_true p9
                  replace q9 := eq_true q9
                  go_upto_if 18 with (fail)
                  go_cut [3] (fun v3 wc => ∃ (kq : Nat) (x3_9 : Bool), v3 = .bool x3_9 ∧ Aside0 (provostlaw05_between.j2 kq a0 x3_9 x4_1 = some r) ∧ Aside0 (kq ≤ kj4) ∧ Drawn0 w wc)
                  case first =>
                    have H := HC10.out
                    clear HC10
                    by_cases c11 : (bt a0 x4_1) = 10
                    · rw [if_pos c11] at H
                      have c11b0 : ((bt a0 x4_1) == 10) = true := beq_iff_eq.mpr c11
                      have c11b1 : ((bt a0 x4_1) != 10) = false := bne_eq_false_iff_eq.mpr c11
                      clear c11
                      (first | rw [c11b0] | (simp only [i64_w, i32_w]; rw [c11b0]) | skip)
                      have H' := Aside0.mk H
                      clear H
                      go_wp2
                      go_meet
                      case rel => exact ⟨_, (false), (by first | rfl | (simp; done) | (simp [*]; done)), H', ⟨by have := HK1.out; have := HJ4.out; first | omega | exact Nat.le_refl _⟩, by repeat (first | exact Drawn0.refl _ | apply Drawn0.step)⟩
                    · rw [if_neg c11] at H
                      have c11b0 : ((bt a0 x4_1) == 10) = false := beq_eq_false_iff_ne.mpr c11
                      have c11b1 : ((bt a0 x4_1) != 10) = true := bne_iff_ne.mpr c11
                      (first | rw [c11b0] | (simp only [i64_w, i32_w]; rw [c11b0]) | skip)
                      have H' := Aside0.mk H
                      clear H
                      go_wp2
                      go_meet
                      case rel => exact ⟨_, (x3_4), (by first | rfl | (simp; done) | (simp [*]; done)), H', ⟨by have := HK1.out; have := HJ4.out; first | omega | exact Nat.le_refl _⟩, by repeat (first | exact Drawn0.refl _ | apply Drawn0.step)⟩
                  case rest =>
                    clear HC10
                    try clear c1
                    try clear c2
                    try clear c2b0
                    try clear p2
                    try clear c3
                    try clear c3b0
                    try clear c4
                    try clear p4
                    try clear q4
                    try clear hx4
                    try clear c6
                    try clear c6b0
                    try clear c6b1
                    try clear c7
                    try clear c7b0
                    try clear c8
                    try clear c8b0
                    try clear p9
                    try clear q9
                    try clear hx9
                    try clear c11
                    try clear c11b0
                    try clear c11b1
                    try clear p2
                    try clear p4
                    try clear p9
                    try clear q4
                    try clear q9
                    obtain ⟨kq, x3_9, rfl, HA, HJ9, ⟨mc9, rfl⟩⟩ := hcut
                    cases kq with
                    | zero => exact absurd HA.out (by simp [provostlaw05_between.j2])
                    | succ kj9 =>
                      have H := HA.out
                      clear HA
                      simp only [provostlaw05_between.j2] at H
                      have HC12 := Aside0.mk H
                      clear H
                      go_upto_region 9 with (fail)
                      go_cut [38] (fun v38 wc => ∃ (kq : Nat) (x38_11 : Bool), v38 = .bool x38_11 ∧ Aside0 (provostlaw05_between.j3 kq a0 x3_9 x4_1 x38_11 = some r) ∧ Aside0 (kq ≤ kj9) ∧ Drawn0 w wc)
                      case first =>
                        have H := HC12.out
                        clear HC12
                        by_cases c13 : x3_9 = true
                        · subst c13
                          have H1 : (provostlaw05_between.j3 kj9 a0 true x4_1 false) = some r := by rw [if_pos rfl] at H; exact H
                          clear H
                          have H := H1
                          clear H1
                          have H' := Aside0.mk H
                          clear H
                          go_wp2
                          go_meet
                          case rel => exact ⟨_, (false), (by first | rfl | (simp; done) | (simp [*]; done)), H', ⟨by have := HK1.out; have := HJ4.out; have := HJ9.out; first | omega | exact Nat.le_refl _⟩, by repeat (first | exact Drawn0.refl _ | apply Drawn0.step)⟩
                        · replace c13 := Bool.eq_false_iff.mpr c13
                          subst c13
                          have H1 : (if 0 ≤ x4_1 then (if x4_1 < (a0.size : Int) then (if (bt a0 x4_1) = 32 then (provostlaw05_between.j3 kj9 a0 false x4_1 false) else (if (bt a0 x4_1) = 9 then (provostlaw05_between.j3 kj9 a0 false x4_1 false) else (provostlaw05_between.j3 kj9 a0 false x4_1 ((bt a0 x4_1) != 10)))) else (none)) else (none)) = some r := by rw [if_neg (show ¬ (false = true) by decide)] at H; exact H
                          clear H
                          have H := H1
                          clear H1
                          by_cases c14 : 0 ≤ x4_1
                          · rw [if_pos c14] at H
                            have c14b0 : decide (0 ≤ x4_1) = true := decide_eq_true c14
                            clear c14
                            (first | rw [c14b0] | (simp only [i64_w, i32_w]; rw [c14b0]) | skip)
                            by_cases c15 : x4_1 < (a0.size : Int)
                            · rw [if_pos c15] at H
                              have c15b0 : decide (x4_1 < (a0.size : Int)) = true := decide_eq_true c15
                              clear c15
                              by_cases c17 : (bt a0 x4_1) = 32
                              · rw [if_pos c17] at H
                                have c17b0 : ((bt a0 x4_1) == 32) = true := beq_iff_eq.mpr c17
                                have c17b1 : ((bt a0 x4_1) != 32) = false := bne_eq_false_iff_eq.mpr c17
                                clear c17
                                have H' := Aside0.mk H
                                clear H
                                have p16 : 0 ≤ (x4_1 : Int) := of_decide_eq_true (by first | (with_reducible assumption) | assumption)
                                have q16 : x4_1 < (a0.size : Int) := of_decide_eq_true (by first | (with_reducible assumption) | assumption)
                                have hx16 := bt_at a0 x4_1
                                replace p16 := eq_true p16
                                replace q16 := eq_true q16
                                go_wp2
                                go_meet
                                case rel => exact ⟨_, (false), (by first | rfl | (simp; done) | (simp [*]; done)), H', ⟨by have := HK1.out; have := HJ4.out; have := HJ9.out; first | omega | exact Nat.le_refl _⟩, by repeat (first | exact Drawn0.refl _ | apply Drawn0.step)⟩
                              · rw [if_neg c17] at H
                                have c17b0 : ((bt a0 x4_1) == 32) = false := beq_eq_false_iff_ne.mpr c17
                                have c17b1 : ((bt a0 x4_1) != 32) = true := bne_iff_ne.mpr c17
                                by_cases c19 : (bt a0 x4_1) = 9
                                · rw [if_pos c19] at H
                                  have c19b0 : ((bt a0 x4_1) == 9) = true := beq_iff_eq.mpr c19
                                  have c19b1 : ((bt a0 x4_1) != 9) = false := bne_eq_false_iff_eq.mpr c19
                                  clear c19
                                  have H' := Aside0.mk H
                                  clear H
                                  have p16 : 0 ≤ (x4_1 : Int) := of_decide_eq_true (by first | (with_reducible assumption) | assumption)
                                  have q16 : x4_1 < (a0.size : Int) := of_decide_eq_true (by first | (with_reducible assumption) | assumption)
                                  have hx16 := bt_at a0 x4_1
                                  replace p16 := eq_true p16
                                  replace q16 := eq_true q16
                                  have p18 : 0 ≤ (x4_1 : Int) := of_decide_eq_true (by first | (with_reducible assumption) | assumption)
                                  have q18 : x4_1 < (a0.size : Int) := of_decide_eq_true (by first | (with_reducible assumption) | assumption)
                                  have hx18 := bt_at a0 x4_1
                                  replace p18 := eq_true p18
                                  replace q18 := eq_true q18
                                  go_wp2
                                  go_meet
                                  case rel => exact ⟨_, (false), (by first | rfl | (simp; done) | (simp [*]; done)), H', ⟨by have := HK1.out; have := HJ4.out; have := HJ9.out; first | omega | exact Nat.le_refl _⟩, by repeat (first | exact Drawn0.refl _ | apply Drawn0.step)⟩
                                · rw [if_neg c19] at H
                                  have c19b0 : ((bt a0 x4_1) == 9) = false := beq_eq_false_iff_ne.mpr c19
                                  have c19b1 : ((bt a0 x4_1) != 9) = true := bne_iff_ne.mpr c19
                                  have H' := Aside0.mk H
                                  clear H
                                  have p16 : 0 ≤ (x4_1 : Int) := of_decide_eq_true (by first | (with_reducible assumption) | assumption)
                                  have q16 : x4_1 < (a0.size : Int) := of_decide_eq_true (by first | (with_reducible assumption) | assumption)
                                  have hx16 := bt_at a0 x4_1
                                  replace p16 := eq_true p16
                                  replace q16 := eq_true q16
                                  have p18 : 0 ≤ (x4_1 : Int) := of_decide_eq_true (by first | (with_reducible assumption) | assumption)
                                  have q18 : x4_1 < (a0.size : Int) := of_decide_eq_true (by first | (with_reducible assumption) | assumption)
                                  have hx18 := bt_at a0 x4_1
                                  replace p18 := eq_true p18
                                  replace q18 := eq_true q18
                                  have p20 : 0 ≤ (x4_1 : Int) := of_decide_eq_true (by first | (with_reducible assumption) | assumption)
                                  have q20 : x4_1 < (a0.size : Int) := of_decide_eq_true (by first | (with_reducible assumption) | assumption)
                                  have hx20 := bt_at a0 x4_1
                                  replace p20 := eq_true p20
                                  replace q20 := eq_true q20
                                  go_wp2
                                  go_meet
                                  case rel => exact ⟨_, (((bt a0 x4_1) != 10)), (by first | rfl | (simp; done) | (simp [*]; done)), H', ⟨by have := HK1.out; have := HJ4.out; have := HJ9.out; first | omega | exact Nat.le_refl _⟩, by repeat (first | exact Drawn0.refl _ | apply Drawn0.step)⟩
                            · rw [if_neg c15] at H
                              exact absurd H (by simp)
                          · rw [if_neg c14] at H
                            exact absurd H (by simp)
                      case rest =>
                        clear HC12
                        try clear c1
                        try clear p1
                        try clear q1
                        try clear hx1
                        try clear c2
                        try clear c2b0
                        try clear p2
                        try clear q2
                        try clear hx2
                        try clear c3
                        try clear c3b0
                        try clear c4
                        try clear p4
                        try clear q4
                        try clear hx4
                        try clear c6
                        try clear c6b0
                        try clear c6b1
                        try clear c7
                        try clear c7b0
                        try clear c8
                        try clear c8b0
                        try clear c9
                        try clear p9
                        try clear q9
                        try clear hx9
                        try clear c11
                        try clear c11b0
                        try clear c11b1
                        try clear c13
                        try clear c14
                        try clear c14b0
                        try clear c15
                        try clear c15b0
                        try clear p16
                        try clear q16
                        try clear hx16
                        try clear c17
                        try clear c17b0
                        try clear c17b1
                        try clear p18
                        try clear q18
                        try clear hx18
                        try clear c19
                        try clear c19b0
                        try clear c19b1
                        try clear p20
                        try clear q20
                        try clear hx20
                        try clear p16
                        try clear p18
                        try clear p2
                        try clear p20
                        try clear p4
                        try clear p9
                        try clear q16
                        try clear q18
                        try clear q20
                        try clear q4
                        try clear q9
                        obtain ⟨kq, x38_11, rfl, HA, HJ11, ⟨mc11, rfl⟩⟩ := hcut
                        cases kq with
                        | zero => exact absurd HA.out (by simp [provostlaw05_between.j3])
                        | succ kj11 =>
                          have H := HA.out
                          clear HA
                          simp only [provostlaw05_between.j3] at H
                          by_cases c21 : x38_11 = true
                          · subst c21
                            have H1 : (some false) = some r := by rw [if_pos rfl] at H; exact H
                            clear H
                            have H := H1
                            clear H1
                            obtain rfl := Option.some.inj H
                            go_wp2
                            go_ret
                            exact ⟨by first | rfl | (simp; done) | (simp [*]; done), by repeat (first | exact Drawn0.refl _ | apply Drawn0.step)⟩
                          · replace c21 := Bool.eq_false_iff.mpr c21
                            subst c21
                            have H1 : (provostlaw05_between.l0 kj11 a0 x3_9 (wrap64 (x4_1 + 1))) = some r := by rw [if_neg (show ¬ (false = true) by decide)] at H; exact H
                            clear H
                            have H := H1
                            clear H1
                            have H' := Aside0.mk H
                            clear H
                            go_wp2
                            go_roundg kj11
                            case measure => have := HK1.out; have := HJ4.out; have := HJ9.out; have := HJ11.out; omega
                            case rel => exact ⟨(x3_9), (wrap64 (x4_1 + 1)), (by first | rfl | (simp; done) | (simp [*]; done)), (by first | rfl | (simp; done) | (simp [*]; done)), H', ⟨by have := HK1.out; have := HJ4.out; have := HJ9.out; have := HJ11.out; omega⟩, by repeat (first | exact Drawn0.refl _ | apply Drawn0.step)⟩
                · rw [if_neg c8] at H
                  exact absurd H (by simp)
              · rw [if_neg c7] at H
                exact absurd H (by simp)
        · rw [if_neg c3] at H
          exact absurd H (by simp)
      · rw [if_neg c2] at H
        have c2b0 : decide (x4_1 < (a0.size : Int)) = false := decide_eq_false c2
        clear c2
        obtain rfl := Option.some.inj H
        go_wp2
        go_ret
        exact ⟨by first | rfl | (simp; done) | (simp [*]; done), by repeat (first | exact Drawn0.refl _ | apply Drawn0.step)⟩

/-! ### provostlaw05_LexPlaces: function 5 -/
mutual
def provostlaw05_LexPlaces.l0 : Nat → ByteArray → List (S40) → List Int → Int → Option (Bool)
  | 0, _, _, _, _ => none
  | k + 1, x0, x3, x5, x6 => if x6 < (x0.size : Int) then (if 0 ≤ x6 then (if (bt x0 x6) = 10 then (if x5.length < 17592186044416 then (provostlaw05_LexPlaces.l0 k x0 x3 (x5 ++ [wrap64 (x6 + 1)]) (wrap64 (x6 + 1))) else (none)) else (provostlaw05_LexPlaces.l0 k x0 x3 x5 (wrap64 (x6 + 1)))) else (none)) else (provostlaw05_LexPlaces.l1 k x0 x3 x5 0 0)
def provostlaw05_LexPlaces.l1 : Nat → ByteArray → List (S40) → List Int → Int → Int → Option (Bool)
  | 0, _, _, _, _, _ => none
  | k + 1, x0, x3, x5, x7, x8 => if x8 < (x3.length : Int) then (if 0 ≤ x8 then (if ((rd_T40 x3 x8).f3) < 1 then (provostlaw05_LexPlaces.j2 k x0 x3 x5 x7 x8 true) else (if ((rd_T40 x3 x8).f3) > (x5.length : Int) then (provostlaw05_LexPlaces.j2 k x0 x3 x5 x7 x8 true) else (provostlaw05_LexPlaces.j2 k x0 x3 x5 x7 x8 (decide (((rd_T40 x3 x8).f4) < 1))))) else (none)) else (if 0 ≤ x7 then (if x7 ≤ (x0.size : Int) then ((provostlaw05_between.f k (x0.extract (x7 : Int).toNat x0.size)).bind fun t140 => (if t140 = true then ((provostlaw05_wakes.f).bind fun t141 => (some t141)) else (some false))) else (none)) else (none))
def provostlaw05_LexPlaces.j2 : Nat → ByteArray → List (S40) → List Int → Int → Int → Bool → Option (Bool)
  | 0, _, _, _, _, _, _ => none
  | k + 1, x0, x3, x5, x7, x8, x71 => if x71 = true then (some false) else (if 0 ≤ x8 then (if x8 < (x3.length : Int) then (if 0 ≤ (wrap64 (((rd_T40 x3 x8).f3) - 1)) then (if (wrap64 (((rd_T40 x3 x8).f3) - 1)) < (x5.length : Int) then (if (wrap64 ((wrap64 ((rd x5 (wrap64 (((rd_T40 x3 x8).f3) - 1))) + ((rd_T40 x3 x8).f4))) - 1)) < x7 then (provostlaw05_LexPlaces.j3 k x0 x3 x5 x8 (wrap64 ((wrap64 ((rd x5 (wrap64 (((rd_T40 x3 x8).f3) - 1))) + ((rd_T40 x3 x8).f4))) - 1)) true) else (if (wrap64 ((wrap64 ((wrap64 ((rd x5 (wrap64 (((rd_T40 x3 x8).f3) - 1))) + ((rd_T40 x3 x8).f4))) - 1)) + (((rd_T40 x3 x8).f1).size : Int))) > (x0.size : Int) then (provostlaw05_LexPlaces.j3 k x0 x3 x5 x8 (wrap64 ((wrap64 ((rd x5 (wrap64 (((rd_T40 x3 x8).f3) - 1))) + ((rd_T40 x3 x8).f4))) - 1)) true) else (if 0 ≤ (wrap64 ((wrap64 ((rd x5 (wrap64 (((rd_T40 x3 x8).f3) - 1))) + ((rd_T40 x3 x8).f4))) - 1)) then (if (wrap64 ((wrap64 ((rd x5 (wrap64 (((rd_T40 x3 x8).f3) - 1))) + ((rd_T40 x3 x8).f4))) - 1)) ≤ (wrap64 ((wrap64 ((wrap64 ((rd x5 (wrap64 (((rd_T40 x3 x8).f3) - 1))) + ((rd_T40 x3 x8).f4))) - 1)) + (((rd_T40 x3 x8).f1).size : Int))) then (if (wrap64 ((wrap64 ((wrap64 ((rd x5 (wrap64 (((rd_T40 x3 x8).f3) - 1))) + ((rd_T40 x3 x8).f4))) - 1)) + (((rd_T40 x3 x8).f1).size : Int))) ≤ (x0.size : Int) then (if (x0.extract ((wrap64 ((wrap64 ((rd x5 (wrap64 (((rd_T40 x3 x8).f3) - 1))) + ((rd_T40 x3 x8).f4))) - 1)) : Int).toNat ((wrap64 ((wrap64 ((wrap64 ((rd x5 (wrap64 (((rd_T40 x3 x8).f3) - 1))) + ((rd_T40 x3 x8).f4))) - 1)) + (((rd_T40 x3 x8).f1).size : Int))) : Int).toNat).toList = ((rd_T40 x3 x8).f1).toList then (if 0 ≤ x7 then (if x7 ≤ (wrap64 ((wrap64 ((rd x5 (wrap64 (((rd_T40 x3 x8).f3) - 1))) + ((rd_T40 x3 x8).f4))) - 1)) then (if (wrap64 ((wrap64 ((rd x5 (wrap64 (((rd_T40 x3 x8).f3) - 1))) + ((rd_T40 x3 x8).f4))) - 1)) ≤ (x0.size : Int) then ((provostlaw05_between.f k (x0.extract (x7 : Int).toNat ((wrap64 ((wrap64 ((rd x5 (wrap64 (((rd_T40 x3 x8).f3) - 1))) + ((rd_T40 x3 x8).f4))) - 1)) : Int).toNat)).bind fun t137 => (provostlaw05_LexPlaces.j3 k x0 x3 x5 x8 (wrap64 ((wrap64 ((rd x5 (wrap64 (((rd_T40 x3 x8).f3) - 1))) + ((rd_T40 x3 x8).f4))) - 1)) (!t137))) else (none)) else (none)) else (none)) else (provostlaw05_LexPlaces.j3 k x0 x3 x5 x8 (wrap64 ((wrap64 ((rd x5 (wrap64 (((rd_T40 x3 x8).f3) - 1))) + ((rd_T40 x3 x8).f4))) - 1)) true)) else (none)) else (none)) else (none)))) else (none)) else (none)) else (none)) else (none))
def provostlaw05_LexPlaces.j3 : Nat → ByteArray → List (S40) → List Int → Int → Int → Bool → Option (Bool)
  | 0, _, _, _, _, _, _ => none
  | k + 1, x0, x3, x5, x8, x9, x130 => if x130 = true then (some false) else (if 0 ≤ x8 then (if x8 < (x3.length : Int) then (if ((rd_T40 x3 x8).f0) = 4 then (if x9 < (x0.size : Int) then (if 0 ≤ x9 then (provostlaw05_LexPlaces.j4 k x0 x3 x5 x8 x9 ((bt x0 x9) != 10)) else (none)) else (provostlaw05_LexPlaces.j4 k x0 x3 x5 x8 x9 false)) else (provostlaw05_LexPlaces.j4 k x0 x3 x5 x8 x9 false)) else (none)) else (none))
def provostlaw05_LexPlaces.j4 : Nat → ByteArray → List (S40) → List Int → Int → Int → Bool → Option (Bool)
  | 0, _, _, _, _, _, _ => none
  | k + 1, x0, x3, x5, x8, x9, x148 => if x148 = true then (some false) else (if 0 ≤ x8 then (if x8 < (x3.length : Int) then (provostlaw05_LexPlaces.l1 k x0 x3 x5 (wrap64 (x9 + (((rd_T40 x3 x8).f1).size : Int))) (wrap64 (x8 + 1))) else (none)) else (none))
end
def provostlaw05_LexPlaces.f (k : Nat) (a0 : ByteArray) : Option (Bool) := (lex_Scan.f a0).bind fun bt114 => (if bt114.2.1 = 0 then (if ([] : List Int).length < 17592186044416 then (provostlaw05_LexPlaces.l0 k a0 bt114.1 (([] : List Int) ++ [0]) 0) else (none)) else (if (bt114.1.length : Int) = 0 then ((provostlaw05_wakes.f).bind fun t121 => (some t121)) else (some false)))
theorem provostlaw05_LexPlaces.mono_l : ∀ k, (∀ y0 y1 y2 y3, LeO (provostlaw05_LexPlaces.l0 k y0 y1 y2 y3) (provostlaw05_LexPlaces.l0 (k + 1) y0 y1 y2 y3)) ∧ (∀ y0 y1 y2 y3 y4, LeO (provostlaw05_LexPlaces.l1 k y0 y1 y2 y3 y4) (provostlaw05_LexPlaces.l1 (k + 1) y0 y1 y2 y3 y4)) ∧ (∀ y0 y1 y2 y3 y4 y5, LeO (provostlaw05_LexPlaces.j2 k y0 y1 y2 y3 y4 y5) (provostlaw05_LexPlaces.j2 (k + 1) y0 y1 y2 y3 y4 y5)) ∧ (∀ y0 y1 y2 y3 y4 y5, LeO (provostlaw05_LexPlaces.j3 k y0 y1 y2 y3 y4 y5) (provostlaw05_LexPlaces.j3 (k + 1) y0 y1 y2 y3 y4 y5)) ∧ (∀ y0 y1 y2 y3 y4 y5, LeO (provostlaw05_LexPlaces.j4 k y0 y1 y2 y3 y4 y5) (provostlaw05_LexPlaces.j4 (k + 1) y0 y1 y2 y3 y4 y5))
  | 0 => ⟨fun _ _ _ _ r h => by simp [provostlaw05_LexPlaces.l0] at h, fun _ _ _ _ _ r h => by simp [provostlaw05_LexPlaces.l1] at h, fun _ _ _ _ _ _ r h => by simp [provostlaw05_LexPlaces.j2] at h, fun _ _ _ _ _ _ r h => by simp [provostlaw05_LexPlaces.j3] at h, fun _ _ _ _ _ _ r h => by simp [provostlaw05_LexPlaces.j4] at h⟩
  | k + 1 => by
    obtain ⟨ih0, ih1, ih2, ih3, ih4⟩ := provostlaw05_LexPlaces.mono_l k
    refine ⟨?_, ?_, ?_, ?_, ?_⟩
    · intro y0 y1 y2 y3
      unfold provostlaw05_LexPlaces.l0
      repeat' first
      | (with_reducible exact ih0 _ _ _ _)
      | (with_reducible exact ih1 _ _ _ _ _)
      | (with_reducible exact ih2 _ _ _ _ _ _)
      | (with_reducible exact ih3 _ _ _ _ _ _)
      | (with_reducible exact ih4 _ _ _ _ _ _)
      | (with_reducible exact provostlaw05_between.mono _ _)
      | (with_reducible exact LeO.refl _)
      | (with_reducible exact LeO.none _)
      | (with_reducible refine LeO.ite ?_ ?_)
      | (with_reducible refine LeO.bind ?_ (fun _ => ?_))
      | exact ih0 _ _ _ _
      | exact ih1 _ _ _ _ _
      | exact ih2 _ _ _ _ _ _
      | exact ih3 _ _ _ _ _ _
      | exact ih4 _ _ _ _ _ _
      | exact provostlaw05_between.mono _ _
      | exact LeO.none _
      | refine LeO.ite ?_ ?_
      | refine LeO.bind ?_ (fun _ => ?_)
    · intro y0 y1 y2 y3 y4
      unfold provostlaw05_LexPlaces.l1
      repeat' first
      | (with_reducible exact ih0 _ _ _ _)
      | (with_reducible exact ih1 _ _ _ _ _)
      | (with_reducible exact ih2 _ _ _ _ _ _)
      | (with_reducible exact ih3 _ _ _ _ _ _)
      | (with_reducible exact ih4 _ _ _ _ _ _)
      | (with_reducible exact provostlaw05_between.mono _ _)
      | (with_reducible exact LeO.refl _)
      | (with_reducible exact LeO.none _)
      | (with_reducible refine LeO.ite ?_ ?_)
      | (with_reducible refine LeO.bind ?_ (fun _ => ?_))
      | exact ih0 _ _ _ _
      | exact ih1 _ _ _ _ _
      | exact ih2 _ _ _ _ _ _
      | exact ih3 _ _ _ _ _ _
      | exact ih4 _ _ _ _ _ _
      | exact provostlaw05_between.mono _ _
      | exact LeO.none _
      | refine LeO.ite ?_ ?_
      | refine LeO.bind ?_ (fun _ => ?_)
    · intro y0 y1 y2 y3 y4 y5
      unfold provostlaw05_LexPlaces.j2
      repeat' first
      | (with_reducible exact ih0 _ _ _ _)
      | (with_reducible exact ih1 _ _ _ _ _)
      | (with_reducible exact ih2 _ _ _ _ _ _)
      | (with_reducible exact ih3 _ _ _ _ _ _)
      | (with_reducible exact ih4 _ _ _ _ _ _)
      | (with_reducible exact provostlaw05_between.mono _ _)
      | (with_reducible exact LeO.refl _)
      | (with_reducible exact LeO.none _)
      | (with_reducible refine LeO.ite ?_ ?_)
      | (with_reducible refine LeO.bind ?_ (fun _ => ?_))
      | exact ih0 _ _ _ _
      | exact ih1 _ _ _ _ _
      | exact ih2 _ _ _ _ _ _
      | exact ih3 _ _ _ _ _ _
      | exact ih4 _ _ _ _ _ _
      | exact provostlaw05_between.mono _ _
      | exact LeO.none _
      | refine LeO.ite ?_ ?_
      | refine LeO.bind ?_ (fun _ => ?_)
    · intro y0 y1 y2 y3 y4 y5
      unfold provostlaw05_LexPlaces.j3
      repeat' first
      | (with_reducible exact ih0 _ _ _ _)
      | (with_reducible exact ih1 _ _ _ _ _)
      | (with_reducible exact ih2 _ _ _ _ _ _)
      | (with_reducible exact ih3 _ _ _ _ _ _)
      | (with_reducible exact ih4 _ _ _ _ _ _)
      | (with_reducible exact provostlaw05_between.mono _ _)
      | (with_reducible exact LeO.refl _)
      | (with_reducible exact LeO.none _)
      | (with_reducible refine LeO.ite ?_ ?_)
      | (with_reducible refine LeO.bind ?_ (fun _ => ?_))
      | exact ih0 _ _ _ _
      | exact ih1 _ _ _ _ _
      | exact ih2 _ _ _ _ _ _
      | exact ih3 _ _ _ _ _ _
      | exact ih4 _ _ _ _ _ _
      | exact provostlaw05_between.mono _ _
      | exact LeO.none _
      | refine LeO.ite ?_ ?_
      | refine LeO.bind ?_ (fun _ => ?_)
    · intro y0 y1 y2 y3 y4 y5
      unfold provostlaw05_LexPlaces.j4
      repeat' first
      | (with_reducible exact ih0 _ _ _ _)
      | (with_reducible exact ih1 _ _ _ _ _)
      | (with_reducible exact ih2 _ _ _ _ _ _)
      | (with_reducible exact ih3 _ _ _ _ _ _)
      | (with_reducible exact ih4 _ _ _ _ _ _)
      | (with_reducible exact provostlaw05_between.mono _ _)
      | (with_reducible exact LeO.refl _)
      | (with_reducible exact LeO.none _)
      | (with_reducible refine LeO.ite ?_ ?_)
      | (with_reducible refine LeO.bind ?_ (fun _ => ?_))
      | exact ih0 _ _ _ _
      | exact ih1 _ _ _ _ _
      | exact ih2 _ _ _ _ _ _
      | exact ih3 _ _ _ _ _ _
      | exact ih4 _ _ _ _ _ _
      | exact provostlaw05_between.mono _ _
      | exact LeO.none _
      | refine LeO.ite ?_ ?_
      | refine LeO.bind ?_ (fun _ => ?_)
theorem provostlaw05_LexPlaces.mono : ∀ a0 k, LeO (provostlaw05_LexPlaces.f k a0) (provostlaw05_LexPlaces.f (k + 1) a0) := by
  intro a0 k
  obtain ⟨ih0, ih1, ih2, ih3, ih4⟩ := provostlaw05_LexPlaces.mono_l k
  unfold provostlaw05_LexPlaces.f
  repeat' first
      | (with_reducible exact ih0 _ _ _ _)
      | (with_reducible exact ih1 _ _ _ _ _)
      | (with_reducible exact ih2 _ _ _ _ _ _)
      | (with_reducible exact ih3 _ _ _ _ _ _)
      | (with_reducible exact ih4 _ _ _ _ _ _)
      | (with_reducible exact provostlaw05_between.mono _ _)
      | (with_reducible exact LeO.refl _)
      | (with_reducible exact LeO.none _)
      | (with_reducible refine LeO.ite ?_ ?_)
      | (with_reducible refine LeO.bind ?_ (fun _ => ?_))
      | exact ih0 _ _ _ _
      | exact ih1 _ _ _ _ _
      | exact ih2 _ _ _ _ _ _
      | exact ih3 _ _ _ _ _ _
      | exact ih4 _ _ _ _ _ _
      | exact provostlaw05_between.mono _ _
      | exact LeO.none _
      | refine LeO.ite ?_ ?_
      | refine LeO.bind ?_ (fun _ => ?_)
def provostlaw05_LexPlaces.T17 : Bool × List (List Nat × List Nat) := (true, [([], []), ([], []), ([], []), ([1, 2], [1, 2]), ([3], [3]), ([4], [4]), ([5], [5]), ([0, 6], [0, 6]), ([7], [7]), ([], []), ([], []), ([9, 10], [9, 10]), ([11], [11]), ([12], [12]), ([8, 13], [8, 13]), ([14], [14]), ([15, 0, 1, 2, 3, 4, 5, 6, 7, 8, 9, 10, 11, 12, 13, 14, 15], [15])])
def provostlaw05_LexPlaces.B17 : List Nat := [0, 0, 0, 6, 14, 30, 62, 127, 255, 0, 0, 1536, 3584, 7680, 16383, 32767, 65535]
theorem provostlaw05_LexPlaces.tab17 : rtab .any (opsOf Try.f5 17) = provostlaw05_LexPlaces.T17 := by kernel_rfl
theorem provostlaw05_LexPlaces.bits17 : waitsOk provostlaw05_LexPlaces.T17.2 provostlaw05_LexPlaces.B17 = true := by kernel_rfl
def provostlaw05_LexPlaces.T18 : Bool × List (List Nat × List Nat) := (true, [([], []), ([], []), ([0, 1], [0, 1]), ([2], [2]), ([3], [3]), ([3], [3]), ([3], [3]), ([5, 6, 3], [3, 5, 6]), ([7, 3], [3, 7]), ([8, 3], [3, 8]), ([9, 3], [3, 9]), ([4, 10, 3], [3, 4, 10]), ([3], [3]), ([12, 3], [3, 12]), ([11, 13, 3], [3, 11, 13]), ([3, 14], [3, 14]), ([15, 3], [15]), ([16], [16]), ([16], [16]), ([16], [16]), ([16], [16]), ([16], [16]), ([20, 21, 16], [16, 20, 21]), ([22, 16], [16, 22]), ([23, 16], [16, 23]), ([24, 16], [16, 24]), ([19, 25, 16], [16, 19, 25]), ([17, 18, 26, 16], [16, 17, 18, 26]), ([16], [16]), ([16], [16]), ([28, 29, 16], [16, 28, 29]), ([30, 16], [16, 30]), ([31, 16], [16, 31]), ([27, 32, 16], [16, 27, 32]), ([16, 33], [16, 33]), ([34, 16], [34]), ([35], [35]), ([35], [35]), ([35], [35]), ([36, 37, 38, 35], [35, 36, 37, 38]), ([39, 35, 35], [35, 39]), ([40, 35], [35, 40]), ([35, 41], [35, 41])])
def provostlaw05_LexPlaces.B18 : List Nat := [0, 0, 3, 7, 15, 15, 15, 111, 239, 495, 1007, 2047, 15, 4111, 16383, 32767, 65535, 131071, 131071, 131071, 131071, 131071, 3276799, 7471103, 15859711, 32636927, 66715647, 134217727, 131071, 131071, 805437439, 1879179263, 4026662911, 8589934591, 17179869183, 34359738367, 68719476735, 68719476735, 68719476735, 549755813887, 1099511627775, 2199023255551, 4398046511103]
theorem provostlaw05_LexPlaces.tab18 : rtab .any (opsOf Try.f5 18) = provostlaw05_LexPlaces.T18 := by kernel_rfl
theorem provostlaw05_LexPlaces.bits18 : waitsOk provostlaw05_LexPlaces.T18.2 provostlaw05_LexPlaces.B18 = true := by kernel_rfl


end Go.Proofs.Ytpcnpmcknknfcaa.PLpl
