/- A text written by my program wip/gen/p2.py out of the translation and of my foreign texts; not trusted: Lean checks it. -/
import Derived.Test.YtpcnpmcknknfcaaPPbox0
import Derived.Test.YtpcnpmcknknfcaaPPbox1
import Derived.Test.YtpcnpmcknknfcaaPPbox2
import Derived.Test.YtpcnpmcknknfcaaPPbox3
namespace Go.Proofs.Ytpcnpmcknknfcaa.PPbo
open Go.RowKit Go.Proofs.YtpcnpmcknknfcaaW.PrintWords Go.Proofs.YtpcnpmcknknfcaaW.PrintLast Go.Proofs.YtpcnpmcknknfcaaW.PrintMore
attribute [local go_sem] max2_int min2_int max_two min_two max_three min_three max_four min_four   -- for this text's walks alone
set_option linter.unusedVariables false
set_option linter.unusedSimpArgs false

/-! ### part_Merge: function 44 -/
mutual
def part_Merge.j0 : Nat → List Int → Int → Int → Bool → Option (List Int × Int)
  | 0, _, _, _, _ => none
  | k + 1, x0, x1, x2, x15 => if x15 = true then (some (([] : List Int), 1)) else ((slices_Clone_int_int.f x0).bind fun t158 => (part_Merge.l0 k x0 x1 x2 t158 x0 (x0.length : Int) 0))
def part_Merge.l0 : Nat → List Int → Int → Int → List Int → List Int → Int → Int → Option (List Int × Int)
  | 0, _, _, _, _, _, _, _ => none
  | k + 1, x0, x1, x2, x8, x36, x37, x38 => if x38 < x37 then (if 0 ≤ x38 then (if x38 < (x36.length : Int) then (if 0 ≤ x2 then (if x2 < (x0.length : Int) then (if (rd x36 x38) = (rd x0 x2) then (if 0 ≤ x1 then (if x1 < (x0.length : Int) then (if x38 < (x8.length : Int) then (part_Merge.l0 k x0 x1 x2 (x8.set (x38 : Int).toNat (rd x0 x1)) x36 x37 (wrap64 (x38 + 1))) else (none)) else (none)) else (none)) else (part_Merge.l0 k x0 x1 x2 x8 x36 x37 (wrap64 (x38 + 1)))) else (none)) else (none)) else (none)) else (none)) else ((part_Of.f x8).bind fun bt165 => (some (bt165.1, bt165.2)))
end
def part_Merge.f (k : Nat) (l0 : List Int) (a1 : Int) (a2 : Int) : Option (List Int × Int) := (part_Legal.f k l0).bind fun t157 => (if t157 = true then (if a1 < 0 then (part_Merge.j0 k l0 a1 a2 true) else (if a2 < 0 then (part_Merge.j0 k l0 a1 a2 true) else (if a1 ≥ (l0.length : Int) then (part_Merge.j0 k l0 a1 a2 true) else (part_Merge.j0 k l0 a1 a2 (decide (a2 ≥ (l0.length : Int))))))) else (some (([] : List Int), 3)))
theorem part_Merge.mono_l : ∀ k, (∀ y0 y1 y2 y3, LeO (part_Merge.j0 k y0 y1 y2 y3) (part_Merge.j0 (k + 1) y0 y1 y2 y3)) ∧ (∀ y0 y1 y2 y3 y4 y5 y6, LeO (part_Merge.l0 k y0 y1 y2 y3 y4 y5 y6) (part_Merge.l0 (k + 1) y0 y1 y2 y3 y4 y5 y6))
  | 0 => ⟨fun _ _ _ _ r h => by simp [part_Merge.j0] at h, fun _ _ _ _ _ _ _ r h => by simp [part_Merge.l0] at h⟩
  | k + 1 => by
    obtain ⟨ih0, ih1⟩ := part_Merge.mono_l k
    refine ⟨?_, ?_⟩
    · intro y0 y1 y2 y3
      unfold part_Merge.j0
      repeat' first
      | (with_reducible exact ih0 _ _ _ _)
      | (with_reducible exact ih1 _ _ _ _ _ _ _)
      | (with_reducible exact part_Legal.mono _ _)
      | (with_reducible exact LeO.refl _)
      | (with_reducible exact LeO.none _)
      | (with_reducible refine LeO.ite ?_ ?_)
      | (with_reducible refine LeO.bind ?_ (fun _ => ?_))
      | exact ih0 _ _ _ _
      | exact ih1 _ _ _ _ _ _ _
      | exact part_Legal.mono _ _
      | exact LeO.none _
      | refine LeO.ite ?_ ?_
      | refine LeO.bind ?_ (fun _ => ?_)
    · intro y0 y1 y2 y3 y4 y5 y6
      unfold part_Merge.l0
      repeat' first
      | (with_reducible exact ih0 _ _ _ _)
      | (with_reducible exact ih1 _ _ _ _ _ _ _)
      | (with_reducible exact part_Legal.mono _ _)
      | (with_reducible exact LeO.refl _)
      | (with_reducible exact LeO.none _)
      | (with_reducible refine LeO.ite ?_ ?_)
      | (with_reducible refine LeO.bind ?_ (fun _ => ?_))
      | exact ih0 _ _ _ _
      | exact ih1 _ _ _ _ _ _ _
      | exact part_Legal.mono _ _
      | exact LeO.none _
      | refine LeO.ite ?_ ?_
      | refine LeO.bind ?_ (fun _ => ?_)
theorem part_Merge.mono : ∀ a0 a1 a2 k, LeO (part_Merge.f k a0 a1 a2) (part_Merge.f (k + 1) a0 a1 a2) := by
  intro a0 a1 a2 k
  obtain ⟨ih0, ih1⟩ := part_Merge.mono_l k
  unfold part_Merge.f
  repeat' first
      | (with_reducible exact ih0 _ _ _ _)
      | (with_reducible exact ih1 _ _ _ _ _ _ _)
      | (with_reducible exact part_Legal.mono _ _)
      | (with_reducible exact LeO.refl _)
      | (with_reducible exact LeO.none _)
      | (with_reducible refine LeO.ite ?_ ?_)
      | (with_reducible refine LeO.bind ?_ (fun _ => ?_))
      | exact ih0 _ _ _ _
      | exact ih1 _ _ _ _ _ _ _
      | exact part_Legal.mono _ _
      | exact LeO.none _
      | refine LeO.ite ?_ ?_
      | refine LeO.bind ?_ (fun _ => ?_)
set_option maxHeartbeats 8000000 in
set_option maxRecDepth 100000 in
theorem part_Merge.calls (k : Nat) (A0 : Option Addr) (c0 : Nat) (l0 : List Int) (a1 : Int) (a2 : Int) (r1 : List Int) (r2 : Int) (w : World) (hr0 : Kd.C (Kd.int .i64) w A0 l0.length l0) (hc0 : l0.length ≤ c0) (h : part_Merge.f k l0 a1 a2 = some (r1, r2)) :
    Calls Try.prog 44 #[.slice A0 l0.length c0, .int .i64 a1, .int .i64 a2] w fun e w' => ∃ v0_ : Value, e = .returned (.tuple #[v0_, .int .i64 r2]) ∧ Kd.R (Kd.int .i64) 3 w' w.heap.size (fun _ => True) v0_ r1 ∧ Below w.heap.size w w' := by
  have HR0 := Aside0.mk hr0
  have HC0 := Aside0.mk hc0
  clear hr0 hc0
  have HB := Aside0.mk (Below.refl w.heap.size w)
  have H : ((part_Legal.f k l0).bind fun t157 => (if t157 = true then (if a1 < 0 then (part_Merge.j0 k l0 a1 a2 true) else (if a2 < 0 then (part_Merge.j0 k l0 a1 a2 true) else (if a1 ≥ (l0.length : Int) then (part_Merge.j0 k l0 a1 a2 true) else (part_Merge.j0 k l0 a1 a2 (decide (a2 ≥ (l0.length : Int))))))) else (some (([] : List Int), 3)))) = some (r1, r2) := h
  clear h
  replace H := Option.bind_eq_some_iff.mp H
  obtain ⟨t157, A40, H⟩ := H
  replace H : (if t157 = true then (if a1 < 0 then (part_Merge.j0 k l0 a1 a2 true) else (if a2 < 0 then (part_Merge.j0 k l0 a1 a2 true) else (if a1 ≥ (l0.length : Int) then (part_Merge.j0 k l0 a1 a2 true) else (part_Merge.j0 k l0 a1 a2 (decide (a2 ≥ (l0.length : Int))))))) else (some (([] : List Int), 3))) = some (r1, r2) := H
  have A4 := Aside0.mk A40
  clear A40
  by_cases c5 : t157 = true
  · subst c5
    have H1 : (if a1 < 0 then (part_Merge.j0 k l0 a1 a2 true) else (if a2 < 0 then (part_Merge.j0 k l0 a1 a2 true) else (if a1 ≥ (l0.length : Int) then (part_Merge.j0 k l0 a1 a2 true) else (part_Merge.j0 k l0 a1 a2 (decide (a2 ≥ (l0.length : Int))))))) = some (r1, r2) := by rw [if_pos rfl] at H; exact H
    clear H
    have H := H1
    clear H1
    have HC6 := Aside0.mk H
    clear H
    go_enter Try.func44, Try.ntmps44
    go_upto_region 3 with (first | ((with_reducible refine gate_callee (f := 16) rfl ?_); refine goesL_ (some 13) rfl rfl Try.func16 (by kernel_rfl) rfl #[.slice A0 l0.length c0] rfl (by (try simp only [List.map_toArray, List.map_cons, List.map_nil]); first | done | rfl | (simp only [List.length_drop, List.length_take]; rfl)) ?_; (with_reducible refine (part_Legal.calls k _ _ l0 true _ ?side1 ?side2 A4.out).mono ?_); (case side1 => repeat (first | exact HR0.out | (with_reducible refine Kd.C_alloc ?_ _) | (with_reducible refine Kd.C_drewN ?_ _) | (with_reducible refine Kd.C_drew ?_))); (case side2 => exact HC0.out); rintro e w7 ⟨rfl, hb⟩; refine ⟨_, rfl, ?_⟩; have n0_ := Aside0.mk (below_step (by repeat (first | (with_reducible first | exact HB.out | apply below_alloc | apply pw_below_drewN | apply below_drew1) | exact HB.out)) hb); clear HB; have HB := n0_; clear n0_; (try clear hb); (try clear hb2); (try clear hk); (try clear hi)))
    (try simp only [Act.put, List.setIfInBounds_toArray, List.set_cons_zero, List.set_cons_succ])
    go_cut [15] (fun v15 wc => ∃ (kq : Nat) (x15_5 : Bool), v15 = .bool x15_5 ∧ Aside0 (part_Merge.j0 kq l0 a1 a2 x15_5 = some (r1, r2)) ∧ Aside0 (kq ≤ k) ∧ Aside0 (Below w.heap.size w wc))
    case first =>
      have H := HC6.out
      clear HC6
      by_cases c8 : a1 < 0
      · rw [if_pos c8] at H
        have c8b0 : decide (a1 < 0) = true := decide_eq_true c8
        clear c8
        (first | rw [c8b0] | (simp only [i64_w, i32_w]; rw [c8b0]) | skip)
        have H' := Aside0.mk H
        clear H
        go_wp2
        go_meet
        case rel => exact ⟨_, (true), (by first | rfl | (simp; done) | (simp [*]; done)), H', ⟨by first | omega | exact Nat.le_refl _⟩, ⟨by repeat (first | (with_reducible first | exact HB.out | apply below_alloc | apply pw_below_drewN | apply below_drew1) | exact HB.out)⟩⟩
      · rw [if_neg c8] at H
        have c8b0 : decide (a1 < 0) = false := decide_eq_false c8
        clear c8
        (first | rw [c8b0] | (simp only [i64_w, i32_w]; rw [c8b0]) | skip)
        by_cases c9 : a2 < 0
        · rw [if_pos c9] at H
          have c9b0 : decide (a2 < 0) = true := decide_eq_true c9
          clear c9
          have H' := Aside0.mk H
          clear H
          go_wp2
          go_meet
          case rel => exact ⟨_, (true), (by first | rfl | (simp; done) | (simp [*]; done)), H', ⟨by first | omega | exact Nat.le_refl _⟩, ⟨by repeat (first | (with_reducible first | exact HB.out | apply below_alloc | apply pw_below_drewN | apply below_drew1) | exact HB.out)⟩⟩
        · rw [if_neg c9] at H
          have c9b0 : decide (a2 < 0) = false := decide_eq_false c9
          clear c9
          by_cases c10 : a1 ≥ (l0.length : Int)
          · rw [if_pos c10] at H
            have c10b0 : decide ((l0.length : Int) ≤ a1) = true := decide_eq_true c10
            clear c10
            have H' := Aside0.mk H
            clear H
            go_wp2
            go_meet
            case rel => exact ⟨_, (true), (by first | rfl | (simp; done) | (simp [*]; done)), H', ⟨by first | omega | exact Nat.le_refl _⟩, ⟨by repeat (first | (with_reducible first | exact HB.out | apply below_alloc | apply pw_below_drewN | apply below_drew1) | exact HB.out)⟩⟩
          · rw [if_neg c10] at H
            have c10b0 : decide ((l0.length : Int) ≤ a1) = false := decide_eq_false c10
            clear c10
            have H' := Aside0.mk H
            clear H
            go_wp2
            go_meet
            case rel => exact ⟨_, (decide (a2 ≥ (l0.length : Int))), (by first | rfl | (simp; done) | (simp [*]; done)), H', ⟨by first | omega | exact Nat.le_refl _⟩, ⟨by repeat (first | (with_reducible first | exact HB.out | apply below_alloc | apply pw_below_drewN | apply below_drew1) | exact HB.out)⟩⟩
    case rest =>
      clear HC6
      try clear c1
      try clear p2
      try clear c4
      try clear c5
      try clear c8
      try clear c8b0
      try clear c9
      try clear c9b0
      try clear c10
      try clear c10b0
      obtain ⟨kq, x15_5, rfl, HA, HJ5, HB⟩ := hcut
      cases kq with
      | zero => exact absurd HA.out (by simp [part_Merge.j0])
      | succ kj5 =>
        have H := HA.out
        clear HA
        simp only [part_Merge.j0] at H
        by_cases c11 : x15_5 = true
        · subst c11
          have H1 : (some (([] : List Int), 1)) = some (r1, r2) := by rw [if_pos rfl] at H; exact H
          clear H
          have H := H1
          clear H1
          simp only [Option.some.injEq, Prod.mk.injEq] at H
          obtain ⟨rfl, rfl⟩ := H
          go_wp2
          go_ret2
          exact ⟨_, by first | rfl | (simp [errW_none, errW_some] <;> rfl) | (simp [*, errW_none, errW_some] <;> rfl), by first | exact Kd.R_nil _ _ _ _ _ | exact Kd.N_nil _ _ _ _ _ | exact Kd.V_nil _ _ _ _ _ | exact Kd.Q_nil _ _ _ _ _ | exact Kd.S_nil _ _ _ _ _, by repeat (first | (with_reducible first | exact HB.out | apply below_alloc | apply pw_below_drewN | apply below_drew1) | exact HB.out)⟩
        · replace c11 := Bool.eq_false_iff.mpr c11
          subst c11
          have H1 : ((slices_Clone_int_int.f l0).bind fun t158 => (part_Merge.l0 kj5 l0 a1 a2 t158 l0 (l0.length : Int) 0)) = some (r1, r2) := by rw [if_neg (show ¬ (false = true) by decide)] at H; exact H
          clear H
          have H := H1
          clear H1
          replace H := Option.bind_eq_some_iff.mp H
          obtain ⟨t158, A120, H⟩ := H
          replace H : (part_Merge.l0 kj5 l0 a1 a2 t158 l0 (l0.length : Int) 0) = some (r1, r2) := H
          have A12 := Aside0.mk A120
          clear A120
          have H' := Aside0.mk H
          clear H
          go_wp2_with (first | ((with_reducible refine gate_callee (f := 74) rfl ?_); refine goesL_ (some 35) rfl rfl Try.func74 (by kernel_rfl) rfl #[.slice A0 l0.length c0] rfl (by (try simp only [List.map_toArray, List.map_cons, List.map_nil]); first | done | rfl | (simp only [List.length_drop, List.length_take]; rfl)) ?_; (with_reducible refine (slices_Clone_int_int.calls _ _ l0 t158 _ ?side1 ?side2 A12.out).mono ?_); (case side1 => repeat (first | exact (Kd.C_below HR0.out HB.out) | (with_reducible refine Kd.C_alloc ?_ _) | (with_reducible refine Kd.C_drewN ?_ _) | (with_reducible refine Kd.C_drew ?_))); (case side2 => exact HC0.out); rintro e w13 ⟨v159, rfl, ho0, hb⟩; refine ⟨_, rfl, ?_⟩; have n0_ := Aside0.mk (Kd.R_lower ho0 (below_size (by repeat (first | (with_reducible first | exact HB.out | apply below_alloc | apply pw_below_drewN | apply below_drew1) | exact HB.out)))); have n1_ := Aside0.mk (below_step (by repeat (first | (with_reducible first | exact HB.out | apply below_alloc | apply pw_below_drewN | apply below_drew1) | exact HB.out)) hb); clear HB; have HO160 := n0_; have HB := n1_; clear n0_ n1_; (try clear hb); (try clear hb2); (try clear hk); (try clear hi); (try clear ho0)))
          go_loopg [38] kj5 (fun kq v38 w' => ∃ (x8_2 : List Int) (x38_2 : Int), v38 = .int .i64 x38_2 ∧ Aside0 (part_Merge.l0 kq l0 a1 a2 x8_2 l0 (l0.length : Int) x38_2 = some (r1, r2)) ∧ Aside0 (kq ≤ kj5) ∧ Aside0 (Kd.R (Kd.int .i64) 3 w' w.heap.size (fun _ => True) v159 x8_2) ∧ Aside0 (Below w.heap.size w w'))
          case atStart => exact ⟨(t158), (0), (by first | rfl | (simp; done) | (simp [*]; done)), H', ⟨Nat.le_refl _⟩, ⟨by (with_reducible repeat (first | apply Kd.R_alloc | apply Kd.R_drewN | apply Kd.R_drew)); exact HO160.out⟩, ⟨by repeat (first | (with_reducible first | exact HB.out | apply below_alloc | apply pw_below_drewN | apply below_drew1) | exact HB.out)⟩⟩
          case round =>
            clear H'
            try clear c1
            try clear p2
            try clear c4
            try clear c5
            try clear c7
            try clear c8
            try clear c8b0
            try clear c9
            try clear c9b0
            try clear c10
            try clear c10b0
            try clear c11
            try clear p2
            obtain ⟨x8_2, x38_2, rfl, HA, HK2, HO_8, HB⟩ := hrel
            cases gk with
            | zero => exact absurd HA.out (by simp [part_Merge.l0])
            | succ k2 =>
              have H := HA.out
              clear HA
              simp only [part_Merge.l0] at H
              by_cases c14 : x38_2 < (l0.length : Int)
              · rw [if_pos c14] at H
                have c14b0 : decide (x38_2 < (l0.length : Int)) = true := decide_eq_true c14
                clear c14
                by_cases c15 : 0 ≤ x38_2
                · rw [if_pos c15] at H
                  have c15b0 : decide (0 ≤ x38_2) = true := decide_eq_true c15
                  clear c15
                  by_cases c16 : x38_2 < (l0.length : Int)
                  · rw [if_pos c16] at H
                    have c16b0 : decide (x38_2 < (l0.length : Int)) = true := decide_eq_true c16
                    clear c16
                    by_cases c17 : 0 ≤ a2
                    · rw [if_pos c17] at H
                      have c17b0 : decide (0 ≤ a2) = true := decide_eq_true c17
                      clear c17
                      by_cases c18 : a2 < (l0.length : Int)
                      · rw [if_pos c18] at H
                        have c18b0 : decide (a2 < (l0.length : Int)) = true := decide_eq_true c18
                        clear c18
                        by_cases c19 : (rd l0 x38_2) = (rd l0 a2)
                        · rw [if_pos c19] at H
                          have c19b0 : ((rd l0 x38_2) == (rd l0 a2)) = true := beq_iff_eq.mpr c19
                          have c19b1 : ((rd l0 x38_2) != (rd l0 a2)) = false := bne_eq_false_iff_eq.mpr c19
                          clear c19
                          by_cases c20 : 0 ≤ a1
                          · rw [if_pos c20] at H
                            have c20b0 : decide (0 ≤ a1) = true := decide_eq_true c20
                            clear c20
                            by_cases c21 : a1 < (l0.length : Int)
                            · rw [if_pos c21] at H
                              have c21b0 : decide (a1 < (l0.length : Int)) = true := decide_eq_true c21
                              clear c21
                              by_cases c22 : x38_2 < (x8_2.length : Int)
                              · rw [if_pos c22] at H
                                have c22b0 : decide (x38_2 < (x8_2.length : Int)) = true := decide_eq_true c22
                                clear c22
                                obtain ⟨y164, hy164⟩ : ∃ y_ : List Int, y_ = (x8_2.set (x38_2 : Int).toNat (rd l0 a1)) := ⟨_, rfl⟩
                                replace H : (part_Merge.l0 k2 l0 a1 a2 y164 l0 (l0.length : Int) (wrap64 (x38_2 + 1))) = some (r1, r2) := by first | (rw [hy164]; with_reducible exact H) | (have H2_ := (Option.bind_some _ _).symm.trans H; rw [hy164]; with_reducible exact H2_) | (have H2_ := (Option.bind_some _ _).symm.trans H; with_reducible exact H2_) | with_reducible exact H | (rw [hy164]; exact H) | exact H
                                have Ny164 := Aside0.mk hy164
                                clear hy164
                                have H' := Aside0.mk H
                                clear H
                                have p161 : 0 ≤ (x38_2 : Int) := of_decide_eq_true (by first | (with_reducible assumption) | assumption)
                                have q161 : x38_2 < (l0.length : Int) := of_decide_eq_true (by first | (with_reducible assumption) | assumption)
                                obtain ⟨ad161, e161, hx161_0⟩ := Kd.at_int HR0.out x38_2 p161 q161
                                cases e161
                                (try replace hx161_0 := (HB.out.cell (World.block_lt_of_cell? w _ hx161_0)).trans hx161_0)
                                replace p161 := eq_true p161
                                replace q161 := eq_true q161
                                have p162 : 0 ≤ (a2 : Int) := of_decide_eq_true (by first | (with_reducible assumption) | assumption)
                                have q162 : a2 < (l0.length : Int) := of_decide_eq_true (by first | (with_reducible assumption) | assumption)
                                obtain ⟨ad162, e162, hx162_0⟩ := Kd.at_int HR0.out a2 p162 q162
                                obtain rfl : ad161 = ad162 := (by injection e162)
                                (try replace hx162_0 := (HB.out.cell (World.block_lt_of_cell? w _ hx162_0)).trans hx162_0)
                                replace p162 := eq_true p162
                                replace q162 := eq_true q162
                                have p163 : 0 ≤ (a1 : Int) := of_decide_eq_true (by first | (with_reducible assumption) | assumption)
                                have q163 : a1 < (l0.length : Int) := of_decide_eq_true (by first | (with_reducible assumption) | assumption)
                                obtain ⟨ad163, e163, hx163_0⟩ := Kd.at_int HR0.out a1 p163 q163
                                obtain rfl : ad161 = ad163 := (by injection e163)
                                (try replace hx163_0 := (HB.out.cell (World.block_lt_of_cell? w _ hx163_0)).trans hx163_0)
                                replace p163 := eq_true p163
                                replace q163 := eq_true q163
                                have p23 : 0 ≤ (x38_2 : Int) := of_decide_eq_true (by first | (with_reducible assumption) | assumption)
                                have q23 : (x38_2 : Int) < ((x8_2.length : Int) : Int) := of_decide_eq_true (by first | (with_reducible assumption) | assumption)
                                obtain ⟨go23, co23, eo23, gb23, gl23, cl23, HG23⟩ := Kd.R_form HO_8.out (by omega)
                                (first | cases eo23 | (injection eo23 with ea_ en_ ec_; (first | subst ea_ | (injection ea_ with ea_; subst ea_)); subst ec_; clear en_))
                                have GB23 := Aside0.mk gb23
                                have GG23 := Aside0.mk HG23
                                clear gb23 gl23 HG23
                                obtain ⟨hx23_0, hf23_0⟩ := Kd.R_celln 0 HO_8.out (x38_2 : Int) p23 q23
                                replace p23 := eq_true p23
                                replace q23 := eq_true q23
                                have HP24 := Kd.R_putg HO_8.out (x38_2 : Int) (rd l0 a1)
                                go_wp2_with (first | ((with_reducible refine gate_store (t := 3) (p := 55) rfl ?_); refine store_event (t := 3) (p := 55) (v := ?vo_w25) (w1 := (wr.setCell ⟨go23, (x38_2 : Int).toNat, none⟩ (.int .i64 (rd l0 a1)))) ?hg ?ho ?hn ?hr ?_; (case ho => rfl); (case hg => rfl); (case hn => rfl); (case hr => first | (go_simp; done) | (go_simp; rfl)); intro w25 hw; have hg : wr.grownBy w25 (some go23) := (by rw [hw]; exact HP24.2); have hp_ : Kd.R (Kd.int .i64) 3 w25 w.heap.size (fun _ => True) (.slice (some ⟨go23, 0, none⟩) x8_2.length co23) y164 := (by rw [hw, Ny164.out]; exact HP24.1); clear HP24; have n0_ := Aside0.mk (hp_); have n1_ := Aside0.mk ((by rw [hw]; exact below_set (HB.out) GB23.out : Below w.heap.size w w25)); clear HO_8; clear HB; have HO_8 := n0_; have HB := n1_; clear n0_ n1_; clear hg hw hp_))
                                go_roundg k2
                                case measure => have := HJ5.out; have := HK2.out; omega
                                case rel => exact ⟨(y164), (wrap64 (x38_2 + 1)), (by first | rfl | (simp; done) | (simp [*]; done)), H', ⟨by have := HJ5.out; have := HK2.out; omega⟩, ⟨by (with_reducible repeat (first | apply Kd.R_alloc | apply Kd.R_drewN | apply Kd.R_drew)); exact HO_8.out⟩, ⟨by repeat (first | (with_reducible first | exact HB.out | apply below_alloc | apply pw_below_drewN | apply below_drew1) | exact HB.out)⟩⟩
                              · rw [if_neg c22] at H
                                exact absurd H (by simp)
                            · rw [if_neg c21] at H
                              exact absurd H (by simp)
                          · rw [if_neg c20] at H
                            exact absurd H (by simp)
                        · rw [if_neg c19] at H
                          have c19b0 : ((rd l0 x38_2) == (rd l0 a2)) = false := beq_eq_false_iff_ne.mpr c19
                          have c19b1 : ((rd l0 x38_2) != (rd l0 a2)) = true := bne_iff_ne.mpr c19
                          have H' := Aside0.mk H
                          clear H
                          have p161 : 0 ≤ (x38_2 : Int) := of_decide_eq_true (by first | (with_reducible assumption) | assumption)
                          have q161 : x38_2 < (l0.length : Int) := of_decide_eq_true (by first | (with_reducible assumption) | assumption)
                          obtain ⟨ad161, e161, hx161_0⟩ := Kd.at_int HR0.out x38_2 p161 q161
                          cases e161
                          (try replace hx161_0 := (HB.out.cell (World.block_lt_of_cell? w _ hx161_0)).trans hx161_0)
                          replace p161 := eq_true p161
                          replace q161 := eq_true q161
                          have p162 : 0 ≤ (a2 : Int) := of_decide_eq_true (by first | (with_reducible assumption) | assumption)
                          have q162 : a2 < (l0.length : Int) := of_decide_eq_true (by first | (with_reducible assumption) | assumption)
                          obtain ⟨ad162, e162, hx162_0⟩ := Kd.at_int HR0.out a2 p162 q162
                          obtain rfl : ad161 = ad162 := (by injection e162)
                          (try replace hx162_0 := (HB.out.cell (World.block_lt_of_cell? w _ hx162_0)).trans hx162_0)
                          replace p162 := eq_true p162
                          replace q162 := eq_true q162
                          go_wp2
                          go_roundg k2
                          case measure => have := HJ5.out; have := HK2.out; omega
                          case rel => exact ⟨(x8_2), (wrap64 (x38_2 + 1)), (by first | rfl | (simp; done) | (simp [*]; done)), H', ⟨by have := HJ5.out; have := HK2.out; omega⟩, ⟨by (with_reducible repeat (first | apply Kd.R_alloc | apply Kd.R_drewN | apply Kd.R_drew)); exact HO_8.out⟩, ⟨by repeat (first | (with_reducible first | exact HB.out | apply below_alloc | apply pw_below_drewN | apply below_drew1) | exact HB.out)⟩⟩
                      · rw [if_neg c18] at H
                        exact absurd H (by simp)
                    · rw [if_neg c17] at H
                      exact absurd H (by simp)
                  · rw [if_neg c16] at H
                    exact absurd H (by simp)
                · rw [if_neg c15] at H
                  exact absurd H (by simp)
              · rw [if_neg c14] at H
                have c14b0 : decide (x38_2 < (l0.length : Int)) = false := decide_eq_false c14
                clear c14
                replace H := Option.bind_eq_some_iff.mp H
                obtain ⟨⟨t165, t166⟩, A260, H⟩ := H
                replace H : (some (t165, t166)) = some (r1, r2) := H
                have A26 := Aside0.mk A260
                clear A260
                simp only [Option.some.injEq, Prod.mk.injEq] at H
                obtain ⟨rfl, rfl⟩ := H
                obtain ⟨Ao27, co27, eo27⟩ := Kd.R_slice HO_8.out
                subst eo27
                go_wp2_with (first | ((with_reducible refine gate_callee (f := 15) rfl ?_); refine goesL_ (some 58) rfl rfl Try.func15 (by kernel_rfl) rfl #[.slice Ao27 x8_2.length co27] rfl (by (try simp only [List.map_toArray, List.map_cons, List.map_nil]); first | done | rfl | (simp only [List.length_drop, List.length_take]; rfl)) ?_; (with_reducible refine (part_Of.calls _ _ x8_2 t165 t166 _ ?side1 ?side2 A26.out).mono ?_); (case side1 => repeat (first | exact (Kd.R_reads' HO_8.out).2.2 | (with_reducible refine Kd.C_alloc ?_ _) | (with_reducible refine Kd.C_drewN ?_ _) | (with_reducible refine Kd.C_drew ?_))); (case side2 => exact (Kd.R_reads' HO_8.out).2.1); rintro e w28 ⟨v167, rfl, ho0, hb⟩; refine ⟨_, rfl, ?_⟩; have n0_ := Aside0.mk (Kd.R_elder' (by (with_reducible repeat (first | apply Kd.R_alloc | apply Kd.R_drewN | apply Kd.R_drew)); exact HO_8.out) (Kd.R_base ho0) hb); have n1_ := Aside0.mk (Kd.R_lower (Kd.R_new' ho0 (Kd.R_lt (by (with_reducible repeat (first | apply Kd.R_alloc | apply Kd.R_drewN | apply Kd.R_drew)); exact HO_8.out))) (below_size (by repeat (first | (with_reducible first | exact HB.out | apply below_alloc | apply pw_below_drewN | apply below_drew1) | exact HB.out)))); have n2_ := Aside0.mk (below_step (by repeat (first | (with_reducible first | exact HB.out | apply below_alloc | apply pw_below_drewN | apply below_drew1) | exact HB.out)) hb); clear HO_8; clear HB; have HO_8 := n0_; have HO168 := n1_; have HB := n2_; clear n0_ n1_ n2_; (try clear hb); (try clear hb2); (try clear hk); (try clear hi); (try clear ho0)))
                go_ret2
                exact ⟨_, by first | rfl | (simp [errW_none, errW_some] <;> rfl) | (simp [*, errW_none, errW_some] <;> rfl), by (with_reducible repeat (first | apply Kd.R_alloc | apply Kd.R_drewN | apply Kd.R_drew)); exact Kd.R_mono HO168.out (fun _ hk => trivial), by repeat (first | (with_reducible first | exact HB.out | apply below_alloc | apply pw_below_drewN | apply below_drew1) | exact HB.out)⟩
  · replace c5 := Bool.eq_false_iff.mpr c5
    subst c5
    have H1 : (some (([] : List Int), 3)) = some (r1, r2) := by rw [if_neg (show ¬ (false = true) by decide)] at H; exact H
    clear H
    have H := H1
    clear H1
    simp only [Option.some.injEq, Prod.mk.injEq] at H
    obtain ⟨rfl, rfl⟩ := H
    go_enter Try.func44, Try.ntmps44
    go_wp2_with (first | ((with_reducible refine gate_callee (f := 16) rfl ?_); refine goesL_ (some 13) rfl rfl Try.func16 (by kernel_rfl) rfl #[.slice A0 l0.length c0] rfl (by (try simp only [List.map_toArray, List.map_cons, List.map_nil]); first | done | rfl | (simp only [List.length_drop, List.length_take]; rfl)) ?_; (with_reducible refine (part_Legal.calls k _ _ l0 false _ ?side1 ?side2 A4.out).mono ?_); (case side1 => repeat (first | exact HR0.out | (with_reducible refine Kd.C_alloc ?_ _) | (with_reducible refine Kd.C_drewN ?_ _) | (with_reducible refine Kd.C_drew ?_))); (case side2 => exact HC0.out); rintro e w29 ⟨rfl, hb⟩; refine ⟨_, rfl, ?_⟩; have n0_ := Aside0.mk (below_step (by repeat (first | (with_reducible first | exact HB.out | apply below_alloc | apply pw_below_drewN | apply below_drew1) | exact HB.out)) hb); clear HB; have HB := n0_; clear n0_; (try clear hb); (try clear hb2); (try clear hk); (try clear hi)))
    go_ret2
    exact ⟨_, by first | rfl | (simp [errW_none, errW_some] <;> rfl) | (simp [*, errW_none, errW_some] <;> rfl), by first | exact Kd.R_nil _ _ _ _ _ | exact Kd.N_nil _ _ _ _ _ | exact Kd.V_nil _ _ _ _ _ | exact Kd.Q_nil _ _ _ _ _ | exact Kd.S_nil _ _ _ _ _, by repeat (first | (with_reducible first | exact HB.out | apply below_alloc | apply pw_below_drewN | apply below_drew1) | exact HB.out)⟩

/-! ### part_Join: function 36 -/
mutual
def part_Join.l0 : Nat → List Int → List (List Int) → Int → Int → Option (List Int × Int)
  | 0, _, _, _, _ => none
  | k + 1, x6, x18, x19, x20 => if x20 < x19 then (if 0 ≤ x20 then (if x20 < (x18.length : Int) then (if 1 ≤ ((rd_L1 x18 x20).length : Int) then ((some ((rd_L1 x18 x20).drop 1 : List Int)).bind fun y177 => (part_Join.l1 k x6 (rd_L1 x18 x20) x18 x19 x20 y177 (y177.length : Int) 0)) else (none)) else (none)) else (none)) else (if (x6.length : Int) = 0 then (some (([] : List Int), 0)) else (some (x6, 0)))
def part_Join.l1 : Nat → List Int → List Int → List (List Int) → Int → Int → List Int → Int → Int → Option (List Int × Int)
  | 0, _, _, _, _, _, _, _, _ => none
  | k + 1, x6, x8, x18, x19, x20, x25, x26, x27 => if x27 < x26 then (if 0 ≤ x27 then (if x27 < (x25.length : Int) then (if 0 < (x8.length : Int) then ((part_Merge.f k x6 (rd x8 0) (rd x25 x27)).bind fun bt183 => (part_Join.l1 k bt183.1 x8 x18 x19 x20 x25 x26 (wrap64 (x27 + 1)))) else (none)) else (none)) else (none)) else (part_Join.l0 k x6 x18 x19 (wrap64 (x20 + 1)))
end
def part_Join.f (k : Nat) (l0 : List Int) (l1 : List Int) : Option (List Int × Int) := (part_pair.f k l0 l1).bind fun t169 => (if t169 = true then ((slices_Clone_int_int.f l0).bind fun t170 => ((part_Blocks.f k l1).bind fun t173 => (part_Join.l0 k t170 t173 (t173.length : Int) 0))) else (some (([] : List Int), 3)))
theorem part_Join.mono_l : ∀ k, (∀ y0 y1 y2 y3, LeO (part_Join.l0 k y0 y1 y2 y3) (part_Join.l0 (k + 1) y0 y1 y2 y3)) ∧ (∀ y0 y1 y2 y3 y4 y5 y6 y7, LeO (part_Join.l1 k y0 y1 y2 y3 y4 y5 y6 y7) (part_Join.l1 (k + 1) y0 y1 y2 y3 y4 y5 y6 y7))
  | 0 => ⟨fun _ _ _ _ r h => by simp [part_Join.l0] at h, fun _ _ _ _ _ _ _ _ r h => by simp [part_Join.l1] at h⟩
  | k + 1 => by
    obtain ⟨ih0, ih1⟩ := part_Join.mono_l k
    refine ⟨?_, ?_⟩
    · intro y0 y1 y2 y3
      unfold part_Join.l0
      repeat' first
      | (with_reducible exact ih0 _ _ _ _)
      | (with_reducible exact ih1 _ _ _ _ _ _ _ _)
      | (with_reducible exact part_Blocks.mono _ _)
      | (with_reducible exact part_Merge.mono _ _ _ _)
      | (with_reducible exact part_pair.mono _ _ _)
      | (with_reducible exact LeO.refl _)
      | (with_reducible exact LeO.none _)
      | (with_reducible refine LeO.ite ?_ ?_)
      | (with_reducible refine LeO.bind ?_ (fun _ => ?_))
      | exact ih0 _ _ _ _
      | exact ih1 _ _ _ _ _ _ _ _
      | exact part_Blocks.mono _ _
      | exact part_Merge.mono _ _ _ _
      | exact part_pair.mono _ _ _
      | exact LeO.none _
      | refine LeO.ite ?_ ?_
      | refine LeO.bind ?_ (fun _ => ?_)
    · intro y0 y1 y2 y3 y4 y5 y6 y7
      unfold part_Join.l1
      repeat' first
      | (with_reducible exact ih0 _ _ _ _)
      | (with_reducible exact ih1 _ _ _ _ _ _ _ _)
      | (with_reducible exact part_Blocks.mono _ _)
      | (with_reducible exact part_Merge.mono _ _ _ _)
      | (with_reducible exact part_pair.mono _ _ _)
      | (with_reducible exact LeO.refl _)
      | (with_reducible exact LeO.none _)
      | (with_reducible refine LeO.ite ?_ ?_)
      | (with_reducible refine LeO.bind ?_ (fun _ => ?_))
      | exact ih0 _ _ _ _
      | exact ih1 _ _ _ _ _ _ _ _
      | exact part_Blocks.mono _ _
      | exact part_Merge.mono _ _ _ _
      | exact part_pair.mono _ _ _
      | exact LeO.none _
      | refine LeO.ite ?_ ?_
      | refine LeO.bind ?_ (fun _ => ?_)
theorem part_Join.mono : ∀ a0 a1 k, LeO (part_Join.f k a0 a1) (part_Join.f (k + 1) a0 a1) := by
  intro a0 a1 k
  obtain ⟨ih0, ih1⟩ := part_Join.mono_l k
  unfold part_Join.f
  repeat' first
      | (with_reducible exact ih0 _ _ _ _)
      | (with_reducible exact ih1 _ _ _ _ _ _ _ _)
      | (with_reducible exact part_Blocks.mono _ _)
      | (with_reducible exact part_Merge.mono _ _ _ _)
      | (with_reducible exact part_pair.mono _ _ _)
      | (with_reducible exact LeO.refl _)
      | (with_reducible exact LeO.none _)
      | (with_reducible refine LeO.ite ?_ ?_)
      | (with_reducible refine LeO.bind ?_ (fun _ => ?_))
      | exact ih0 _ _ _ _
      | exact ih1 _ _ _ _ _ _ _ _
      | exact part_Blocks.mono _ _
      | exact part_Merge.mono _ _ _ _
      | exact part_pair.mono _ _ _
      | exact LeO.none _
      | refine LeO.ite ?_ ?_
      | refine LeO.bind ?_ (fun _ => ?_)
set_option maxHeartbeats 8000000 in
set_option maxRecDepth 100000 in
theorem part_Join.calls (k : Nat) (A0 : Option Addr) (c0 : Nat) (l0 : List Int) (A1 : Option Addr) (c1 : Nat) (l1 : List Int) (r1 : List Int) (r2 : Int) (w : World) (hr0 : Kd.C (Kd.int .i64) w A0 l0.length l0) (hc0 : l0.length ≤ c0) (hr1 : Kd.C (Kd.int .i64) w A1 l1.length l1) (hc1 : l1.length ≤ c1) (h : part_Join.f k l0 l1 = some (r1, r2)) :
    Calls Try.prog 36 #[.slice A0 l0.length c0, .slice A1 l1.length c1] w fun e w' => ∃ v0_ : Value, e = .returned (.tuple #[v0_, .int .i64 r2]) ∧ Kd.R (Kd.int .i64) 3 w' w.heap.size (fun _ => True) v0_ r1 ∧ Below w.heap.size w w' := by
  have HR0 := Aside0.mk hr0
  have HC0 := Aside0.mk hc0
  clear hr0 hc0
  have HR1 := Aside0.mk hr1
  have HC1 := Aside0.mk hc1
  clear hr1 hc1
  have HB := Aside0.mk (Below.refl w.heap.size w)
  have H : ((part_pair.f k l0 l1).bind fun t169 => (if t169 = true then ((slices_Clone_int_int.f l0).bind fun t170 => ((part_Blocks.f k l1).bind fun t173 => (part_Join.l0 k t170 t173 (t173.length : Int) 0))) else (some (([] : List Int), 3)))) = some (r1, r2) := h
  clear h
  replace H := Option.bind_eq_some_iff.mp H
  obtain ⟨t169, A30, H⟩ := H
  replace H : (if t169 = true then ((slices_Clone_int_int.f l0).bind fun t170 => ((part_Blocks.f k l1).bind fun t173 => (part_Join.l0 k t170 t173 (t173.length : Int) 0))) else (some (([] : List Int), 3))) = some (r1, r2) := H
  have A3 := Aside0.mk A30
  clear A30
  by_cases c4 : t169 = true
  · subst c4
    have H1 : ((slices_Clone_int_int.f l0).bind fun t170 => ((part_Blocks.f k l1).bind fun t173 => (part_Join.l0 k t170 t173 (t173.length : Int) 0))) = some (r1, r2) := by rw [if_pos rfl] at H; exact H
    clear H
    have H := H1
    clear H1
    replace H := Option.bind_eq_some_iff.mp H
    obtain ⟨t170, A50, H⟩ := H
    replace H : ((part_Blocks.f k l1).bind fun t173 => (part_Join.l0 k t170 t173 (t173.length : Int) 0)) = some (r1, r2) := H
    have A5 := Aside0.mk A50
    clear A50
    replace H := Option.bind_eq_some_iff.mp H
    obtain ⟨t173, A60, H⟩ := H
    replace H : (part_Join.l0 k t170 t173 (t173.length : Int) 0) = some (r1, r2) := H
    have A6 := Aside0.mk A60
    clear A60
    have H' := Aside0.mk H
    clear H
    go_enter Try.func36, Try.ntmps36
    go_wp2_with (first | ((with_reducible refine gate_callee (f := 75) rfl ?_); refine goesL_ (some 13) rfl rfl Try.func75 (by kernel_rfl) rfl #[.slice A0 l0.length c0, .slice A1 l1.length c1] rfl (by (try simp only [List.map_toArray, List.map_cons, List.map_nil]); first | done | rfl | (simp only [List.length_drop, List.length_take]; rfl)) ?_; (with_reducible refine (part_pair.calls k _ _ l0 _ _ l1 true _ ?side1 ?side2 ?side3 ?side4 A3.out).mono ?_); (case side1 => repeat (first | exact HR0.out | (with_reducible refine Kd.C_alloc ?_ _) | (with_reducible refine Kd.C_drewN ?_ _) | (with_reducible refine Kd.C_drew ?_))); (case side2 => exact HC0.out); (case side3 => repeat (first | exact HR1.out | (with_reducible refine Kd.C_alloc ?_ _) | (with_reducible refine Kd.C_drewN ?_ _) | (with_reducible refine Kd.C_drew ?_))); (case side4 => exact HC1.out); rintro e w7 ⟨rfl, hb⟩; refine ⟨_, rfl, ?_⟩; have n0_ := Aside0.mk (below_step (by repeat (first | (with_reducible first | exact HB.out | apply below_alloc | apply pw_below_drewN | apply below_drew1) | exact HB.out)) hb); clear HB; have HB := n0_; clear n0_; (try clear hb); (try clear hb2); (try clear hk); (try clear hi)) | ((with_reducible refine gate_callee (f := 74) rfl ?_); refine goesL_ (some 16) rfl rfl Try.func74 (by kernel_rfl) rfl #[.slice A0 l0.length c0] rfl (by (try simp only [List.map_toArray, List.map_cons, List.map_nil]); first | done | rfl | (simp only [List.length_drop, List.length_take]; rfl)) ?_; (with_reducible refine (slices_Clone_int_int.calls _ _ l0 t170 _ ?side1 ?side2 A5.out).mono ?_); (case side1 => repeat (first | exact (Kd.C_below HR0.out HB.out) | (with_reducible refine Kd.C_alloc ?_ _) | (with_reducible refine Kd.C_drewN ?_ _) | (with_reducible refine Kd.C_drew ?_))); (case side2 => exact HC0.out); rintro e w8 ⟨v171, rfl, ho0, hb⟩; refine ⟨_, rfl, ?_⟩; have n0_ := Aside0.mk (Kd.R_lower ho0 (below_size (by repeat (first | (with_reducible first | exact HB.out | apply below_alloc | apply pw_below_drewN | apply below_drew1) | exact HB.out)))); have n1_ := Aside0.mk (below_step (by repeat (first | (with_reducible first | exact HB.out | apply below_alloc | apply pw_below_drewN | apply below_drew1) | exact HB.out)) hb); clear HB; have HO172 := n0_; have HB := n1_; clear n0_ n1_; (try clear hb); (try clear hb2); (try clear hk); (try clear hi); (try clear ho0)) | ((with_reducible refine gate_callee (f := 18) rfl ?_); refine goesL_ (some 18) rfl rfl Try.func18 (by kernel_rfl) rfl #[.slice A1 l1.length c1] rfl (by (try simp only [List.map_toArray, List.map_cons, List.map_nil]); first | done | rfl | (simp only [List.length_drop, List.length_take]; rfl)) ?_; (with_reducible refine (part_Blocks.calls k _ _ l1 t173 _ ?side1 ?side2 A6.out).mono ?_); (case side1 => repeat (first | exact (Kd.C_below HR1.out HB.out) | (with_reducible refine Kd.C_alloc ?_ _) | (with_reducible refine Kd.C_drewN ?_ _) | (with_reducible refine Kd.C_drew ?_))); (case side2 => exact HC1.out); rintro e w9 ⟨v174, rfl, ho0, hb⟩; refine ⟨_, rfl, ?_⟩; have n0_ := Aside0.mk (Kd.R_below (by (with_reducible repeat (first | apply Kd.R_alloc | apply Kd.R_drewN | apply Kd.R_drew)); exact HO172.out) hb); have n1_ := Aside0.mk (Kd.S_lower (Kd.S_new' ho0 (Kd.R_lt (by (with_reducible repeat (first | apply Kd.R_alloc | apply Kd.R_drewN | apply Kd.R_drew)); exact HO172.out))) (below_size (by repeat (first | (with_reducible first | exact HB.out | apply below_alloc | apply pw_below_drewN | apply below_drew1) | exact HB.out)))); have n2_ := Aside0.mk (below_step (by repeat (first | (with_reducible first | exact HB.out | apply below_alloc | apply pw_below_drewN | apply below_drew1) | exact HB.out)) hb); clear HO172; clear HB; have HO172 := n0_; have HO175 := n1_; have HB := n2_; clear n0_ n1_ n2_; (try clear hb); (try clear hb2); (try clear hk); (try clear hi); (try clear ho0); obtain ⟨Ao10, co10, eo10⟩ := Kd.S_slice HO175.out; subst eo10))
    go_loopg [6, 20] k (fun kq v6 v20 w' => ∃ (x6_1 : List Int) (x20_1 : Int), v20 = .int .i64 x20_1 ∧ Aside0 (part_Join.l0 kq x6_1 t173 (t173.length : Int) x20_1 = some (r1, r2)) ∧ Aside0 (kq ≤ k) ∧ Aside0 (Kd.R (Kd.int .i64) 3 w' w.heap.size (fun _ => True) v6 x6_1) ∧ Aside0 (Kd.S (Kd.slice 3 (Kd.int .i64)) 22 w' w.heap.size (fun k_ => some k_ ≠ (v6 : Value).ownBlock) (.slice Ao10 t173.length co10) t173) ∧ Aside0 (Below w.heap.size w w'))
    case atStart => exact ⟨(t170), (0), (by first | rfl | (simp; done) | (simp [*]; done)), H', ⟨Nat.le_refl _⟩, ⟨by (with_reducible repeat (first | apply Kd.R_alloc | apply Kd.R_drewN | apply Kd.R_drew)); exact HO172.out⟩, ⟨by (with_reducible repeat (first | apply Kd.S_alloc | apply Kd.S_drewN | apply Kd.S_drew)); exact Kd.S_mono HO175.out (fun _ hk => hk.2)⟩, ⟨by repeat (first | (with_reducible first | exact HB.out | apply below_alloc | apply pw_below_drewN | apply below_drew1) | exact HB.out)⟩⟩
    case round =>
      clear H'
      try clear c1
      try clear p2
      try clear c3
      try clear c4
      try clear c7
      obtain ⟨x6_1, x20_1, rfl, HA, HK1, HO_6, HO_18, HB⟩ := hrel
      cases gk with
      | zero => exact absurd HA.out (by simp [part_Join.l0])
      | succ k1 =>
        have H := HA.out
        clear HA
        simp only [part_Join.l0] at H
        by_cases c11 : x20_1 < (t173.length : Int)
        · rw [if_pos c11] at H
          have c11b0 : decide (x20_1 < (t173.length : Int)) = true := decide_eq_true c11
          clear c11
          by_cases c12 : 0 ≤ x20_1
          · rw [if_pos c12] at H
            have c12b0 : decide (0 ≤ x20_1) = true := decide_eq_true c12
            clear c12
            by_cases c13 : x20_1 < (t173.length : Int)
            · rw [if_pos c13] at H
              have c13b0 : decide (x20_1 < (t173.length : Int)) = true := decide_eq_true c13
              clear c13
              by_cases c14 : 1 ≤ ((rd_L1 t173 x20_1).length : Int)
              · rw [if_pos c14] at H
                have c14b0 := eq_true c14
                have c14b1 : decide (1 ≤ ((rd_L1 t173 x20_1).length : Int)) = true := decide_eq_true c14
                clear c14
                obtain ⟨y177, hy177⟩ : ∃ y_ : List Int, y_ = ((rd_L1 t173 x20_1).drop 1) := ⟨_, rfl⟩
                replace H : (part_Join.l1 k1 x6_1 (rd_L1 t173 x20_1) t173 (t173.length : Int) x20_1 y177 (y177.length : Int) 0) = some (r1, r2) := by first | (rw [hy177]; with_reducible exact H) | (have H2_ := (Option.bind_some _ _).symm.trans H; rw [hy177]; with_reducible exact H2_) | (have H2_ := (Option.bind_some _ _).symm.trans H; with_reducible exact H2_) | with_reducible exact H | (rw [hy177]; exact H) | exact H
                have Ny177 := Aside0.mk hy177
                clear hy177
                have H' := Aside0.mk H
                clear H
                have p176 : 0 ≤ (x20_1 : Int) := of_decide_eq_true (by first | (with_reducible assumption) | assumption)
                have q176 : x20_1 < (t173.length : Int) := of_decide_eq_true (by first | (with_reducible assumption) | assumption)
                obtain ⟨ad176, A176_0, c176_0, e176, hx176_0, hl176_0, hi176_0⟩ := at_L1 (Kd.S_reads' HO_18.out).2.2 x20_1 p176 q176
                cases e176
                obtain ⟨ce176, hce176, hMe176, hcc176⟩ := Kd.S_get HO_18.out [] x20_1 p176 (by first | exact q176 | exact of_decide_eq_true (by first | (with_reducible assumption) | assumption) | (have e_ := (Kd.S_reads' HO_18.out).1; omega))
                obtain ⟨ve176_0, rfl, ge176_0⟩ := hMe176
                have hv176_0 := hcc176 0 _ rfl
                rw [Nat.add_zero, show ((Kd.slice 3 (Kd.int .i64))).sz = 1 from rfl, Nat.mul_one] at hv176_0
                replace hv176_0 := Option.some.inj (hv176_0.symm.trans hx176_0)
                rw [hv176_0] at ge176_0
                have HL176_0 := Aside0.mk (show Kd.R (Kd.int .i64) 3 _ _ _ _ (rd_L1 t173 x20_1) from ge176_0)
                clear hv176_0 ge176_0
                clear hcc176 hce176
                have HR176_0 := Aside0.mk hi176_0
                have HC176_0 := Aside0.mk hl176_0
                clear hi176_0 hl176_0
                replace p176 := eq_true p176
                replace q176 := eq_true q176
                have q15 : (1 : Int) ≤ (((rd_L1 t173 x20_1).length : Int) : Int) := of_decide_eq_true (by first | (with_reducible assumption) | assumption)
                obtain ⟨i015, hi015, _, hsz15, _⟩ := info_parts info3
                have hroom15 : (rd_L1 t173 x20_1).length ≤ c176_0 := HC176_0.out
                have hC15 : Kd.C (Kd.int .i64) _ A176_0 (rd_L1 t173 x20_1).length (rd_L1 t173 x20_1) := (by repeat (first | (with_reducible exact HR176_0.out) | (with_reducible refine Kd.C_alloc ?_ _) | (with_reducible refine Kd.C_drewN ?_ _) | (with_reducible refine Kd.C_drew ?_) | exact HR176_0.out))
                have hcut15 := cut_from (P := Try.prog) 22 3 .i64 Try.underlying22 hi015 1 hsz15 A176_0 (rd_L1 t173 x20_1).length c176_0 1 (by omega) q15
                have hr15 := Kd.C_drop (m := (1 : Int).toNat) (c := c176_0) hC15 (by omega) hroom15
                obtain ⟨A15, hA15⟩ : ∃ A1, A1 = (if c176_0 = (1 : Int).toNat then A176_0 else (A176_0 : Option Addr).map (·.add ((1 : Int).toNat * 1))) := ⟨_, rfl⟩
                obtain ⟨c15, hc15⟩ : ∃ c1, c1 = c176_0 - (1 : Int).toNat := ⟨_, rfl⟩
                have hy15 : y177.length = (rd_L1 t173 x20_1).length - (1 : Int).toNat := (by rw [Ny177.out, List.length_drop] <;> omega)
                rw [show (rd_L1 t173 x20_1).drop (1 : Int).toNat = y177 from Ny177.out.symm] at hr15
                replace hr15 : Kd.C (Kd.int .i64) _ A15 y177.length y177 := (by rw [hA15]; exact hr15)
                rw [← hy15, ← hA15, ← hc15] at hcut15
                have HR180 := Aside0.mk hr15
                have HC180 := Aside0.mk (show y177.length ≤ c15 from by rw [hy15, hc15]; exact Nat.sub_le_sub_right hroom15 _)
                clear hr15 hC15 hroom15 hi015 hsz15 hc15
                have KY15 := Aside0.mk hy15
                have KA15 := Aside0.mk hA15
                clear hy15 hA15
                replace q15 := eq_true q15
                go_wp2
                go_loopg [6, 27] k1 (fun kq v6 v27 w' => ∃ (x6_2 : List Int) (x27_2 : Int), v27 = .int .i64 x27_2 ∧ Aside0 (part_Join.l1 kq x6_2 (rd_L1 t173 x20_1) t173 (t173.length : Int) x20_1 y177 (y177.length : Int) x27_2 = some (r1, r2)) ∧ Aside0 (kq ≤ k1) ∧ Aside0 (Kd.R (Kd.int .i64) 3 w' w.heap.size (fun _ => True) v6 x6_2) ∧ Aside0 (Kd.S (Kd.slice 3 (Kd.int .i64)) 22 w' w.heap.size (fun k_ => some k_ ≠ (v6 : Value).ownBlock) (.slice (some ad176) t173.length co10) t173) ∧ Aside0 (Kd.C (Kd.int .i64) w' A176_0 (rd_L1 t173 x20_1).length (rd_L1 t173 x20_1)) ∧ Aside0 (Kd.C (Kd.int .i64) w' A15 y177.length y177) ∧ Aside0 (Below w.heap.size w w'))
                case atStart => exact ⟨(x6_1), (0), (by first | rfl | (simp; done) | (simp [*]; done)), H', ⟨Nat.le_refl _⟩, ⟨by (with_reducible repeat (first | apply Kd.R_alloc | apply Kd.R_drewN | apply Kd.R_drew)); exact HO_6.out⟩, ⟨by (with_reducible repeat (first | apply Kd.S_alloc | apply Kd.S_drewN | apply Kd.S_drew)); exact HO_18.out⟩, ⟨by repeat (first | (with_reducible exact HR176_0.out) | (with_reducible refine Kd.C_alloc ?_ _) | (with_reducible refine Kd.C_drewN ?_ _) | (with_reducible refine Kd.C_drew ?_) | exact HR176_0.out)⟩, ⟨by repeat (first | (with_reducible exact HR180.out) | (with_reducible refine Kd.C_alloc ?_ _) | (with_reducible refine Kd.C_drewN ?_ _) | (with_reducible refine Kd.C_drew ?_) | exact HR180.out)⟩, ⟨by repeat (first | (with_reducible first | exact HB.out | apply below_alloc | apply pw_below_drewN | apply below_drew1) | exact HB.out)⟩⟩
                case round =>
                  clear H'
                  try clear c1
                  try clear p1
                  try clear q1
                  try clear hx1
                  try clear p2
                  try clear c3
                  try clear c4
                  try clear c7
                  try clear c11
                  try clear c11b0
                  try clear c12
                  try clear c12b0
                  try clear c13
                  try clear c13b0
                  try clear c14
                  try clear c14b0
                  try clear c14b1
                  try clear c15
                  try clear q15
                  try clear hx176_0
                  try clear p176
                  try clear p2
                  try clear q15
                  try clear q176
                  obtain ⟨x6_2, x27_2, rfl, HA, HK2, HO_6, HO_18, HR176_0, HR180, HB⟩ := hrel
                  cases gk with
                  | zero => exact absurd HA.out (by simp [part_Join.l1])
                  | succ k2 =>
                    have H := HA.out
                    clear HA
                    simp only [part_Join.l1] at H
                    by_cases c16 : x27_2 < (y177.length : Int)
                    · rw [if_pos c16] at H
                      have c16b0 : decide (x27_2 < (y177.length : Int)) = true := decide_eq_true c16
                      clear c16
                      by_cases c17 : 0 ≤ x27_2
                      · rw [if_pos c17] at H
                        have c17b0 : decide (0 ≤ x27_2) = true := decide_eq_true c17
                        clear c17
                        by_cases c18 : x27_2 < (y177.length : Int)
                        · rw [if_pos c18] at H
                          have c18b0 : decide (x27_2 < (y177.length : Int)) = true := decide_eq_true c18
                          clear c18
                          by_cases c19 : 0 < ((rd_L1 t173 x20_1).length : Int)
                          · rw [if_pos c19] at H
                            have c19b0 : decide (0 < ((rd_L1 t173 x20_1).length : Int)) = true := decide_eq_true c19
                            have c19b1 : decide (0 < (rd_L1 t173 x20_1).length) = true := decide_eq_true (by omega)
                            clear c19
                            replace H := Option.bind_eq_some_iff.mp H
                            obtain ⟨⟨t183, t184⟩, A200, H⟩ := H
                            replace H : (part_Join.l1 k2 t183 (rd_L1 t173 x20_1) t173 (t173.length : Int) x20_1 y177 (y177.length : Int) (wrap64 (x27_2 + 1))) = some (r1, r2) := H
                            have A20 := Aside0.mk A200
                            clear A200
                            have H' := Aside0.mk H
                            clear H
                            have p181 : 0 ≤ (x27_2 : Int) := of_decide_eq_true (by first | (with_reducible assumption) | assumption)
                            have q181 : x27_2 < (y177.length : Int) := of_decide_eq_true (by first | (with_reducible assumption) | assumption)
                            obtain ⟨ad181, e181, hx181_0⟩ := Kd.at_int HR180.out x27_2 p181 q181
                            cases e181
                            (try replace hx181_0 := (HB.out.cell (World.block_lt_of_cell? w _ hx181_0)).trans hx181_0)
                            replace p181 := eq_true p181
                            replace q181 := eq_true q181
                            have p182 : 0 ≤ (0 : Int) := (by omega)
                            have q182 : 0 < ((rd_L1 t173 x20_1).length : Int) := of_decide_eq_true (by first | (with_reducible assumption) | assumption)
                            obtain ⟨ad182, e182, hx182_0⟩ := Kd.at_int HR176_0.out 0 p182 q182
                            cases e182
                            have qi182 : (0 < (rd_L1 t173 x20_1).length) = True := eq_true (by omega)
                            (try rw [show ((0 : Int)).toNat = 0 from rfl] at hx182_0)
                            (try rw [Addr.add_zero'] at hx182_0)
                            (try replace hx182_0 := (HB.out.cell (World.block_lt_of_cell? w _ hx182_0)).trans hx182_0)
                            replace p182 := eq_true p182
                            replace q182 := eq_true q182
                            obtain ⟨Ao21, co21, eo21⟩ := Kd.R_slice HO_6.out
                            subst eo21
                            go_wp2_with (first | ((with_reducible refine gate_callee (f := 44) rfl ?_); refine goesL_ (some 37) rfl rfl Try.func44 (by kernel_rfl) rfl #[.slice Ao21 x6_2.length co21, .int .i64 (rd (rd_L1 t173 x20_1) 0), .int .i64 (rd y177 x27_2)] rfl (by (try simp only [List.map_toArray, List.map_cons, List.map_nil]); first | done | rfl | (simp only [List.length_drop, List.length_take]; rfl)) ?_; (with_reducible refine (part_Merge.calls k2 _ _ x6_2 (rd (rd_L1 t173 x20_1) 0) (rd y177 x27_2) t183 t184 _ ?side1 ?side2 A20.out).mono ?_); (case side1 => repeat (first | exact (Kd.R_reads' HO_6.out).2.2 | (with_reducible refine Kd.C_alloc ?_ _) | (with_reducible refine Kd.C_drewN ?_ _) | (with_reducible refine Kd.C_drew ?_))); (case side2 => exact (Kd.R_reads' HO_6.out).2.1); rintro e w22 ⟨v185, rfl, ho0, hb⟩; refine ⟨_, rfl, ?_⟩; have n0_ := Aside0.mk (Kd.R_elder' (by (with_reducible repeat (first | apply Kd.R_alloc | apply Kd.R_drewN | apply Kd.R_drew)); exact HO_6.out) (Kd.R_base ho0) hb); have n1_ := Aside0.mk (Kd.S_elder' (by (with_reducible repeat (first | apply Kd.S_alloc | apply Kd.S_drewN | apply Kd.S_drew)); exact HO_18.out) (Kd.R_base ho0) hb); have n2_ := Aside0.mk (Kd.R_lower (Kd.R_new' ho0 (Kd.R_lt (by (with_reducible repeat (first | apply Kd.R_alloc | apply Kd.R_drewN | apply Kd.R_drew)); exact HO_6.out))) (below_size (by repeat (first | (with_reducible first | exact HB.out | apply below_alloc | apply pw_below_drewN | apply below_drew1) | exact HB.out)))); have n3_ := Aside0.mk (Kd.C_below (by repeat (first | (with_reducible exact HR176_0.out) | (with_reducible refine Kd.C_alloc ?_ _) | (with_reducible refine Kd.C_drewN ?_ _) | (with_reducible refine Kd.C_drew ?_) | exact HR176_0.out)) hb); have n4_ := Aside0.mk (Kd.C_below (by repeat (first | (with_reducible exact HR180.out) | (with_reducible refine Kd.C_alloc ?_ _) | (with_reducible refine Kd.C_drewN ?_ _) | (with_reducible refine Kd.C_drew ?_) | exact HR180.out)) hb); have n5_ := Aside0.mk (below_step (by repeat (first | (with_reducible first | exact HB.out | apply below_alloc | apply pw_below_drewN | apply below_drew1) | exact HB.out)) hb); clear HO_6; clear HO_18; clear HR176_0; clear HR180; clear HB; have HO_6 := n0_; have HO_18 := n1_; have HO186 := n2_; have HR176_0 := n3_; have HR180 := n4_; have HB := n5_; clear n0_ n1_ n2_ n3_ n4_ n5_; (try clear hb); (try clear hb2); (try clear hk); (try clear hi); (try clear ho0)))
                            go_roundg k2
                            case measure => have := HK1.out; have := HK2.out; omega
                            case rel => exact ⟨(t183), (wrap64 (x27_2 + 1)), (by first | rfl | (simp; done) | (simp [*]; done)), H', ⟨by have := HK1.out; have := HK2.out; omega⟩, ⟨by (with_reducible repeat (first | apply Kd.R_alloc | apply Kd.R_drewN | apply Kd.R_drew)); exact Kd.R_mono HO186.out (fun _ hk => trivial)⟩, ⟨by (with_reducible repeat (first | apply Kd.S_alloc | apply Kd.S_drewN | apply Kd.S_drew)); exact Kd.S_mono HO_18.out (fun _ hk => hk.2)⟩, ⟨by repeat (first | (with_reducible exact HR176_0.out) | (with_reducible refine Kd.C_alloc ?_ _) | (with_reducible refine Kd.C_drewN ?_ _) | (with_reducible refine Kd.C_drew ?_) | exact HR176_0.out)⟩, ⟨by repeat (first | (with_reducible exact HR180.out) | (with_reducible refine Kd.C_alloc ?_ _) | (with_reducible refine Kd.C_drewN ?_ _) | (with_reducible refine Kd.C_drew ?_) | exact HR180.out)⟩, ⟨by repeat (first | (with_reducible first | exact HB.out | apply below_alloc | apply pw_below_drewN | apply below_drew1) | exact HB.out)⟩⟩
                          · rw [if_neg c19] at H
                            exact absurd H (by simp)
                        · rw [if_neg c18] at H
                          exact absurd H (by simp)
                      · rw [if_neg c17] at H
                        exact absurd H (by simp)
                    · rw [if_neg c16] at H
                      have c16b0 : decide (x27_2 < (y177.length : Int)) = false := decide_eq_false c16
                      clear c16
                      have H' := Aside0.mk H
                      clear H
                      go_wp2
                      go_roundg k2
                      case measure => have := HK1.out; have := HK2.out; omega
                      case rel => exact ⟨(x6_2), (wrap64 (x20_1 + 1)), (by first | rfl | (simp; done) | (simp [*]; done)), H', ⟨by have := HK1.out; have := HK2.out; omega⟩, ⟨by (with_reducible repeat (first | apply Kd.R_alloc | apply Kd.R_drewN | apply Kd.R_drew)); exact HO_6.out⟩, ⟨by (with_reducible repeat (first | apply Kd.S_alloc | apply Kd.S_drewN | apply Kd.S_drew)); exact HO_18.out⟩, ⟨by repeat (first | (with_reducible first | exact HB.out | apply below_alloc | apply pw_below_drewN | apply below_drew1) | exact HB.out)⟩⟩
              · rw [if_neg c14] at H
                exact absurd H (by simp)
            · rw [if_neg c13] at H
              exact absurd H (by simp)
          · rw [if_neg c12] at H
            exact absurd H (by simp)
        · rw [if_neg c11] at H
          have c11b0 : decide (x20_1 < (t173.length : Int)) = false := decide_eq_false c11
          clear c11
          by_cases c23 : (x6_1.length : Int) = 0
          · rw [if_pos c23] at H
            have c23b0 : ((x6_1.length : Int) == 0) = true := beq_iff_eq.mpr c23
            have c23b1 : ((x6_1.length : Int) != 0) = false := bne_eq_false_iff_eq.mpr c23
            clear c23
            simp only [Option.some.injEq, Prod.mk.injEq] at H
            obtain ⟨rfl, rfl⟩ := H
            obtain ⟨Ao24, co24, eo24⟩ := Kd.R_slice HO_6.out
            subst eo24
            go_wp2
            go_ret2
            exact ⟨_, by first | rfl | (simp [errW_none, errW_some] <;> rfl) | (simp [*, errW_none, errW_some] <;> rfl), by first | exact Kd.R_nil _ _ _ _ _ | exact Kd.N_nil _ _ _ _ _ | exact Kd.V_nil _ _ _ _ _ | exact Kd.Q_nil _ _ _ _ _ | exact Kd.S_nil _ _ _ _ _, by repeat (first | (with_reducible first | exact HB.out | apply below_alloc | apply pw_below_drewN | apply below_drew1) | exact HB.out)⟩
          · rw [if_neg c23] at H
            have c23b0 : ((x6_1.length : Int) == 0) = false := beq_eq_false_iff_ne.mpr c23
            have c23b1 : ((x6_1.length : Int) != 0) = true := bne_iff_ne.mpr c23
            have c23b2 : ¬ (x6_1 = []) := fun h_ => c23 (by rw [h_]; rfl)
            simp only [Option.some.injEq, Prod.mk.injEq] at H
            obtain ⟨rfl, rfl⟩ := H
            obtain ⟨Ao25, co25, eo25⟩ := Kd.R_slice HO_6.out
            subst eo25
            go_wp2
            go_ret2
            exact ⟨_, by first | rfl | (simp [errW_none, errW_some] <;> rfl) | (simp [*, errW_none, errW_some] <;> rfl), by (with_reducible repeat (first | apply Kd.R_alloc | apply Kd.R_drewN | apply Kd.R_drew)); exact HO_6.out, by repeat (first | (with_reducible first | exact HB.out | apply below_alloc | apply pw_below_drewN | apply below_drew1) | exact HB.out)⟩
  · replace c4 := Bool.eq_false_iff.mpr c4
    subst c4
    have H1 : (some (([] : List Int), 3)) = some (r1, r2) := by rw [if_neg (show ¬ (false = true) by decide)] at H; exact H
    clear H
    have H := H1
    clear H1
    simp only [Option.some.injEq, Prod.mk.injEq] at H
    obtain ⟨rfl, rfl⟩ := H
    go_enter Try.func36, Try.ntmps36
    go_wp2_with (first | ((with_reducible refine gate_callee (f := 75) rfl ?_); refine goesL_ (some 13) rfl rfl Try.func75 (by kernel_rfl) rfl #[.slice A0 l0.length c0, .slice A1 l1.length c1] rfl (by (try simp only [List.map_toArray, List.map_cons, List.map_nil]); first | done | rfl | (simp only [List.length_drop, List.length_take]; rfl)) ?_; (with_reducible refine (part_pair.calls k _ _ l0 _ _ l1 false _ ?side1 ?side2 ?side3 ?side4 A3.out).mono ?_); (case side1 => repeat (first | exact HR0.out | (with_reducible refine Kd.C_alloc ?_ _) | (with_reducible refine Kd.C_drewN ?_ _) | (with_reducible refine Kd.C_drew ?_))); (case side2 => exact HC0.out); (case side3 => repeat (first | exact HR1.out | (with_reducible refine Kd.C_alloc ?_ _) | (with_reducible refine Kd.C_drewN ?_ _) | (with_reducible refine Kd.C_drew ?_))); (case side4 => exact HC1.out); rintro e w26 ⟨rfl, hb⟩; refine ⟨_, rfl, ?_⟩; have n0_ := Aside0.mk (below_step (by repeat (first | (with_reducible first | exact HB.out | apply below_alloc | apply pw_below_drewN | apply below_drew1) | exact HB.out)) hb); clear HB; have HB := n0_; clear n0_; (try clear hb); (try clear hb2); (try clear hk); (try clear hi)))
    go_ret2
    exact ⟨_, by first | rfl | (simp [errW_none, errW_some] <;> rfl) | (simp [*, errW_none, errW_some] <;> rfl), by first | exact Kd.R_nil _ _ _ _ _ | exact Kd.N_nil _ _ _ _ _ | exact Kd.V_nil _ _ _ _ _ | exact Kd.Q_nil _ _ _ _ _ | exact Kd.S_nil _ _ _ _ _, by repeat (first | (with_reducible first | exact HB.out | apply below_alloc | apply pw_below_drewN | apply below_drew1) | exact HB.out)⟩

/-! ### part_Finer: function 37 -/
section
open Go
open Go.Proofs.YtpcnpmcknknfcaaW.Mine
def finT (t : Nat → Int) : Array Value := ((List.range 25).map fun i => Value.int .i64 (t i)).toArray
def finU (t : Nat → Int) (i : Nat) (v : Int) : Nat → Int := fun j => if j = i then v else t j
theorem finT_set (t : Nat → Int) (i : Nat) (v : Int) : (finT t).setIfInBounds i (.int .i64 v) = finT (finU t i v) := by
  apply Array.ext'
  simp only [finT, Array.toList_setIfInBounds]
  apply List.ext_getElem?
  intro j
  rw [List.getElem?_set]
  simp only [List.length_map, List.length_range, List.getElem?_map]
  by_cases h : i = j
  · subst h
    by_cases h2 : i < 25
    · rw [if_pos rfl, if_pos h2, List.getElem?_range h2]; simp [finU]
    · rw [if_pos rfl, if_neg h2, List.getElem?_eq_none (by simpa using h2)]; rfl
  · rw [if_neg h]
    by_cases h2 : j < 25
    · rw [List.getElem?_range h2]; simp [finU, show ¬ j = i from fun e => h e.symm]
    · rw [List.getElem?_eq_none (by simpa using h2)]; rfl
theorem finT_get (t : Nat → Int) (i : Nat) (h : i < 25) : (finT t)[i]? = some (.int .i64 (t i)) := by
  simp [finT, h]
theorem finT_put {W : World} {B e a : Nat} {t : Nat → Int} {v : Int} {n : Nat} (h : W.heap[B]? = some (.cells (finT t) e (0, 0))) : (((W.drewN n).setCell ⟨B, a, none⟩ (.int .i64 v))).heap[B]? = some (.cells (finT (finU t a v)) e (0, 0)) :=
  (blk_set (show (W.drewN n).heap[B]? = _ from h) a (.int .i64 v)).trans (by rw [finT_set])
/-- does each block of the one lie within one of the other (t: what is known of the blocks so far) -/
def finF (t : Nat → Int) : List Int → List Int → Bool
  | x :: r, y :: s => if t x.toNat ≠ 0 ∧ t x.toNat ≠ y + 1 then false else finF (finU t x.toNat (y + 1)) r s
  | _, _ => true
set_option maxHeartbeats 2000000 in
set_option maxRecDepth 100000 in
theorem part_Finer.good (A0 : Option Addr) (c0 : Nat) (l : List Int) (A1 : Option Addr) (c1 : Nat) (m : List Int) (w : World) (hr0 : Kd.C (Kd.int .i64) w A0 l.length l) (hc0 : l.length ≤ c0) (hr1 : Kd.C (Kd.int .i64) w A1 m.length m) (hc1 : m.length ≤ c1) (h25 : l.length ≤ 25) (hl : legalF 0 l = true) (hm : legalF 0 m = true) (hlm : l.length = m.length) (kk : Nat) (hk : part_pair.f kk l m = some true) :
    Calls Try.prog 37 #[.slice A0 l.length c0, .slice A1 m.length c1] w fun e w' => e = .returned (.bool (finF (fun _ => 0) l m)) ∧ Below w.heap.size w w' := by
  have HK := Aside0.mk hk
  have HR := Aside0.mk hr0
  have HC0 := Aside0.mk hc0
  have HS := Aside0.mk hr1
  have HC1 := Aside0.mk hc1
  have HTL := Aside0.mk (fun k hk => legal_take l 0 k hl hk (by omega))
  have HTM := Aside0.mk (fun k hk => legal_take m 0 k hm hk (by omega))
  have HLM := Aside0.mk hlm
  clear hr0 hc0 hr1 hc1 hl hm hk hlm
  go_enter Try.func37, Try.ntmps37
  go_wp2_with (go_at_call 75; (with_reducible refine (part_pair.calls kk A0 c0 l A1 c1 m true _ HR.out HC0.out HS.out HC1.out HK.out).mono ?_); rintro e w1 ⟨rfl, hw⟩; have HB := Aside0.mk hw; clear hw)
  have hz : (#[Value.int .i64 0, Value.int .i64 0, Value.int .i64 0, Value.int .i64 0, Value.int .i64 0, Value.int .i64 0, Value.int .i64 0, Value.int .i64 0, Value.int .i64 0, Value.int .i64 0, Value.int .i64 0, Value.int .i64 0, Value.int .i64 0, Value.int .i64 0, Value.int .i64 0, Value.int .i64 0, Value.int .i64 0, Value.int .i64 0, Value.int .i64 0, Value.int .i64 0, Value.int .i64 0, Value.int .i64 0, Value.int .i64 0, Value.int .i64 0, Value.int .i64 0] : Array Value) = finT fun _ => 0 := by rfl
  rw [hz]
  have BK0 := Aside0.mk (heap_alloc_new w1 (.cells (finT fun _ => 0) 103))
  have HB0 := Aside0.mk ((Below.refl w1.heap.size w1).alloc (Nat.le_refl _) (.cells (finT fun _ => 0) 103))
  generalize w1.alloc (.cells (finT fun _ => 0) 103) = w2 at *
  clear hz HK
  go_loopw [14] (fun i wr => ∃ (k : Nat) (t : Nat → Int), k ≤ l.length ∧ i = .int .i64 k ∧ wr.heap[w1.heap.size]? = some (.cells (finT t) 103 (0, 0)) ∧ (∀ j, 0 ≤ t j ∧ t j ≤ 26) ∧ finF t (l.drop k) (m.drop k) = finF (fun _ => 0) l m ∧ Below w1.heap.size w1 wr) (fun i _ => l.length - (intOf i).toNat)
  case atStart => exact ⟨0, _, by omega, rfl, BK0.out, fun j => ⟨by decide, by decide⟩, rfl, HB0.out⟩
  case round =>
    clear BK0 HB0
    obtain ⟨k, t, hk, rfl, hbk, ht, hfin, hb⟩ := hrel
    have BK := Aside0.mk hbk
    have HT := Aside0.mk ht
    have HB1 := Aside0.mk hb
    have HFIN := Aside0.mk hfin
    clear hbk ht hb hfin
    have hlm := HLM.out
    by_cases hlt : k < l.length
    · obtain ⟨h1, h2, h3, h4⟩ := HTL.out k hlt
      obtain ⟨g1, g2, g3, g4⟩ := HTM.out k (by omega)
      have hul := used_len _ 0 h1
      have hum := used_len _ 0 g1
      rw [List.length_take, Nat.min_eq_left (by omega)] at hul hum
      have hd1 : l.drop k = rd l k :: l.drop (k + 1) := by rw [List.drop_eq_getElem_cons hlt, rd_at l k hlt]
      have hd2 : m.drop k = rd m k :: m.drop (k + 1) := by rw [List.drop_eq_getElem_cons (by omega), rd_at m k (by omega)]
      rw [hd1, hd2, finF] at HFIN
      obtain ⟨ad, hA, hy⟩ := Kd.at_int HR.out (k : Int) (by omega) (by omega)
      obtain ⟨ae, hE, hz⟩ := Kd.at_int HS.out (k : Int) (by omega) (by omega)
      subst hA
      subst hE
      rw [Int.toNat_natCast] at hy hz
      have hy1 := pw_cell_below HB1.out (pw_cell_below HB.out hy)
      have hz1 := pw_cell_below HB1.out (pw_cell_below HB.out hz)
      have hkm : (k : Int) < (m.length : Int) := by omega
      clear h1 h4 g1 g4 hy hz hd1 hd2 hlm
      obtain ⟨a, ha⟩ := Int.eq_ofNat_of_zero_le h2
      rw [ha] at h2 h3 hy1 HFIN
      rw [Int.toNat_natCast] at HFIN
      have ha25 : a < 25 := by omega
      generalize usedF 0 (l.take k) = u1 at *
      generalize usedF 0 (m.take k) = u2 at *
      generalize rd m (k : Int) = y at *
      have hx := (blk_cell BK.out a).trans (finT_get t a ha25)
      have hf := blk_frozen BK.out a
      obtain ⟨hta, htb⟩ := HT.out a
      have HU : Aside0 (∀ j, 0 ≤ finU t a (y + 1) j ∧ finU t a (y + 1) j ≤ 26) := by
        refine ⟨fun j => ?_⟩
        unfold finU
        split
        · omega
        · exact HT.out j
      generalize hv : t a = v at *
      clear hv
      by_cases hc : v ≠ 0 ∧ v ≠ y + 1
      · rw [if_pos hc] at HFIN
        have q1 : (v != 0) = true := bne_iff_ne.2 hc.1
        have q2 : (v != y + 1) = true := bne_iff_ne.2 hc.2
        have q3 : decide (v = 0) = false := decide_eq_false hc.1
        have q4 : decide (v = y + 1) = false := decide_eq_false hc.2
        go_wp2
        go_quiet (fail)
        go_wp2
        go_ret
        rw [← HFIN.out]
        exact ⟨rfl, below_then HB.out HB.out.size (pw_below_drewN HB1.out _)⟩
      · rw [if_neg hc] at HFIN
        rcases (show v = 0 ∨ v = y + 1 by omega) with rfl | rfl
        · clear hc
          go_wp2
          go_quiet (fail)
          go_wp2
          go_roundw
          case rel => exact ⟨k + 1, finU t a (y + 1), by omega, by go_num, finT_put BK.out, HU.out, HFIN.out, (pw_below_drewN HB1.out _).setCell (Nat.le_refl _) _⟩
          case measure => simp [intOf]; omega
        · clear hc
          have q1 : (y + 1 != 0) = true := bne_iff_ne.2 (by omega)
          have q3 : decide (y + 1 = 0) = false := decide_eq_false (by omega)
          go_wp2
          go_quiet (fail)
          go_wp2
          go_roundw
          case rel => exact ⟨k + 1, finU t a (y + 1), by omega, by go_num, finT_put BK.out, HU.out, HFIN.out, (pw_below_drewN HB1.out _).setCell (Nat.le_refl _) _⟩
          case measure => simp [intOf]; omega
    · obtain rfl : k = l.length := by omega
      go_wp2
      go_ret
      rw [← HFIN.out, List.drop_length]
      exact ⟨rfl, below_then HB.out HB.out.size HB1.out⟩
theorem part_Finer.bad (A0 : Option Addr) (c0 : Nat) (l : List Int) (A1 : Option Addr) (c1 : Nat) (m : List Int) (w : World) (hr0 : Kd.C (Kd.int .i64) w A0 l.length l) (hc0 : l.length ≤ c0) (hr1 : Kd.C (Kd.int .i64) w A1 m.length m) (hc1 : m.length ≤ c1) (kk : Nat) (hk : part_pair.f kk l m = some false) :
    Calls Try.prog 37 #[.slice A0 l.length c0, .slice A1 m.length c1] w fun e w' => e = .returned (.bool false) ∧ Below w.heap.size w w' := by
  have HK := Aside0.mk hk
  have HR := Aside0.mk hr0
  have HC0 := Aside0.mk hc0
  have HS := Aside0.mk hr1
  have HC1 := Aside0.mk hc1
  clear hr0 hc0 hr1 hc1 hk
  go_enter Try.func37, Try.ntmps37
  go_wp2_with (go_at_call 75; (with_reducible refine (part_pair.calls kk A0 c0 l A1 c1 m false _ HR.out HC0.out HS.out HC1.out HK.out).mono ?_); rintro e w1 ⟨rfl, hw⟩; have HB := Aside0.mk hw; clear hw)
  go_ret
  exact ⟨rfl, HB.out⟩
/-- two patterns of one length -/
def pairF (l m : List Int) : Bool := (decide (l.length ≤ 25) && legalF 0 l) && (decide (m.length ≤ 25) && legalF 0 m) && decide (l.length = m.length)
theorem pair_ev (l m : List Int) : Ev (fun k => part_pair.f k l m) (pairF l m) := by
  unfold part_pair.f
  refine Ev.bind (legal_ev l) ?_
  unfold pairF
  by_cases h1 : (decide (l.length ≤ 25) && legalF 0 l) = true
  · rw [h1]
    refine ev_pos rfl (Ev.bind (legal_ev m) ?_)
    by_cases h2 : (decide (m.length ≤ 25) && legalF 0 m) = true
    · rw [h2]
      refine ev_pos rfl (ev_some ?_)
      rw [Bool.eq_iff_iff]; simp; omega
    · rw [Bool.eq_false_iff.mpr h2]
      exact ev_neg (by decide) (ev_some rfl)
  · rw [Bool.eq_false_iff.mpr h1]
    exact ev_neg (by decide) (ev_some rfl)
def part_Finer.f (l m : List Int) : Option Bool := if pairF l m = true then some (finF (fun _ => 0) l m) else some false
theorem part_Finer.calls (A0 : Option Addr) (c0 : Nat) (l0 : List Int) (A1 : Option Addr) (c1 : Nat) (l1 : List Int) (r : Bool) (w : World) (hr0 : Kd.C (Kd.int .i64) w A0 l0.length l0) (hc0 : l0.length ≤ c0) (hr1 : Kd.C (Kd.int .i64) w A1 l1.length l1) (hc1 : l1.length ≤ c1) (h : part_Finer.f l0 l1 = some r) :
    Calls Try.prog 37 #[.slice A0 l0.length c0, .slice A1 l1.length c1] w fun e w' => e = .returned (.bool r) ∧ Below w.heap.size w w' := by
  unfold part_Finer.f at h
  obtain ⟨kk, hk⟩ := Ev.rounds (pair_ev l0 l1)
  split at h
  next hl =>
    injection h with h; subst h
    rw [hl] at hk
    simp only [pairF, Bool.and_eq_true, decide_eq_true_eq] at hl
    exact part_Finer.good A0 c0 l0 A1 c1 l1 w hr0 hc0 hr1 hc1 hl.1.1.1 hl.1.1.2 hl.1.2.2 hl.2 kk hk
  next hl =>
    injection h with h; subst h
    rw [Bool.eq_false_iff.mpr hl] at hk
    exact part_Finer.bad A0 c0 l0 A1 c1 l1 w hr0 hc0 hr1 hc1 kk hk
end


end Go.Proofs.Ytpcnpmcknknfcaa.PPbo
