/- A text written by my program wip/gen/p2.py out of the translation and of my foreign texts; not trusted: Lean checks it. -/
import Derived.Test.YthdkmohgphbdeaaPRulex0
import Derived.Test.YthdkmohgphbdeaaPRulex1
import Derived.Test.YthdkmohgphbdeaaPRulex2
import Derived.Test.YthdkmohgphbdeaaPRulex3
namespace Go.Proofs.Ythdkmohgphbdeaa.PRule
open Go.RowKit Go.Proofs.YthdkmohgphbdeaaW.PrintWords Go.Proofs.YthdkmohgphbdeaaW.PrintLast Go.Proofs.YthdkmohgphbdeaaW.PrintMore
attribute [local go_sem] max2_int min2_int max_two min_two max_three min_three max_four min_four   -- for this text's walks alone
set_option linter.unusedVariables false
set_option linter.unusedSimpArgs false

/-! ### rule_Early: function 22 -/
def rule_Early.f (k : Nat) (a0_0 : Int) (a0_1 : Int) (l0_2 : List Int) (a1 : Int) (l2 : List Int) : Option (Bool) := (rule_Check.f k a1 a0_0 a0_1 l0_2).bind fun t284 => (if t284 = 0 then (if (l2.length : Int) ≤ a1 then ((rule_keeps.f a0_0 a0_1 l0_2 l2).bind fun t285 => (some t285)) else (some false)) else (some false))
theorem rule_Early.mono : ∀ a0 a1 a2 a3 a4 k, LeO (rule_Early.f k a0 a1 a2 a3 a4) (rule_Early.f (k + 1) a0 a1 a2 a3 a4) := by
  intro a0 a1 a2 a3 a4 k
  unfold rule_Early.f
  repeat' first
      | (with_reducible exact rule_Check.mono _ _ _ _ _)
      | (with_reducible exact LeO.refl _)
      | (with_reducible exact LeO.none _)
      | (with_reducible refine LeO.ite ?_ ?_)
      | (with_reducible refine LeO.bind ?_ (fun _ => ?_))
      | exact rule_Check.mono _ _ _ _ _
      | exact LeO.none _
      | refine LeO.ite ?_ ?_
      | refine LeO.bind ?_ (fun _ => ?_)
set_option maxHeartbeats 8000000 in
set_option maxRecDepth 100000 in
theorem rule_Early.calls (k : Nat) (a0_0 : Int) (a0_1 : Int) (A0_2 : Option Addr) (c0_2 : Nat) (l0_2 : List Int) (a1 : Int) (A2 : Option Addr) (c2 : Nat) (l2 : List Int) (r : Bool) (w : World) (hr0_2 : Kd.C (Kd.int .i64) w A0_2 l0_2.length l0_2) (hc0_2 : l0_2.length ≤ c0_2) (hr2 : Kd.C (Kd.int .i64) w A2 l2.length l2) (hc2 : l2.length ≤ c2) (h : rule_Early.f k a0_0 a0_1 l0_2 a1 l2 = some r) :
    Calls Try.prog 22 #[.agg #[.int .i64 a0_0, .int .i64 a0_1, .slice A0_2 l0_2.length c0_2], .int .i64 a1, .slice A2 l2.length c2] w fun e w' => e = .returned (.bool r) ∧ Below w.heap.size w w' := by
  have hu55 := Try.underlying55
  have HR0_2 := Aside0.mk hr0_2
  have HC0_2 := Aside0.mk hc0_2
  clear hr0_2 hc0_2
  have HR2 := Aside0.mk hr2
  have HC2 := Aside0.mk hc2
  clear hr2 hc2
  have HB := Aside0.mk (Below.refl w.heap.size w)
  have H : ((rule_Check.f k a1 a0_0 a0_1 l0_2).bind fun t284 => (if t284 = 0 then (if (l2.length : Int) ≤ a1 then ((rule_keeps.f a0_0 a0_1 l0_2 l2).bind fun t285 => (some t285)) else (some false)) else (some false))) = some r := h
  clear h
  replace H := Option.bind_eq_some_iff.mp H
  obtain ⟨t284, A40, H⟩ := H
  replace H : (if t284 = 0 then (if (l2.length : Int) ≤ a1 then ((rule_keeps.f a0_0 a0_1 l0_2 l2).bind fun t285 => (some t285)) else (some false)) else (some false)) = some r := H
  have A4 := Aside0.mk A40
  clear A40
  by_cases c5 : t284 = 0
  · rw [if_pos c5] at H
    have c5b0 : (t284 == 0) = true := beq_iff_eq.mpr c5
    have c5b1 : (t284 != 0) = false := bne_eq_false_iff_eq.mpr c5
    clear c5
    by_cases c6 : (l2.length : Int) ≤ a1
    · rw [if_pos c6] at H
      have c6b0 : decide ((l2.length : Int) ≤ a1) = true := decide_eq_true c6
      clear c6
      replace H := Option.bind_eq_some_iff.mp H
      obtain ⟨t285, A70, H⟩ := H
      replace H : (some t285) = some r := H
      have A7 := Aside0.mk A70
      clear A70
      obtain rfl := Option.some.inj H
      go_enter Try.func22, Try.ntmps22
      go_wp2_with (first | ((with_reducible refine gate_dst (N := 3) rfl ?_); (try (refine gate_guard (by rfl) ?_; dsimp only)); refine box_event ?hg (N := 3) ?hd (cs := #[.int .i64 a0_0, .int .i64 a0_1, .slice A0_2 l0_2.length c0_2]) (t := 55) ?hr ?_; (case hd => rfl); (case hg => rfl); (case hr => first | (go_simp; done) | (go_simp; rfl)); intro gb283 hg w8 hbox hb; have n0_ := Aside0.mk (below_step (by repeat (first | (with_reducible first | exact HB.out | apply below_alloc | apply pw_below_drewN | apply below_drew1) | exact HB.out)) hb); have n1_ := Aside0.mk (hbox); have n2_ := Aside0.mk ((by rw [hg]; exact (below_size (by repeat (first | (with_reducible first | exact HB.out | apply below_alloc | apply pw_below_drewN | apply below_drew1) | exact HB.out))) : w.heap.size ≤ gb283)); have n3_ := Aside0.mk ((by rw [hg]; exact (below_size (by repeat (first | (with_reducible first | exact HB.out | apply below_alloc | apply pw_below_drewN | apply below_drew1) | exact HB.out))) : w.heap.size ≤ gb283)); clear HB; have HB := n0_; have BK283 := n1_; have GW283 := n2_; have GE283 := n3_; clear n0_ n1_ n2_ n3_; clear hb hbox hg; have hcz9_0 : w8.cell? ⟨gb283, 0, none⟩ = some (.int .i64 a0_0) := (blk_cell BK283.out 0).trans rfl; have hcz9_1 : w8.cell? ⟨gb283, 1, none⟩ = some (.int .i64 a0_1) := (blk_cell BK283.out 1).trans rfl; have hcz9_2 : w8.cell? ⟨gb283, 2, none⟩ = some (.slice A0_2 l0_2.length c0_2) := (blk_cell BK283.out 2).trans rfl; have hfz9_0 := blk_frozen BK283.out 0; have hfz9_1 := blk_frozen BK283.out 1; have hfz9_2 := blk_frozen BK283.out 2) | ((with_reducible refine gate_callee (f := 23) rfl ?_); refine goesL_ (some 9) rfl rfl Try.func23 (by kernel_rfl) rfl #[.int .i64 a1, .agg #[.int .i64 a0_0, .int .i64 a0_1, .slice A0_2 l0_2.length c0_2]] rfl (by (try simp only [List.map_toArray, List.map_cons, List.map_nil]); first | done | rfl | (simp only [List.length_drop, List.length_take]; rfl)) ?_; (with_reducible refine (rule_Check.calls k a1 a0_0 a0_1 _ _ l0_2 t284 _ ?side1 ?side2 A4.out).mono ?_); (case side1 => repeat (first | exact (Kd.C_below HR0_2.out HB.out) | (with_reducible refine Kd.C_alloc ?_ _) | (with_reducible refine Kd.C_drewN ?_ _) | (with_reducible refine Kd.C_drew ?_))); (case side2 => exact HC0_2.out); rintro e w10 ⟨rfl, hb⟩; refine ⟨_, rfl, ?_⟩; have n0_ := Aside0.mk (blk_below (g := gb283) (o := .cells #[.int .i64 a0_0, .int .i64 a0_1, .slice A0_2 l0_2.length c0_2] 55 (0, 0)) (by (with_reducible repeat (first | refine blk_drewN ?_ _ | refine blk_drew ?_ | refine blk_alloc ?_ _)); exact BK283.out) hb); have n1_ := Aside0.mk (below_step (by repeat (first | (with_reducible first | exact HB.out | apply below_alloc | apply pw_below_drewN | apply below_drew1 | refine below_set ?_ GE283.out) | exact HB.out)) hb); clear BK283; clear HB; have BK283 := n0_; have HB := n1_; clear n0_ n1_; (try clear hb); (try clear hb2); (try clear hk); (try clear hi); have hcz11_0 : w10.cell? ⟨gb283, 0, none⟩ = some (.int .i64 a0_0) := (blk_cell BK283.out 0).trans rfl; have hcz11_1 : w10.cell? ⟨gb283, 1, none⟩ = some (.int .i64 a0_1) := (blk_cell BK283.out 1).trans rfl; have hcz11_2 : w10.cell? ⟨gb283, 2, none⟩ = some (.slice A0_2 l0_2.length c0_2) := (blk_cell BK283.out 2).trans rfl; have hfz11_0 := blk_frozen BK283.out 0; have hfz11_1 := blk_frozen BK283.out 1; have hfz11_2 := blk_frozen BK283.out 2) | (go_at_call 43; (with_reducible refine (rule_keeps.calls a0_0 a0_1 _ _ l0_2 _ _ l2 t285 _ ?side1 ?side2 ?side3 ?side4 A7.out).mono ?_); (case side1 => repeat (first | exact (Kd.C_below HR0_2.out HB.out) | (with_reducible refine Kd.C_alloc ?_ _) | (with_reducible refine Kd.C_drewN ?_ _) | (with_reducible refine Kd.C_drew ?_))); (case side2 => exact HC0_2.out); (case side3 => repeat (first | exact (Kd.C_below HR2.out HB.out) | (with_reducible refine Kd.C_alloc ?_ _) | (with_reducible refine Kd.C_drewN ?_ _) | (with_reducible refine Kd.C_drew ?_))); (case side4 => exact HC2.out); rintro e w12 ⟨rfl, hb⟩; have n0_ := Aside0.mk (blk_below (g := gb283) (o := .cells #[.int .i64 a0_0, .int .i64 a0_1, .slice A0_2 l0_2.length c0_2] 55 (0, 0)) (by (with_reducible repeat (first | refine blk_drewN ?_ _ | refine blk_drew ?_ | refine blk_alloc ?_ _)); exact BK283.out) hb); have n1_ := Aside0.mk (below_step (by repeat (first | (with_reducible first | exact HB.out | apply below_alloc | apply pw_below_drewN | apply below_drew1 | refine below_set ?_ GE283.out) | exact HB.out)) hb); clear BK283; clear HB; have BK283 := n0_; have HB := n1_; clear n0_ n1_; (try clear hb); (try clear hb2); (try clear hk); (try clear hi)))
      go_ret
      exact ⟨by first | rfl | (simp [errW_none, errW_some] <;> rfl) | (simp [*, errW_none, errW_some] <;> rfl), by repeat (first | (with_reducible first | exact HB.out | apply below_alloc | apply pw_below_drewN | apply below_drew1 | refine below_set ?_ GE283.out) | exact HB.out)⟩
    · rw [if_neg c6] at H
      have c6b0 : decide ((l2.length : Int) ≤ a1) = false := decide_eq_false c6
      clear c6
      obtain rfl := Option.some.inj H
      go_enter Try.func22, Try.ntmps22
      go_wp2_with (first | ((with_reducible refine gate_dst (N := 3) rfl ?_); (try (refine gate_guard (by rfl) ?_; dsimp only)); refine box_event ?hg (N := 3) ?hd (cs := #[.int .i64 a0_0, .int .i64 a0_1, .slice A0_2 l0_2.length c0_2]) (t := 55) ?hr ?_; (case hd => rfl); (case hg => rfl); (case hr => first | (go_simp; done) | (go_simp; rfl)); intro gb283 hg w13 hbox hb; have n0_ := Aside0.mk (below_step (by repeat (first | (with_reducible first | exact HB.out | apply below_alloc | apply pw_below_drewN | apply below_drew1) | exact HB.out)) hb); have n1_ := Aside0.mk (hbox); have n2_ := Aside0.mk ((by rw [hg]; exact (below_size (by repeat (first | (with_reducible first | exact HB.out | apply below_alloc | apply pw_below_drewN | apply below_drew1) | exact HB.out))) : w.heap.size ≤ gb283)); have n3_ := Aside0.mk ((by rw [hg]; exact (below_size (by repeat (first | (with_reducible first | exact HB.out | apply below_alloc | apply pw_below_drewN | apply below_drew1) | exact HB.out))) : w.heap.size ≤ gb283)); clear HB; have HB := n0_; have BK283 := n1_; have GW283 := n2_; have GE283 := n3_; clear n0_ n1_ n2_ n3_; clear hb hbox hg; have hcz14_0 : w13.cell? ⟨gb283, 0, none⟩ = some (.int .i64 a0_0) := (blk_cell BK283.out 0).trans rfl; have hcz14_1 : w13.cell? ⟨gb283, 1, none⟩ = some (.int .i64 a0_1) := (blk_cell BK283.out 1).trans rfl; have hcz14_2 : w13.cell? ⟨gb283, 2, none⟩ = some (.slice A0_2 l0_2.length c0_2) := (blk_cell BK283.out 2).trans rfl; have hfz14_0 := blk_frozen BK283.out 0; have hfz14_1 := blk_frozen BK283.out 1; have hfz14_2 := blk_frozen BK283.out 2) | ((with_reducible refine gate_callee (f := 23) rfl ?_); refine goesL_ (some 9) rfl rfl Try.func23 (by kernel_rfl) rfl #[.int .i64 a1, .agg #[.int .i64 a0_0, .int .i64 a0_1, .slice A0_2 l0_2.length c0_2]] rfl (by (try simp only [List.map_toArray, List.map_cons, List.map_nil]); first | done | rfl | (simp only [List.length_drop, List.length_take]; rfl)) ?_; (with_reducible refine (rule_Check.calls k a1 a0_0 a0_1 _ _ l0_2 t284 _ ?side1 ?side2 A4.out).mono ?_); (case side1 => repeat (first | exact (Kd.C_below HR0_2.out HB.out) | (with_reducible refine Kd.C_alloc ?_ _) | (with_reducible refine Kd.C_drewN ?_ _) | (with_reducible refine Kd.C_drew ?_))); (case side2 => exact HC0_2.out); rintro e w15 ⟨rfl, hb⟩; refine ⟨_, rfl, ?_⟩; have n0_ := Aside0.mk (blk_below (g := gb283) (o := .cells #[.int .i64 a0_0, .int .i64 a0_1, .slice A0_2 l0_2.length c0_2] 55 (0, 0)) (by (with_reducible repeat (first | refine blk_drewN ?_ _ | refine blk_drew ?_ | refine blk_alloc ?_ _)); exact BK283.out) hb); have n1_ := Aside0.mk (below_step (by repeat (first | (with_reducible first | exact HB.out | apply below_alloc | apply pw_below_drewN | apply below_drew1 | refine below_set ?_ GE283.out) | exact HB.out)) hb); clear BK283; clear HB; have BK283 := n0_; have HB := n1_; clear n0_ n1_; (try clear hb); (try clear hb2); (try clear hk); (try clear hi)))
      go_ret
      exact ⟨by first | rfl | (simp [errW_none, errW_some] <;> rfl) | (simp [*, errW_none, errW_some] <;> rfl), by repeat (first | (with_reducible first | exact HB.out | apply below_alloc | apply pw_below_drewN | apply below_drew1 | refine below_set ?_ GE283.out) | exact HB.out)⟩
  · rw [if_neg c5] at H
    have c5b0 : (t284 == 0) = false := beq_eq_false_iff_ne.mpr c5
    have c5b1 : (t284 != 0) = true := bne_iff_ne.mpr c5
    obtain rfl := Option.some.inj H
    go_enter Try.func22, Try.ntmps22
    go_wp2_with (first | ((with_reducible refine gate_dst (N := 3) rfl ?_); (try (refine gate_guard (by rfl) ?_; dsimp only)); refine box_event ?hg (N := 3) ?hd (cs := #[.int .i64 a0_0, .int .i64 a0_1, .slice A0_2 l0_2.length c0_2]) (t := 55) ?hr ?_; (case hd => rfl); (case hg => rfl); (case hr => first | (go_simp; done) | (go_simp; rfl)); intro gb283 hg w16 hbox hb; have n0_ := Aside0.mk (below_step (by repeat (first | (with_reducible first | exact HB.out | apply below_alloc | apply pw_below_drewN | apply below_drew1) | exact HB.out)) hb); have n1_ := Aside0.mk (hbox); have n2_ := Aside0.mk ((by rw [hg]; exact (below_size (by repeat (first | (with_reducible first | exact HB.out | apply below_alloc | apply pw_below_drewN | apply below_drew1) | exact HB.out))) : w.heap.size ≤ gb283)); have n3_ := Aside0.mk ((by rw [hg]; exact (below_size (by repeat (first | (with_reducible first | exact HB.out | apply below_alloc | apply pw_below_drewN | apply below_drew1) | exact HB.out))) : w.heap.size ≤ gb283)); clear HB; have HB := n0_; have BK283 := n1_; have GW283 := n2_; have GE283 := n3_; clear n0_ n1_ n2_ n3_; clear hb hbox hg; have hcz17_0 : w16.cell? ⟨gb283, 0, none⟩ = some (.int .i64 a0_0) := (blk_cell BK283.out 0).trans rfl; have hcz17_1 : w16.cell? ⟨gb283, 1, none⟩ = some (.int .i64 a0_1) := (blk_cell BK283.out 1).trans rfl; have hcz17_2 : w16.cell? ⟨gb283, 2, none⟩ = some (.slice A0_2 l0_2.length c0_2) := (blk_cell BK283.out 2).trans rfl; have hfz17_0 := blk_frozen BK283.out 0; have hfz17_1 := blk_frozen BK283.out 1; have hfz17_2 := blk_frozen BK283.out 2) | ((with_reducible refine gate_callee (f := 23) rfl ?_); refine goesL_ (some 9) rfl rfl Try.func23 (by kernel_rfl) rfl #[.int .i64 a1, .agg #[.int .i64 a0_0, .int .i64 a0_1, .slice A0_2 l0_2.length c0_2]] rfl (by (try simp only [List.map_toArray, List.map_cons, List.map_nil]); first | done | rfl | (simp only [List.length_drop, List.length_take]; rfl)) ?_; (with_reducible refine (rule_Check.calls k a1 a0_0 a0_1 _ _ l0_2 t284 _ ?side1 ?side2 A4.out).mono ?_); (case side1 => repeat (first | exact (Kd.C_below HR0_2.out HB.out) | (with_reducible refine Kd.C_alloc ?_ _) | (with_reducible refine Kd.C_drewN ?_ _) | (with_reducible refine Kd.C_drew ?_))); (case side2 => exact HC0_2.out); rintro e w18 ⟨rfl, hb⟩; refine ⟨_, rfl, ?_⟩; have n0_ := Aside0.mk (blk_below (g := gb283) (o := .cells #[.int .i64 a0_0, .int .i64 a0_1, .slice A0_2 l0_2.length c0_2] 55 (0, 0)) (by (with_reducible repeat (first | refine blk_drewN ?_ _ | refine blk_drew ?_ | refine blk_alloc ?_ _)); exact BK283.out) hb); have n1_ := Aside0.mk (below_step (by repeat (first | (with_reducible first | exact HB.out | apply below_alloc | apply pw_below_drewN | apply below_drew1 | refine below_set ?_ GE283.out) | exact HB.out)) hb); clear BK283; clear HB; have BK283 := n0_; have HB := n1_; clear n0_ n1_; (try clear hb); (try clear hb2); (try clear hk); (try clear hi)))
    go_ret
    exact ⟨by first | rfl | (simp [errW_none, errW_some] <;> rfl) | (simp [*, errW_none, errW_some] <;> rfl), by repeat (first | (with_reducible first | exact HB.out | apply below_alloc | apply pw_below_drewN | apply below_drew1 | refine below_set ?_ GE283.out) | exact HB.out)⟩

/-! ### provostlaw06_other: function 24 -/
mutual
def provostlaw06_other.l0 : Nat → List Int → Int → Option (Int)
  | 0, _, _ => none
  | k + 1, x0, x3 => provostlaw06_other.l1 k x0 x3 true 0
def provostlaw06_other.l1 : Nat → List Int → Int → Bool → Int → Option (Int)
  | 0, _, _, _, _ => none
  | k + 1, x0, x3, x4, x5 => if x5 < (x0.length : Int) then (if x4 = true then (if 0 ≤ x5 then (provostlaw06_other.l1 k x0 x3 ((rd x0 x5) != x3) (wrap64 (x5 + 1))) else (none)) else (provostlaw06_other.l1 k x0 x3 false (wrap64 (x5 + 1)))) else (if x4 = true then (some x3) else (provostlaw06_other.l0 k x0 (wrap64 (x3 + 1))))
end
def provostlaw06_other.f (k : Nat) (l0 : List Int) : Option (Int) := provostlaw06_other.l0 k l0 0
theorem provostlaw06_other.mono_l : ∀ k, (∀ y0 y1, LeO (provostlaw06_other.l0 k y0 y1) (provostlaw06_other.l0 (k + 1) y0 y1)) ∧ (∀ y0 y1 y2 y3, LeO (provostlaw06_other.l1 k y0 y1 y2 y3) (provostlaw06_other.l1 (k + 1) y0 y1 y2 y3))
  | 0 => ⟨fun _ _ r h => by simp [provostlaw06_other.l0] at h, fun _ _ _ _ r h => by simp [provostlaw06_other.l1] at h⟩
  | k + 1 => by
    obtain ⟨ih0, ih1⟩ := provostlaw06_other.mono_l k
    refine ⟨?_, ?_⟩
    · intro y0 y1
      unfold provostlaw06_other.l0
      repeat' first
      | (with_reducible exact ih0 _ _)
      | (with_reducible exact ih1 _ _ _ _)
      | (with_reducible exact LeO.refl _)
      | (with_reducible exact LeO.none _)
      | (with_reducible refine LeO.ite ?_ ?_)
      | (with_reducible refine LeO.bind ?_ (fun _ => ?_))
      | exact ih0 _ _
      | exact ih1 _ _ _ _
      | exact LeO.none _
      | refine LeO.ite ?_ ?_
      | refine LeO.bind ?_ (fun _ => ?_)
    · intro y0 y1 y2 y3
      unfold provostlaw06_other.l1
      repeat' first
      | (with_reducible exact ih0 _ _)
      | (with_reducible exact ih1 _ _ _ _)
      | (with_reducible exact LeO.refl _)
      | (with_reducible exact LeO.none _)
      | (with_reducible refine LeO.ite ?_ ?_)
      | (with_reducible refine LeO.bind ?_ (fun _ => ?_))
      | exact ih0 _ _
      | exact ih1 _ _ _ _
      | exact LeO.none _
      | refine LeO.ite ?_ ?_
      | refine LeO.bind ?_ (fun _ => ?_)
theorem provostlaw06_other.mono : ∀ a0 k, LeO (provostlaw06_other.f k a0) (provostlaw06_other.f (k + 1) a0) := by
  intro a0 k
  obtain ⟨ih0, ih1⟩ := provostlaw06_other.mono_l k
  unfold provostlaw06_other.f
  repeat' first
      | (with_reducible exact ih0 _ _)
      | (with_reducible exact ih1 _ _ _ _)
      | (with_reducible exact LeO.refl _)
      | (with_reducible exact LeO.none _)
      | (with_reducible refine LeO.ite ?_ ?_)
      | (with_reducible refine LeO.bind ?_ (fun _ => ?_))
      | exact ih0 _ _
      | exact ih1 _ _ _ _
      | exact LeO.none _
      | refine LeO.ite ?_ ?_
      | refine LeO.bind ?_ (fun _ => ?_)
set_option maxHeartbeats 8000000 in
set_option maxRecDepth 100000 in
theorem provostlaw06_other.calls (k : Nat) (A0 : Option Addr) (c0 : Nat) (l0 : List Int) (r : Int) (w : World) (hr0 : Kd.C (Kd.int .i64) w A0 l0.length l0) (hc0 : l0.length ≤ c0) (h : provostlaw06_other.f k l0 = some r) :
    Calls Try.prog 24 #[.slice A0 l0.length c0] w fun e w' => e = .returned (.int .i64 r) ∧ Drawn0 w w' := by
  have HR0 := Aside0.mk hr0
  have HC0 := Aside0.mk hc0
  clear hr0 hc0
  have H : (provostlaw06_other.l0 k l0 0) = some r := h
  clear h
  have H' := Aside0.mk H
  clear H
  go_enter Try.func24, Try.ntmps24
  go_wp2
  go_loopg [3] k (fun kq v3 w' => ∃ (x3_1 : Int), v3 = .int .i64 x3_1 ∧ Aside0 (provostlaw06_other.l0 kq l0 x3_1 = some r) ∧ Aside0 (kq ≤ k) ∧ Drawn0 w w')
  case atStart => exact ⟨(0), (by first | rfl | (simp; done) | (simp [*]; done)), H', ⟨Nat.le_refl _⟩, by repeat (first | exact Drawn0.refl _ | apply Drawn0.step)⟩
  case round =>
    clear H'
    obtain ⟨x3_1, rfl, HA, HK1, ⟨m1, rfl⟩⟩ := hrel
    cases gk with
    | zero => exact absurd HA.out (by simp [provostlaw06_other.l0])
    | succ k1 =>
      have H := HA.out
      clear HA
      simp only [provostlaw06_other.l0] at H
      have H' := Aside0.mk H
      clear H
      go_wp2
      go_loopg [4, 5] k1 (fun kq v4 v5 w' => ∃ (x4_2 : Bool) (x5_2 : Int), v4 = .bool x4_2 ∧ v5 = .int .i64 x5_2 ∧ Aside0 (provostlaw06_other.l1 kq l0 x3_1 x4_2 x5_2 = some r) ∧ Aside0 (kq ≤ k1) ∧ Drawn0 w w')
      case atStart => exact ⟨(true), (0), (by first | rfl | (simp; done) | (simp [*]; done)), (by first | rfl | (simp; done) | (simp [*]; done)), H', ⟨Nat.le_refl _⟩, by repeat (first | exact Drawn0.refl _ | apply Drawn0.step)⟩
      case round =>
        clear H'
        obtain ⟨x4_2, x5_2, rfl, rfl, HA, HK2, ⟨m2, rfl⟩⟩ := hrel
        cases gk with
        | zero => exact absurd HA.out (by simp [provostlaw06_other.l1])
        | succ k2 =>
          have H := HA.out
          clear HA
          simp only [provostlaw06_other.l1] at H
          by_cases c2 : x5_2 < (l0.length : Int)
          · rw [if_pos c2] at H
            have c2b0 : decide (x5_2 < (l0.length : Int)) = true := decide_eq_true c2
            clear c2
            by_cases c3 : x4_2 = true
            · subst c3
              have H1 : (if 0 ≤ x5_2 then (provostlaw06_other.l1 k2 l0 x3_1 ((rd l0 x5_2) != x3_1) (wrap64 (x5_2 + 1))) else (none)) = some r := by rw [if_pos rfl] at H; exact H
              clear H
              have H := H1
              clear H1
              by_cases c4 : 0 ≤ x5_2
              · rw [if_pos c4] at H
                have c4b0 : decide (0 ≤ x5_2) = true := decide_eq_true c4
                clear c4
                have H' := Aside0.mk H
                clear H
                have p286 : 0 ≤ (x5_2 : Int) := of_decide_eq_true (by first | (with_reducible assumption) | assumption)
                have q286 : x5_2 < (l0.length : Int) := of_decide_eq_true (by first | (with_reducible assumption) | assumption)
                obtain ⟨ad286, e286, hx286_0⟩ := Kd.at_int HR0.out x5_2 p286 q286
                cases e286
                replace p286 := eq_true p286
                replace q286 := eq_true q286
                go_wp2
                go_roundg k2
                case measure => have := HK1.out; have := HK2.out; omega
                case rel => exact ⟨(((rd l0 x5_2) != x3_1)), (wrap64 (x5_2 + 1)), (by first | rfl | (simp; done) | (simp [*]; done)), (by first | rfl | (simp; done) | (simp [*]; done)), H', ⟨by have := HK1.out; have := HK2.out; omega⟩, by repeat (first | exact Drawn0.refl _ | apply Drawn0.step)⟩
              · rw [if_neg c4] at H
                exact absurd H (by simp)
            · replace c3 := Bool.eq_false_iff.mpr c3
              subst c3
              have H1 : (provostlaw06_other.l1 k2 l0 x3_1 false (wrap64 (x5_2 + 1))) = some r := by rw [if_neg (show ¬ (false = true) by decide)] at H; exact H
              clear H
              have H := H1
              clear H1
              have H' := Aside0.mk H
              clear H
              go_wp2
              go_roundg k2
              case measure => have := HK1.out; have := HK2.out; omega
              case rel => exact ⟨(false), (wrap64 (x5_2 + 1)), (by first | rfl | (simp; done) | (simp [*]; done)), (by first | rfl | (simp; done) | (simp [*]; done)), H', ⟨by have := HK1.out; have := HK2.out; omega⟩, by repeat (first | exact Drawn0.refl _ | apply Drawn0.step)⟩
          · rw [if_neg c2] at H
            have c2b0 : decide (x5_2 < (l0.length : Int)) = false := decide_eq_false c2
            clear c2
            by_cases c5 : x4_2 = true
            · subst c5
              have H1 : (some x3_1) = some r := by rw [if_pos rfl] at H; exact H
              clear H
              have H := H1
              clear H1
              obtain rfl := Option.some.inj H
              go_wp2
              go_ret
              exact ⟨by first | rfl | (simp; done) | (simp [*]; done), by repeat (first | exact Drawn0.refl _ | apply Drawn0.step)⟩
            · replace c5 := Bool.eq_false_iff.mpr c5
              subst c5
              have H1 : (provostlaw06_other.l0 k2 l0 (wrap64 (x3_1 + 1))) = some r := by rw [if_neg (show ¬ (false = true) by decide)] at H; exact H
              clear H
              have H := H1
              clear H1
              have H' := Aside0.mk H
              clear H
              go_wp2
              go_roundg k2
              case measure => have := HK1.out; have := HK2.out; omega
              case rel => exact ⟨(wrap64 (x3_1 + 1)), (by first | rfl | (simp; done) | (simp [*]; done)), H', ⟨by have := HK1.out; have := HK2.out; omega⟩, by repeat (first | exact Drawn0.refl _ | apply Drawn0.step)⟩

/-! ### provostlaw06_RuleEarly: function 8 -/
mutual
def provostlaw06_RuleEarly.j0 : Nat → List (S55) → List Int → Int → Bool → Option (Bool)
  | 0, _, _, _, _ => none
  | k + 1, x3, x4, x5, x28 => if x28 = true then (provostlaw06_RuleEarly.l0 k x3 x4 x5 0) else (if (x4.length : Int) > x5 then (if 0 ≤ x5 then (if x5 ≤ (x4.length : Int) then (provostlaw06_RuleEarly.j2 k x3 (x4.take (x5 : Int).toNat) x5) else (none)) else (none)) else (provostlaw06_RuleEarly.j2 k x3 x4 x5))
def provostlaw06_RuleEarly.l0 : Nat → List (S55) → List Int → Int → Int → Option (Bool)
  | 0, _, _, _, _ => none
  | k + 1, x3, x4, x5, x6 => if x6 < (x3.length : Int) then (if 0 ≤ x6 then ((provostlaw06_row.f x4).bind fun t296 => ((rule_Early.f k ((rd_T55 x3 x6).f0) ((rd_T55 x3 x6).f1) ((rd_T55 x3 x6).f2) x5 t296).bind fun t299 => (if t299 = true then (some false) else (provostlaw06_RuleEarly.l0 k x3 x4 x5 (wrap64 (x6 + 1)))))) else (none)) else ((provostlaw06_wakes.f k).bind fun t300 => (some t300))
def provostlaw06_RuleEarly.j2 : Nat → List (S55) → List Int → Int → Option (Bool)
  | 0, _, _, _ => none
  | k + 1, x3, x4, x5 => provostlaw06_RuleEarly.l1 k x3 x4 x5 0
def provostlaw06_RuleEarly.l1 : Nat → List (S55) → List Int → Int → Int → Option (Bool)
  | 0, _, _, _, _ => none
  | k + 1, x3, x4, x5, x7 => if x7 < (x3.length : Int) then (if 0 ≤ x7 then ((provostlaw06_row.f x4).bind fun t305 => ((rule_Early.f k ((rd_T55 x3 x7).f0) ((rd_T55 x3 x7).f1) ((rd_T55 x3 x7).f2) x5 t305).bind fun t308 => ((rule_Check.f k x5 ((rd_T55 x3 x7).f0) ((rd_T55 x3 x7).f1) ((rd_T55 x3 x7).f2)).bind fun t310 => (if t310 = 0 then (if (x4.length : Int) = x5 then ((provostlaw06_row.f x4).bind fun t312 => ((rule_Holds.f k ((rd_T55 x3 x7).f0) ((rd_T55 x3 x7).f1) ((rd_T55 x3 x7).f2) t312).bind fun t315 => (if (t308 != t315) = true then (some false) else (provostlaw06_RuleEarly.l1 k x3 x4 x5 (wrap64 (x7 + 1)))))) else ((provostlaw06_row.f x4).bind fun t317 => ((provostlaw06_other.f k x4).bind fun t320 => ((some (([t320] : List Int) : List Int)).bind fun y321 => (if t317.length + y321.length < 17592186044416 then ((rule_Early.f k ((rd_T55 x3 x7).f0) ((rd_T55 x3 x7).f1) ((rd_T55 x3 x7).f2) x5 (t317 ++ y321)).bind fun t327 => (provostlaw06_RuleEarly.l2 k x3 x4 x5 x7 t308 t327 0)) else (none)))))) else (if t308 = true then (some false) else (provostlaw06_RuleEarly.l1 k x3 x4 x5 (wrap64 (x7 + 1)))))))) else (none)) else (some true)
def provostlaw06_RuleEarly.l2 : Nat → List (S55) → List Int → Int → Int → Bool → Bool → Int → Option (Bool)
  | 0, _, _, _, _, _, _, _ => none
  | k + 1, x3, x4, x5, x7, x8, x9, x10 => if x10 < (x4.length : Int) then (if x9 = true then (provostlaw06_RuleEarly.l2 k x3 x4 x5 x7 x8 true (wrap64 (x10 + 1))) else (if 0 ≤ x7 then (if x7 < (x3.length : Int) then ((provostlaw06_row.f x4).bind fun t329 => (if 0 ≤ x10 then ((some (([rd x4 x10] : List Int) : List Int)).bind fun y333 => (if t329.length + y333.length < 17592186044416 then ((rule_Early.f k ((rd_T55 x3 x7).f0) ((rd_T55 x3 x7).f1) ((rd_T55 x3 x7).f2) x5 (t329 ++ y333)).bind fun t339 => (provostlaw06_RuleEarly.l2 k x3 x4 x5 x7 x8 t339 (wrap64 (x10 + 1)))) else (none))) else (none))) else (none)) else (none))) else (if (x8 != x9) = true then (some false) else (provostlaw06_RuleEarly.l1 k x3 x4 x5 (wrap64 (x7 + 1))))
end
def provostlaw06_RuleEarly.f (k : Nat) (a0_0 : Int) (l0_1 : List (S55)) (l0_2 : List Int) (l0_3 : List ByteArray) : Option (Bool) := (provostlaw06_Twin.f k l0_1).bind fun t288 => ((provostlaw06_row.f l0_2).bind fun t291 => (if a0_0 < 0 then (provostlaw06_RuleEarly.j0 k t288 t291 a0_0 true) else (if a0_0 > 12 then (provostlaw06_RuleEarly.j0 k t288 t291 a0_0 true) else ((provostlaw06_wakes.f k).bind fun t294 => (provostlaw06_RuleEarly.j0 k t288 t291 a0_0 (!t294))))))
theorem provostlaw06_RuleEarly.mono_l : ∀ k, (∀ y0 y1 y2 y3, LeO (provostlaw06_RuleEarly.j0 k y0 y1 y2 y3) (provostlaw06_RuleEarly.j0 (k + 1) y0 y1 y2 y3)) ∧ (∀ y0 y1 y2 y3, LeO (provostlaw06_RuleEarly.l0 k y0 y1 y2 y3) (provostlaw06_RuleEarly.l0 (k + 1) y0 y1 y2 y3)) ∧ (∀ y0 y1 y2, LeO (provostlaw06_RuleEarly.j2 k y0 y1 y2) (provostlaw06_RuleEarly.j2 (k + 1) y0 y1 y2)) ∧ (∀ y0 y1 y2 y3, LeO (provostlaw06_RuleEarly.l1 k y0 y1 y2 y3) (provostlaw06_RuleEarly.l1 (k + 1) y0 y1 y2 y3)) ∧ (∀ y0 y1 y2 y3 y4 y5 y6, LeO (provostlaw06_RuleEarly.l2 k y0 y1 y2 y3 y4 y5 y6) (provostlaw06_RuleEarly.l2 (k + 1) y0 y1 y2 y3 y4 y5 y6))
  | 0 => ⟨fun _ _ _ _ r h => by simp [provostlaw06_RuleEarly.j0] at h, fun _ _ _ _ r h => by simp [provostlaw06_RuleEarly.l0] at h, fun _ _ _ r h => by simp [provostlaw06_RuleEarly.j2] at h, fun _ _ _ _ r h => by simp [provostlaw06_RuleEarly.l1] at h, fun _ _ _ _ _ _ _ r h => by simp [provostlaw06_RuleEarly.l2] at h⟩
  | k + 1 => by
    obtain ⟨ih0, ih1, ih2, ih3, ih4⟩ := provostlaw06_RuleEarly.mono_l k
    refine ⟨?_, ?_, ?_, ?_, ?_⟩
    · intro y0 y1 y2 y3
      unfold provostlaw06_RuleEarly.j0
      repeat' first
      | (with_reducible exact ih0 _ _ _ _)
      | (with_reducible exact ih1 _ _ _ _)
      | (with_reducible exact ih2 _ _ _)
      | (with_reducible exact ih3 _ _ _ _)
      | (with_reducible exact ih4 _ _ _ _ _ _ _)
      | (with_reducible exact provostlaw06_Twin.mono _ _)
      | (with_reducible exact provostlaw06_other.mono _ _)
      | (with_reducible exact provostlaw06_wakes.mono _)
      | (with_reducible exact rule_Check.mono _ _ _ _ _)
      | (with_reducible exact rule_Early.mono _ _ _ _ _ _)
      | (with_reducible exact rule_Holds.mono _ _ _ _ _)
      | (with_reducible exact LeO.refl _)
      | (with_reducible exact LeO.none _)
      | (with_reducible refine LeO.ite ?_ ?_)
      | (with_reducible refine LeO.bind ?_ (fun _ => ?_))
      | exact ih0 _ _ _ _
      | exact ih1 _ _ _ _
      | exact ih2 _ _ _
      | exact ih3 _ _ _ _
      | exact ih4 _ _ _ _ _ _ _
      | exact provostlaw06_Twin.mono _ _
      | exact provostlaw06_other.mono _ _
      | exact provostlaw06_wakes.mono _
      | exact rule_Check.mono _ _ _ _ _
      | exact rule_Early.mono _ _ _ _ _ _
      | exact rule_Holds.mono _ _ _ _ _
      | exact LeO.none _
      | refine LeO.ite ?_ ?_
      | refine LeO.bind ?_ (fun _ => ?_)
    · intro y0 y1 y2 y3
      unfold provostlaw06_RuleEarly.l0
      repeat' first
      | (with_reducible exact ih0 _ _ _ _)
      | (with_reducible exact ih1 _ _ _ _)
      | (with_reducible exact ih2 _ _ _)
      | (with_reducible exact ih3 _ _ _ _)
      | (with_reducible exact ih4 _ _ _ _ _ _ _)
      | (with_reducible exact provostlaw06_Twin.mono _ _)
      | (with_reducible exact provostlaw06_other.mono _ _)
      | (with_reducible exact provostlaw06_wakes.mono _)
      | (with_reducible exact rule_Check.mono _ _ _ _ _)
      | (with_reducible exact rule_Early.mono _ _ _ _ _ _)
      | (with_reducible exact rule_Holds.mono _ _ _ _ _)
      | (with_reducible exact LeO.refl _)
      | (with_reducible exact LeO.none _)
      | (with_reducible refine LeO.ite ?_ ?_)
      | (with_reducible refine LeO.bind ?_ (fun _ => ?_))
      | exact ih0 _ _ _ _
      | exact ih1 _ _ _ _
      | exact ih2 _ _ _
      | exact ih3 _ _ _ _
      | exact ih4 _ _ _ _ _ _ _
      | exact provostlaw06_Twin.mono _ _
      | exact provostlaw06_other.mono _ _
      | exact provostlaw06_wakes.mono _
      | exact rule_Check.mono _ _ _ _ _
      | exact rule_Early.mono _ _ _ _ _ _
      | exact rule_Holds.mono _ _ _ _ _
      | exact LeO.none _
      | refine LeO.ite ?_ ?_
      | refine LeO.bind ?_ (fun _ => ?_)
    · intro y0 y1 y2
      unfold provostlaw06_RuleEarly.j2
      repeat' first
      | (with_reducible exact ih0 _ _ _ _)
      | (with_reducible exact ih1 _ _ _ _)
      | (with_reducible exact ih2 _ _ _)
      | (with_reducible exact ih3 _ _ _ _)
      | (with_reducible exact ih4 _ _ _ _ _ _ _)
      | (with_reducible exact provostlaw06_Twin.mono _ _)
      | (with_reducible exact provostlaw06_other.mono _ _)
      | (with_reducible exact provostlaw06_wakes.mono _)
      | (with_reducible exact rule_Check.mono _ _ _ _ _)
      | (with_reducible exact rule_Early.mono _ _ _ _ _ _)
      | (with_reducible exact rule_Holds.mono _ _ _ _ _)
      | (with_reducible exact LeO.refl _)
      | (with_reducible exact LeO.none _)
      | (with_reducible refine LeO.ite ?_ ?_)
      | (with_reducible refine LeO.bind ?_ (fun _ => ?_))
      | exact ih0 _ _ _ _
      | exact ih1 _ _ _ _
      | exact ih2 _ _ _
      | exact ih3 _ _ _ _
      | exact ih4 _ _ _ _ _ _ _
      | exact provostlaw06_Twin.mono _ _
      | exact provostlaw06_other.mono _ _
      | exact provostlaw06_wakes.mono _
      | exact rule_Check.mono _ _ _ _ _
      | exact rule_Early.mono _ _ _ _ _ _
      | exact rule_Holds.mono _ _ _ _ _
      | exact LeO.none _
      | refine LeO.ite ?_ ?_
      | refine LeO.bind ?_ (fun _ => ?_)
    · intro y0 y1 y2 y3
      unfold provostlaw06_RuleEarly.l1
      repeat' first
      | (with_reducible exact ih0 _ _ _ _)
      | (with_reducible exact ih1 _ _ _ _)
      | (with_reducible exact ih2 _ _ _)
      | (with_reducible exact ih3 _ _ _ _)
      | (with_reducible exact ih4 _ _ _ _ _ _ _)
      | (with_reducible exact provostlaw06_Twin.mono _ _)
      | (with_reducible exact provostlaw06_other.mono _ _)
      | (with_reducible exact provostlaw06_wakes.mono _)
      | (with_reducible exact rule_Check.mono _ _ _ _ _)
      | (with_reducible exact rule_Early.mono _ _ _ _ _ _)
      | (with_reducible exact rule_Holds.mono _ _ _ _ _)
      | (with_reducible exact LeO.refl _)
      | (with_reducible exact LeO.none _)
      | (with_reducible refine LeO.ite ?_ ?_)
      | (with_reducible refine LeO.bind ?_ (fun _ => ?_))
      | exact ih0 _ _ _ _
      | exact ih1 _ _ _ _
      | exact ih2 _ _ _
      | exact ih3 _ _ _ _
      | exact ih4 _ _ _ _ _ _ _
      | exact provostlaw06_Twin.mono _ _
      | exact provostlaw06_other.mono _ _
      | exact provostlaw06_wakes.mono _
      | exact rule_Check.mono _ _ _ _ _
      | exact rule_Early.mono _ _ _ _ _ _
      | exact rule_Holds.mono _ _ _ _ _
      | exact LeO.none _
      | refine LeO.ite ?_ ?_
      | refine LeO.bind ?_ (fun _ => ?_)
    · intro y0 y1 y2 y3 y4 y5 y6
      unfold provostlaw06_RuleEarly.l2
      repeat' first
      | (with_reducible exact ih0 _ _ _ _)
      | (with_reducible exact ih1 _ _ _ _)
      | (with_reducible exact ih2 _ _ _)
      | (with_reducible exact ih3 _ _ _ _)
      | (with_reducible exact ih4 _ _ _ _ _ _ _)
      | (with_reducible exact provostlaw06_Twin.mono _ _)
      | (with_reducible exact provostlaw06_other.mono _ _)
      | (with_reducible exact provostlaw06_wakes.mono _)
      | (with_reducible exact rule_Check.mono _ _ _ _ _)
      | (with_reducible exact rule_Early.mono _ _ _ _ _ _)
      | (with_reducible exact rule_Holds.mono _ _ _ _ _)
      | (with_reducible exact LeO.refl _)
      | (with_reducible exact LeO.none _)
      | (with_reducible refine LeO.ite ?_ ?_)
      | (with_reducible refine LeO.bind ?_ (fun _ => ?_))
      | exact ih0 _ _ _ _
      | exact ih1 _ _ _ _
      | exact ih2 _ _ _
      | exact ih3 _ _ _ _
      | exact ih4 _ _ _ _ _ _ _
      | exact provostlaw06_Twin.mono _ _
      | exact provostlaw06_other.mono _ _
      | exact provostlaw06_wakes.mono _
      | exact rule_Check.mono _ _ _ _ _
      | exact rule_Early.mono _ _ _ _ _ _
      | exact rule_Holds.mono _ _ _ _ _
      | exact LeO.none _
      | refine LeO.ite ?_ ?_
      | refine LeO.bind ?_ (fun _ => ?_)
theorem provostlaw06_RuleEarly.mono : ∀ a0 a1 a2 a3 k, LeO (provostlaw06_RuleEarly.f k a0 a1 a2 a3) (provostlaw06_RuleEarly.f (k + 1) a0 a1 a2 a3) := by
  intro a0 a1 a2 a3 k
  obtain ⟨ih0, ih1, ih2, ih3, ih4⟩ := provostlaw06_RuleEarly.mono_l k
  unfold provostlaw06_RuleEarly.f
  repeat' first
      | (with_reducible exact ih0 _ _ _ _)
      | (with_reducible exact ih1 _ _ _ _)
      | (with_reducible exact ih2 _ _ _)
      | (with_reducible exact ih3 _ _ _ _)
      | (with_reducible exact ih4 _ _ _ _ _ _ _)
      | (with_reducible exact provostlaw06_Twin.mono _ _)
      | (with_reducible exact provostlaw06_other.mono _ _)
      | (with_reducible exact provostlaw06_wakes.mono _)
      | (with_reducible exact rule_Check.mono _ _ _ _ _)
      | (with_reducible exact rule_Early.mono _ _ _ _ _ _)
      | (with_reducible exact rule_Holds.mono _ _ _ _ _)
      | (with_reducible exact LeO.refl _)
      | (with_reducible exact LeO.none _)
      | (with_reducible refine LeO.ite ?_ ?_)
      | (with_reducible refine LeO.bind ?_ (fun _ => ?_))
      | exact ih0 _ _ _ _
      | exact ih1 _ _ _ _
      | exact ih2 _ _ _
      | exact ih3 _ _ _ _
      | exact ih4 _ _ _ _ _ _ _
      | exact provostlaw06_Twin.mono _ _
      | exact provostlaw06_other.mono _ _
      | exact provostlaw06_wakes.mono _
      | exact rule_Check.mono _ _ _ _ _
      | exact rule_Early.mono _ _ _ _ _ _
      | exact rule_Holds.mono _ _ _ _ _
      | exact LeO.none _
      | refine LeO.ite ?_ ?_
      | refine LeO.bind ?_ (fun _ => ?_)
def provostlaw06_RuleEarly.T8 : Bool × List (List Nat × List Nat) := (true, [([], []), ([], []), ([0, 1], [0, 1]), ([2], [2]), ([], []), ([], []), ([5], [5]), ([3, 4, 6, 6], [3, 4, 6])])
def provostlaw06_RuleEarly.B8 : List Nat := [0, 0, 3, 7, 0, 0, 32, 127]
theorem provostlaw06_RuleEarly.tab8 : rtab .any (opsOf Try.f8 8) = provostlaw06_RuleEarly.T8 := by kernel_rfl
theorem provostlaw06_RuleEarly.bits8 : waitsOk provostlaw06_RuleEarly.T8.2 provostlaw06_RuleEarly.B8 = true := by kernel_rfl
def provostlaw06_RuleEarly.T16 : Bool × List (List Nat × List Nat) := (true, [([], []), ([], []), ([0, 1], [0, 1]), ([2], [2]), ([], []), ([], []), ([5], [5]), ([3, 4, 6, 6], [3, 4, 6]), ([7, 7, 0, 1, 2, 3, 4, 5, 6, 7], [7])])
def provostlaw06_RuleEarly.B16 : List Nat := [0, 0, 3, 7, 0, 0, 32, 127, 255]
theorem provostlaw06_RuleEarly.tab16 : rtab .any (opsOf Try.f8 16) = provostlaw06_RuleEarly.T16 := by kernel_rfl
theorem provostlaw06_RuleEarly.bits16 : waitsOk provostlaw06_RuleEarly.T16.2 provostlaw06_RuleEarly.B16 = true := by kernel_rfl
def provostlaw06_RuleEarly.T21 : Bool × List (List Nat × List Nat) := (true, [([], []), ([], []), ([], []), ([1, 2], [1, 2]), ([3], [3]), ([], []), ([5], [5]), ([4, 6, 6], [4, 6]), ([0, 7], [0, 7])])
def provostlaw06_RuleEarly.B21 : List Nat := [0, 0, 0, 6, 14, 0, 32, 126, 255]
theorem provostlaw06_RuleEarly.tab21 : rtab .any (opsOf Try.f8 21) = provostlaw06_RuleEarly.T21 := by kernel_rfl
theorem provostlaw06_RuleEarly.bits21 : waitsOk provostlaw06_RuleEarly.T21.2 provostlaw06_RuleEarly.B21 = true := by kernel_rfl
def provostlaw06_RuleEarly.T23 : Bool × List (List Nat × List Nat) := (true, [([], []), ([], []), ([0, 1], [0, 1]), ([2], [2]), ([], []), ([], []), ([5], [5]), ([], []), ([7, 6], [7]), ([8], [8]), ([6, 9, 8], [6, 9]), ([3, 4, 10, 10], [3, 4, 10]), ([11, 11, 0, 1, 2, 3, 4, 5, 6, 7, 8, 9, 10, 11], [11])])
def provostlaw06_RuleEarly.B23 : List Nat := [0, 0, 3, 7, 0, 0, 32, 0, 224, 480, 992, 2047, 4095]
theorem provostlaw06_RuleEarly.tab23 : rtab .any (opsOf Try.f8 23) = provostlaw06_RuleEarly.T23 := by kernel_rfl
theorem provostlaw06_RuleEarly.bits23 : waitsOk provostlaw06_RuleEarly.T23.2 provostlaw06_RuleEarly.B23 = true := by kernel_rfl
def provostlaw06_RuleEarly.T27 : Bool × List (List Nat × List Nat) := (true, [([], []), ([0], [0]), ([1], [1]), ([1], [1]), ([2, 3, 1], [1, 2, 3]), ([4, 1], [1, 4]), ([1], [1]), ([1], [1]), ([7, 1, 1], [1, 7]), ([1], [1]), ([1], [1]), ([9, 10, 1], [1, 9, 10]), ([11, 1], [1, 11]), ([12, 1], [1, 12]), ([8, 13, 8, 1], [1, 8, 13]), ([5, 6, 14, 14, 1], [1, 5, 6, 14]), ([1, 15], [1, 15]), ([16, 15, 0, 1, 2, 3, 4, 5, 6, 7, 8, 9, 10, 11, 12, 13, 14, 15, 16], [0, 16])])
def provostlaw06_RuleEarly.B27 : List Nat := [0, 1, 3, 3, 15, 31, 3, 3, 131, 3, 3, 1539, 3587, 7683, 16259, 32767, 65535, 131071]
theorem provostlaw06_RuleEarly.tab27 : rtab .any (opsOf Try.f8 27) = provostlaw06_RuleEarly.T27 := by kernel_rfl
theorem provostlaw06_RuleEarly.bits27 : waitsOk provostlaw06_RuleEarly.T27.2 provostlaw06_RuleEarly.B27 = true := by kernel_rfl


end Go.Proofs.Ythdkmohgphbdeaa.PRule
