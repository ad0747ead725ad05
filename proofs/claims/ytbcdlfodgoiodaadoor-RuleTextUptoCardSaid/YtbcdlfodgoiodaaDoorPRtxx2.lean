/- A text written by my program wip/gen/p2.py out of the translation and of my foreign texts; not trusted: Lean checks it. -/
import Derived.Test.YtbcdlfodgoiodaaDoorPRtxx0
import Derived.Test.YtbcdlfodgoiodaaDoorPRtxx1
namespace Go.Proofs.YtbcdlfodgoiodaaDoor.PRtx
open Go.RowKit Go.Proofs.YtbcdlfodgoiodaaDoorW.PrintWords Go.Proofs.YtbcdlfodgoiodaaDoorW.PrintLast Go.Proofs.YtbcdlfodgoiodaaDoorW.PrintMore
attribute [local go_sem] max2_int min2_int max_two min_two max_three min_three max_four min_four   -- for this text's walks alone
set_option linter.unusedVariables false
set_option linter.unusedSimpArgs false

/-! ### rule_Check: function 33 -/
mutual
def rule_Check.l0 : Nat → Int → Int → List Int → Int → Int → Int → Int → List Int → Option (Int)
  | 0, _, _, _, _, _, _, _, _ => none
  | k + 1, x0, x5, x13, x14, x15, x126000, x126001, x126002 => if x15 < x14 then (if 0 ≤ x15 then (if x15 < (x13.length : Int) then (if (rd x13 x15) ≤ x5 then (rule_Check.j1 k x0 (rd x13 x15) x13 x14 x15 true x126000 x126001 x126002) else (rule_Check.j1 k x0 (rd x13 x15) x13 x14 x15 (decide ((rd x13 x15) ≥ x0)) x126000 x126001 x126002)) else (none)) else (none)) else (if x126000 = 1 then (rule_Check.j2 k false x126000 (x126000 == 1) x126000 x126001 x126002) else (rule_Check.j2 k false x126000 (x126000 == 2) x126000 x126001 x126002))
def rule_Check.j1 : Nat → Int → Int → List Int → Int → Int → Bool → Int → Int → List Int → Option (Int)
  | 0, _, _, _, _, _, _, _, _, _ => none
  | k + 1, x0, x7, x13, x14, x15, x26, x126000, x126001, x126002 => if x26 = true then (some 1) else (rule_Check.l0 k x0 x7 x13 x14 (wrap64 (x15 + 1)) x126000 x126001 x126002)
def rule_Check.j4 : Nat → Bool → Option (Int)
  | 0, _ => none
  | k + 1, x8 => if x8 = true then (some 0) else (some 1)
def rule_Check.j2 : Nat → Bool → Int → Bool → Int → Int → List Int → Option (Int)
  | 0, _, _, _, _, _, _ => none
  | k + 1, x8, x30, x31, x126000, x126001, x126002 => if x31 = true then (if x126001 = 0 then (rule_Check.j4 k (decide ((x126002.length : Int) ≥ 2))) else (rule_Check.j4 k false)) else (if x30 = 3 then (rule_Check.j3 k x8 x30 (x30 == 3) x126000 x126001 x126002) else (rule_Check.j3 k x8 x30 (x30 == 4) x126000 x126001 x126002))
def rule_Check.j3 : Nat → Bool → Int → Bool → Int → Int → List Int → Option (Int)
  | 0, _, _, _, _, _, _ => none
  | k + 1, x8, x30, x43, x126000, x126001, x126002 => if x43 = true then (if x126001 ≥ 1 then (if x126001 ≤ 999999999 then (rule_Check.j4 k (decide ((x126002.length : Int) ≥ 1))) else (rule_Check.j4 k false)) else (rule_Check.j4 k false)) else (if x30 = 5 then (if x126001 ≥ 1 then (rule_Check.j4 k (decide (x126001 ≤ (x126002.length : Int)))) else (rule_Check.j4 k false)) else (rule_Check.j4 k x8))
end
def rule_Check.f (k : Nat) (a0 : Int) (a1_0 : Int) (a1_1 : Int) (l1_2 : List Int) : Option (Int) := (rule_fits.f a0).bind fun t126 => (if t126 = true then (rule_Check.l0 k a0 (-1) l1_2 (l1_2.length : Int) 0 a1_0 a1_1 l1_2) else (some 1))
theorem rule_Check.mono_l : ∀ k, (∀ y0 y1 y2 y3 y4 y5 y6 y7, LeO (rule_Check.l0 k y0 y1 y2 y3 y4 y5 y6 y7) (rule_Check.l0 (k + 1) y0 y1 y2 y3 y4 y5 y6 y7)) ∧ (∀ y0 y1 y2 y3 y4 y5 y6 y7 y8, LeO (rule_Check.j1 k y0 y1 y2 y3 y4 y5 y6 y7 y8) (rule_Check.j1 (k + 1) y0 y1 y2 y3 y4 y5 y6 y7 y8)) ∧ (∀ y0, LeO (rule_Check.j4 k y0) (rule_Check.j4 (k + 1) y0)) ∧ (∀ y0 y1 y2 y3 y4 y5, LeO (rule_Check.j2 k y0 y1 y2 y3 y4 y5) (rule_Check.j2 (k + 1) y0 y1 y2 y3 y4 y5)) ∧ (∀ y0 y1 y2 y3 y4 y5, LeO (rule_Check.j3 k y0 y1 y2 y3 y4 y5) (rule_Check.j3 (k + 1) y0 y1 y2 y3 y4 y5))
  | 0 => ⟨fun _ _ _ _ _ _ _ _ r h => by simp [rule_Check.l0] at h, fun _ _ _ _ _ _ _ _ _ r h => by simp [rule_Check.j1] at h, fun _ r h => by simp [rule_Check.j4] at h, fun _ _ _ _ _ _ r h => by simp [rule_Check.j2] at h, fun _ _ _ _ _ _ r h => by simp [rule_Check.j3] at h⟩
  | k + 1 => by
    obtain ⟨ih0, ih1, ih2, ih3, ih4⟩ := rule_Check.mono_l k
    refine ⟨?_, ?_, ?_, ?_, ?_⟩
    · intro y0 y1 y2 y3 y4 y5 y6 y7
      unfold rule_Check.l0
      repeat' first
      | (with_reducible exact ih0 _ _ _ _ _ _ _ _)
      | (with_reducible exact ih1 _ _ _ _ _ _ _ _ _)
      | (with_reducible exact ih2 _)
      | (with_reducible exact ih3 _ _ _ _ _ _)
      | (with_reducible exact ih4 _ _ _ _ _ _)
      | (with_reducible exact LeO.refl _)
      | (with_reducible exact LeO.none _)
      | (with_reducible refine LeO.ite ?_ ?_)
      | (with_reducible refine LeO.bind ?_ (fun _ => ?_))
      | exact ih0 _ _ _ _ _ _ _ _
      | exact ih1 _ _ _ _ _ _ _ _ _
      | exact ih2 _
      | exact ih3 _ _ _ _ _ _
      | exact ih4 _ _ _ _ _ _
      | exact LeO.none _
      | refine LeO.ite ?_ ?_
      | refine LeO.bind ?_ (fun _ => ?_)
    · intro y0 y1 y2 y3 y4 y5 y6 y7 y8
      unfold rule_Check.j1
      repeat' first
      | (with_reducible exact ih0 _ _ _ _ _ _ _ _)
      | (with_reducible exact ih1 _ _ _ _ _ _ _ _ _)
      | (with_reducible exact ih2 _)
      | (with_reducible exact ih3 _ _ _ _ _ _)
      | (with_reducible exact ih4 _ _ _ _ _ _)
      | (with_reducible exact LeO.refl _)
      | (with_reducible exact LeO.none _)
      | (with_reducible refine LeO.ite ?_ ?_)
      | (with_reducible refine LeO.bind ?_ (fun _ => ?_))
      | exact ih0 _ _ _ _ _ _ _ _
      | exact ih1 _ _ _ _ _ _ _ _ _
      | exact ih2 _
      | exact ih3 _ _ _ _ _ _
      | exact ih4 _ _ _ _ _ _
      | exact LeO.none _
      | refine LeO.ite ?_ ?_
      | refine LeO.bind ?_ (fun _ => ?_)
    · intro y0
      unfold rule_Check.j4
      repeat' first
      | (with_reducible exact ih0 _ _ _ _ _ _ _ _)
      | (with_reducible exact ih1 _ _ _ _ _ _ _ _ _)
      | (with_reducible exact ih2 _)
      | (with_reducible exact ih3 _ _ _ _ _ _)
      | (with_reducible exact ih4 _ _ _ _ _ _)
      | (with_reducible exact LeO.refl _)
      | (with_reducible exact LeO.none _)
      | (with_reducible refine LeO.ite ?_ ?_)
      | (with_reducible refine LeO.bind ?_ (fun _ => ?_))
      | exact ih0 _ _ _ _ _ _ _ _
      | exact ih1 _ _ _ _ _ _ _ _ _
      | exact ih2 _
      | exact ih3 _ _ _ _ _ _
      | exact ih4 _ _ _ _ _ _
      | exact LeO.none _
      | refine LeO.ite ?_ ?_
      | refine LeO.bind ?_ (fun _ => ?_)
    · intro y0 y1 y2 y3 y4 y5
      unfold rule_Check.j2
      repeat' first
      | (with_reducible exact ih0 _ _ _ _ _ _ _ _)
      | (with_reducible exact ih1 _ _ _ _ _ _ _ _ _)
      | (with_reducible exact ih2 _)
      | (with_reducible exact ih3 _ _ _ _ _ _)
      | (with_reducible exact ih4 _ _ _ _ _ _)
      | (with_reducible exact LeO.refl _)
      | (with_reducible exact LeO.none _)
      | (with_reducible refine LeO.ite ?_ ?_)
      | (with_reducible refine LeO.bind ?_ (fun _ => ?_))
      | exact ih0 _ _ _ _ _ _ _ _
      | exact ih1 _ _ _ _ _ _ _ _ _
      | exact ih2 _
      | exact ih3 _ _ _ _ _ _
      | exact ih4 _ _ _ _ _ _
      | exact LeO.none _
      | refine LeO.ite ?_ ?_
      | refine LeO.bind ?_ (fun _ => ?_)
    · intro y0 y1 y2 y3 y4 y5
      unfold rule_Check.j3
      repeat' first
      | (with_reducible exact ih0 _ _ _ _ _ _ _ _)
      | (with_reducible exact ih1 _ _ _ _ _ _ _ _ _)
      | (with_reducible exact ih2 _)
      | (with_reducible exact ih3 _ _ _ _ _ _)
      | (with_reducible exact ih4 _ _ _ _ _ _)
      | (with_reducible exact LeO.refl _)
      | (with_reducible exact LeO.none _)
      | (with_reducible refine LeO.ite ?_ ?_)
      | (with_reducible refine LeO.bind ?_ (fun _ => ?_))
      | exact ih0 _ _ _ _ _ _ _ _
      | exact ih1 _ _ _ _ _ _ _ _ _
      | exact ih2 _
      | exact ih3 _ _ _ _ _ _
      | exact ih4 _ _ _ _ _ _
      | exact LeO.none _
      | refine LeO.ite ?_ ?_
      | refine LeO.bind ?_ (fun _ => ?_)
theorem rule_Check.mono : ∀ a0 a1 a2 a3 k, LeO (rule_Check.f k a0 a1 a2 a3) (rule_Check.f (k + 1) a0 a1 a2 a3) := by
  intro a0 a1 a2 a3 k
  obtain ⟨ih0, ih1, ih2, ih3, ih4⟩ := rule_Check.mono_l k
  unfold rule_Check.f
  repeat' first
      | (with_reducible exact ih0 _ _ _ _ _ _ _ _)
      | (with_reducible exact ih1 _ _ _ _ _ _ _ _ _)
      | (with_reducible exact ih2 _)
      | (with_reducible exact ih3 _ _ _ _ _ _)
      | (with_reducible exact ih4 _ _ _ _ _ _)
      | (with_reducible exact LeO.refl _)
      | (with_reducible exact LeO.none _)
      | (with_reducible refine LeO.ite ?_ ?_)
      | (with_reducible refine LeO.bind ?_ (fun _ => ?_))
      | exact ih0 _ _ _ _ _ _ _ _
      | exact ih1 _ _ _ _ _ _ _ _ _
      | exact ih2 _
      | exact ih3 _ _ _ _ _ _
      | exact ih4 _ _ _ _ _ _
      | exact LeO.none _
      | refine LeO.ite ?_ ?_
      | refine LeO.bind ?_ (fun _ => ?_)
set_option maxHeartbeats 8000000 in
set_option maxRecDepth 100000 in
theorem rule_Check.calls (k : Nat) (a0 : Int) (a1_0 : Int) (a1_1 : Int) (A1_2 : Option Addr) (c1_2 : Nat) (l1_2 : List Int) (r : Int) (w : World) (hr1_2 : Kd.C (Kd.int .i64) w A1_2 l1_2.length l1_2) (hc1_2 : l1_2.length ≤ c1_2) (h : rule_Check.f k a0 a1_0 a1_1 l1_2 = some r) :
    Calls Tryd.prog 33 #[.int .i64 a0, .agg #[.int .i64 a1_0, .int .i64 a1_1, .slice A1_2 l1_2.length c1_2]] w fun e w' => e = .returned (.int .i64 r) ∧ Below w.heap.size w w' := by
  have hu53 := Tryd.underlying53
  have HR1_2 := Aside0.mk hr1_2
  have HC1_2 := Aside0.mk hc1_2
  clear hr1_2 hc1_2
  have HB := Aside0.mk (Below.refl w.heap.size w)
  have H : ((rule_fits.f a0).bind fun t126 => (if t126 = true then (rule_Check.l0 k a0 (-1) l1_2 (l1_2.length : Int) 0 a1_0 a1_1 l1_2) else (some 1))) = some r := h
  clear h
  replace H := Option.bind_eq_some_iff.mp H
  obtain ⟨t126, A30, H⟩ := H
  replace H : (if t126 = true then (rule_Check.l0 k a0 (-1) l1_2 (l1_2.length : Int) 0 a1_0 a1_1 l1_2) else (some 1)) = some r := H
  have A3 := Aside0.mk A30
  clear A30
  by_cases c4 : t126 = true
  · subst c4
    have H1 : (rule_Check.l0 k a0 (-1) l1_2 (l1_2.length : Int) 0 a1_0 a1_1 l1_2) = some r := by rw [if_pos rfl] at H; exact H
    clear H
    have H := H1
    clear H1
    have H' := Aside0.mk H
    clear H
    go_enter Tryd.func33, Tryd.ntmps33
    go_wp2_with (first | ((with_reducible refine gate_dst (N := 3) rfl ?_); (try (refine gate_guard (by rfl) ?_; dsimp only)); refine box_event ?hg (N := 3) ?hd (cs := #[.int .i64 a1_0, .int .i64 a1_1, .slice A1_2 l1_2.length c1_2]) (t := 53) ?hr ?_; (case hd => rfl); (case hg => rfl); (case hr => first | (go_simp; done) | (go_simp; rfl)); intro gb125 hg w5 hbox hb; have n0_ := Aside0.mk (below_step (by repeat (first | (with_reducible first | exact HB.out | apply below_alloc | apply pw_below_drewN | apply below_drew1) | exact HB.out)) hb); have n1_ := Aside0.mk (hbox); have n2_ := Aside0.mk ((by rw [hg]; exact (below_size (by repeat (first | (with_reducible first | exact HB.out | apply below_alloc | apply pw_below_drewN | apply below_drew1) | exact HB.out))) : w.heap.size ≤ gb125)); have n3_ := Aside0.mk ((by rw [hg]; exact (below_size (by repeat (first | (with_reducible first | exact HB.out | apply below_alloc | apply pw_below_drewN | apply below_drew1) | exact HB.out))) : w.heap.size ≤ gb125)); clear HB; have HB := n0_; have BK125 := n1_; have GW125 := n2_; have GE125 := n3_; clear n0_ n1_ n2_ n3_; clear hb hbox hg) | ((with_reducible refine gate_callee (f := 31) rfl ?_); refine goesL_ (some 10) rfl rfl Tryd.func31 (by kernel_rfl) rfl #[.int .i64 a0] rfl (by (try simp only [List.map_toArray, List.map_cons, List.map_nil]); first | done | rfl | (simp only [List.length_drop, List.length_take]; rfl)) ?_; (with_reducible refine (rule_fits.calls a0 true _ A3.out).mono ?_); rintro e w' ⟨rfl, ⟨nd, rfl⟩⟩; refine ⟨_, rfl, ?_⟩; have hcz6_0 : w5.cell? ⟨gb125, 0, none⟩ = some (.int .i64 a1_0) := (blk_cell BK125.out 0).trans rfl; have hcz6_1 : w5.cell? ⟨gb125, 1, none⟩ = some (.int .i64 a1_1) := (blk_cell BK125.out 1).trans rfl; have hcz6_2 : w5.cell? ⟨gb125, 2, none⟩ = some (.slice A1_2 l1_2.length c1_2) := (blk_cell BK125.out 2).trans rfl; have hfz6_0 := blk_frozen BK125.out 0; have hfz6_1 := blk_frozen BK125.out 1; have hfz6_2 := blk_frozen BK125.out 2))
    go_loopg [5, 15] k (fun kq v5 v15 w' => ∃ (x5_1 : Int) (x15_1 : Int), v5 = .int .i64 x5_1 ∧ v15 = .int .i64 x15_1 ∧ Aside0 (rule_Check.l0 kq a0 x5_1 l1_2 (l1_2.length : Int) x15_1 a1_0 a1_1 l1_2 = some r) ∧ Aside0 (kq ≤ k) ∧ Aside0 (w'.heap[gb125]? = some (.cells #[.int .i64 a1_0, .int .i64 a1_1, (.slice A1_2 l1_2.length c1_2)] 53 (0, 0))) ∧ Aside0 (Below w.heap.size w w'))
    case atStart => exact ⟨((-1)), (0), (by first | rfl | (simp; done) | (simp [*]; done)), (by first | rfl | (simp; done) | (simp [*]; done)), H', ⟨Nat.le_refl _⟩, ⟨by (with_reducible repeat (first | refine blk_drewN ?_ _ | refine blk_drew ?_ | refine blk_alloc ?_ _)); exact BK125.out⟩, ⟨by repeat (first | (with_reducible first | exact HB.out | apply below_alloc | apply pw_below_drewN | apply below_drew1 | refine below_set ?_ GE125.out) | exact HB.out)⟩⟩
    case round =>
      clear H'
      try clear c1
      try clear p2
      try clear c3
      try clear c4
      try clear hcz6_0
      try clear hcz6_1
      try clear hcz6_2
      try clear hfz6_0
      try clear hfz6_1
      try clear hfz6_2
      obtain ⟨x5_1, x15_1, rfl, rfl, HA, HK1, BK125, HB⟩ := hrel
      cases gk with
      | zero => exact absurd HA.out (by simp [rule_Check.l0])
      | succ k1 =>
        have H := HA.out
        clear HA
        simp only [rule_Check.l0] at H
        by_cases c7 : x15_1 < (l1_2.length : Int)
        · rw [if_pos c7] at H
          have c7b0 : decide (x15_1 < (l1_2.length : Int)) = true := decide_eq_true c7
          clear c7
          by_cases c8 : 0 ≤ x15_1
          · rw [if_pos c8] at H
            have c8b0 : decide (0 ≤ x15_1) = true := decide_eq_true c8
            clear c8
            by_cases c9 : x15_1 < (l1_2.length : Int)
            · rw [if_pos c9] at H
              have c9b0 : decide (x15_1 < (l1_2.length : Int)) = true := decide_eq_true c9
              clear c9
              have HC10 := Aside0.mk H
              clear H
              have p127 : 0 ≤ (x15_1 : Int) := of_decide_eq_true (by first | (with_reducible assumption) | assumption)
              have q127 : x15_1 < (l1_2.length : Int) := of_decide_eq_true (by first | (with_reducible assumption) | assumption)
              obtain ⟨ad127, e127, hx127_0⟩ := Kd.at_int HR1_2.out x15_1 p127 q127
              cases e127
              (try replace hx127_0 := (HB.out.cell (World.block_lt_of_cell? w _ hx127_0)).trans hx127_0)
              replace p127 := eq_true p127
              replace q127 := eq_true q127
              go_upto_region 7 with (fail)
              go_cut [26] (fun v26 wc => ∃ (kq : Nat) (x26_9 : Bool), v26 = .bool x26_9 ∧ Aside0 (rule_Check.j1 kq a0 (rd l1_2 x15_1) l1_2 (l1_2.length : Int) x15_1 x26_9 a1_0 a1_1 l1_2 = some r) ∧ Aside0 (kq ≤ k1) ∧ Aside0 (wc.heap[gb125]? = some (.cells #[.int .i64 a1_0, .int .i64 a1_1, (.slice (some ad127) l1_2.length c1_2)] 53 (0, 0))) ∧ Aside0 (Below w.heap.size w wc))
              case first =>
                have H := HC10.out
                clear HC10
                by_cases c11 : (rd l1_2 x15_1) ≤ x5_1
                · rw [if_pos c11] at H
                  have c11b0 : decide ((rd l1_2 x15_1) ≤ x5_1) = true := decide_eq_true c11
                  clear c11
                  (first | rw [c11b0] | (simp only [i64_w, i32_w]; rw [c11b0]) | skip)
                  have H' := Aside0.mk H
                  clear H
                  go_wp2
                  go_meet
                  case rel => exact ⟨_, (true), (by first | rfl | (simp; done) | (simp [*]; done)), H', ⟨by have := HK1.out; first | omega | exact Nat.le_refl _⟩, ⟨by (with_reducible repeat (first | refine blk_drewN ?_ _ | refine blk_drew ?_ | refine blk_alloc ?_ _)); exact BK125.out⟩, ⟨by repeat (first | (with_reducible first | exact HB.out | apply below_alloc | apply pw_below_drewN | apply below_drew1 | refine below_set ?_ GE125.out) | exact HB.out)⟩⟩
                · rw [if_neg c11] at H
                  have c11b0 : decide ((rd l1_2 x15_1) ≤ x5_1) = false := decide_eq_false c11
                  clear c11
                  (first | rw [c11b0] | (simp only [i64_w, i32_w]; rw [c11b0]) | skip)
                  have H' := Aside0.mk H
                  clear H
                  go_wp2
                  go_meet
                  case rel => exact ⟨_, (decide ((rd l1_2 x15_1) ≥ a0)), (by first | rfl | (simp; done) | (simp [*]; done)), H', ⟨by have := HK1.out; first | omega | exact Nat.le_refl _⟩, ⟨by (with_reducible repeat (first | refine blk_drewN ?_ _ | refine blk_drew ?_ | refine blk_alloc ?_ _)); exact BK125.out⟩, ⟨by repeat (first | (with_reducible first | exact HB.out | apply below_alloc | apply pw_below_drewN | apply below_drew1 | refine below_set ?_ GE125.out) | exact HB.out)⟩⟩
              case rest =>
                clear HC10
                try clear c1
                try clear p1
                try clear q1
                try clear hx1
                try clear p2
                try clear c3
                try clear c4
                try clear c7
                try clear c7b0
                try clear c8
                try clear c8b0
                try clear c9
                try clear c9b0
                try clear c11
                try clear c11b0
                try clear hcz6_0
                try clear hcz6_1
                try clear hcz6_2
                try clear hfz6_0
                try clear hfz6_1
                try clear hfz6_2
                try clear hx127_0
                try clear p127
                try clear p2
                try clear q127
                obtain ⟨kq, x26_9, rfl, HA, HJ9, BK125, HB⟩ := hcut
                cases kq with
                | zero => exact absurd HA.out (by simp [rule_Check.j1])
                | succ kj9 =>
                  have H := HA.out
                  clear HA
                  simp only [rule_Check.j1] at H
                  by_cases c12 : x26_9 = true
                  · subst c12
                    have H1 : (some 1) = some r := by rw [if_pos rfl] at H; exact H
                    clear H
                    have H := H1
                    clear H1
                    obtain rfl := Option.some.inj H
                    go_wp2
                    go_ret
                    exact ⟨by first | rfl | (simp [errW_none, errW_some] <;> rfl) | (simp [*, errW_none, errW_some] <;> rfl), by repeat (first | (with_reducible first | exact HB.out | apply below_alloc | apply pw_below_drewN | apply below_drew1 | refine below_set ?_ GE125.out) | exact HB.out)⟩
                  · replace c12 := Bool.eq_false_iff.mpr c12
                    subst c12
                    have H1 : (rule_Check.l0 kj9 a0 (rd l1_2 x15_1) l1_2 (l1_2.length : Int) (wrap64 (x15_1 + 1)) a1_0 a1_1 l1_2) = some r := by rw [if_neg (show ¬ (false = true) by decide)] at H; exact H
                    clear H
                    have H := H1
                    clear H1
                    have H' := Aside0.mk H
                    clear H
                    go_wp2
                    go_roundg kj9
                    case measure => have := HK1.out; have := HJ9.out; omega
                    case rel => exact ⟨((rd l1_2 x15_1)), (wrap64 (x15_1 + 1)), (by first | rfl | (simp; done) | (simp [*]; done)), (by first | rfl | (simp; done) | (simp [*]; done)), H', ⟨by have := HK1.out; have := HJ9.out; omega⟩, ⟨by (with_reducible repeat (first | refine blk_drewN ?_ _ | refine blk_drew ?_ | refine blk_alloc ?_ _)); exact BK125.out⟩, ⟨by repeat (first | (with_reducible first | exact HB.out | apply below_alloc | apply pw_below_drewN | apply below_drew1 | refine below_set ?_ GE125.out) | exact HB.out)⟩⟩
            · rw [if_neg c9] at H
              exact absurd H (by simp)
          · rw [if_neg c8] at H
            exact absurd H (by simp)
        · rw [if_neg c7] at H
          have c7b0 : decide (x15_1 < (l1_2.length : Int)) = false := decide_eq_false c7
          clear c7
          have HC13 := Aside0.mk H
          clear H
          have hcz14_0 : wr.cell? ⟨gb125, 0, none⟩ = some (.int .i64 a1_0) := (blk_cell BK125.out 0).trans rfl
          have hcz14_1 : wr.cell? ⟨gb125, 1, none⟩ = some (.int .i64 a1_1) := (blk_cell BK125.out 1).trans rfl
          have hcz14_2 : wr.cell? ⟨gb125, 2, none⟩ = some (.slice A1_2 l1_2.length c1_2) := (blk_cell BK125.out 2).trans rfl
          have hfz14_0 := blk_frozen BK125.out 0
          have hfz14_1 := blk_frozen BK125.out 1
          have hfz14_2 := blk_frozen BK125.out 2
          go_upto_block 2 with (fail)
          go_cut [8] (fun v8 wc => ∃ (kq : Nat) (x8_12 : Bool), v8 = .bool x8_12 ∧ Aside0 (rule_Check.j4 kq x8_12 = some r) ∧ Aside0 (kq ≤ k1) ∧ Aside0 (wc.heap[gb125]? = some (.cells #[.int .i64 a1_0, .int .i64 a1_1, (.slice A1_2 l1_2.length c1_2)] 53 (0, 0))) ∧ Aside0 (Below w.heap.size w wc))
          case first =>
            have H := HC13.out
            clear HC13
            have HC15 := Aside0.mk H
            clear H
            go_upto_if 31 with (fail)
            go_cut [31] (fun v31 wc => ∃ (kq : Nat) (x31_14 : Bool), v31 = .bool x31_14 ∧ Aside0 (rule_Check.j2 kq false a1_0 x31_14 a1_0 a1_1 l1_2 = some r) ∧ Aside0 (kq ≤ k1) ∧ Aside0 (wc.heap[gb125]? = some (.cells #[.int .i64 a1_0, .int .i64 a1_1, (.slice A1_2 l1_2.length c1_2)] 53 (0, 0))) ∧ Aside0 (Below w.heap.size w wc))
            case first =>
              have H := HC15.out
              clear HC15
              by_cases c16 : a1_0 = 1
              · rw [if_pos c16] at H
                have c16b0 : (a1_0 == 1) = true := beq_iff_eq.mpr c16
                have c16b1 : (a1_0 != 1) = false := bne_eq_false_iff_eq.mpr c16
                clear c16
                (first | rw [c16b0] | (simp only [i64_w, i32_w]; rw [c16b0]) | skip)
                have H' := Aside0.mk H
                clear H
                go_wp2
                go_meet
                case rel => exact ⟨_, ((a1_0 == 1)), (by first | rfl | (simp; done) | (simp [*]; done)), H', ⟨by have := HK1.out; first | omega | exact Nat.le_refl _⟩, ⟨by (with_reducible repeat (first | refine blk_drewN ?_ _ | refine blk_drew ?_ | refine blk_alloc ?_ _)); exact BK125.out⟩, ⟨by repeat (first | (with_reducible first | exact HB.out | apply below_alloc | apply pw_below_drewN | apply below_drew1 | refine below_set ?_ GE125.out) | exact HB.out)⟩⟩
              · rw [if_neg c16] at H
                have c16b0 : (a1_0 == 1) = false := beq_eq_false_iff_ne.mpr c16
                have c16b1 : (a1_0 != 1) = true := bne_iff_ne.mpr c16
                (first | rw [c16b0] | (simp only [i64_w, i32_w]; rw [c16b0]) | skip)
                have H' := Aside0.mk H
                clear H
                go_wp2
                go_meet
                case rel => exact ⟨_, ((a1_0 == 2)), (by first | rfl | (simp; done) | (simp [*]; done)), H', ⟨by have := HK1.out; first | omega | exact Nat.le_refl _⟩, ⟨by (with_reducible repeat (first | refine blk_drewN ?_ _ | refine blk_drew ?_ | refine blk_alloc ?_ _)); exact BK125.out⟩, ⟨by repeat (first | (with_reducible first | exact HB.out | apply below_alloc | apply pw_below_drewN | apply below_drew1 | refine below_set ?_ GE125.out) | exact HB.out)⟩⟩
            case rest =>
              clear HC15
              try clear c1
              try clear p1
              try clear q1
              try clear hx1
              try clear p2
              try clear c3
              try clear c4
              try clear p6
              try clear c7
              try clear c7b0
              try clear c8
              try clear c8b0
              try clear c9
              try clear c9b0
              try clear c11
              try clear c11b0
              try clear c12
              try clear p12
              try clear q12
              try clear hx12
              try clear c16
              try clear c16b0
              try clear c16b1
              try clear hcz14_0
              try clear hcz14_1
              try clear hcz14_2
              try clear hcz6_0
              try clear hcz6_1
              try clear hcz6_2
              try clear hfz14_0
              try clear hfz14_1
              try clear hfz14_2
              try clear hfz6_0
              try clear hfz6_1
              try clear hfz6_2
              try clear hx127_0
              try clear p1
              try clear p127
              try clear p2
              try clear q1
              try clear q127
              obtain ⟨kq, x31_14, rfl, HA, HJ14, BK125, HB⟩ := hcut
              cases kq with
              | zero => exact absurd HA.out (by simp [rule_Check.j2])
              | succ kj14 =>
                have H := HA.out
                clear HA
                simp only [rule_Check.j2] at H
                by_cases c17 : x31_14 = true
                · subst c17
                  have H1 : (if a1_1 = 0 then (rule_Check.j4 kj14 (decide ((l1_2.length : Int) ≥ 2))) else (rule_Check.j4 kj14 false)) = some r := by rw [if_pos rfl] at H; exact H
                  clear H
                  have H := H1
                  clear H1
                  by_cases c18 : a1_1 = 0
                  · rw [if_pos c18] at H
                    have c18b0 : (a1_1 == 0) = true := beq_iff_eq.mpr c18
                    have c18b1 : (a1_1 != 0) = false := bne_eq_false_iff_eq.mpr c18
                    clear c18
                    have H' := Aside0.mk H
                    clear H
                    have hcz19_0 : wc.cell? ⟨gb125, 0, none⟩ = some (.int .i64 a1_0) := (blk_cell BK125.out 0).trans rfl
                    have hcz19_1 : wc.cell? ⟨gb125, 1, none⟩ = some (.int .i64 a1_1) := (blk_cell BK125.out 1).trans rfl
                    have hcz19_2 : wc.cell? ⟨gb125, 2, none⟩ = some (.slice A1_2 l1_2.length c1_2) := (blk_cell BK125.out 2).trans rfl
                    have hfz19_0 := blk_frozen BK125.out 0
                    have hfz19_1 := blk_frozen BK125.out 1
                    have hfz19_2 := blk_frozen BK125.out 2
                    go_wp2
                    go_meet
                    case rel => exact ⟨_, (decide ((l1_2.length : Int) ≥ 2)), (by first | rfl | (simp; done) | (simp [*]; done)), H', ⟨by have := HK1.out; have := HJ14.out; first | omega | exact Nat.le_refl _⟩, ⟨by (with_reducible repeat (first | refine blk_drewN ?_ _ | refine blk_drew ?_ | refine blk_alloc ?_ _)); exact BK125.out⟩, ⟨by repeat (first | (with_reducible first | exact HB.out | apply below_alloc | apply pw_below_drewN | apply below_drew1 | refine below_set ?_ GE125.out) | exact HB.out)⟩⟩
                  · rw [if_neg c18] at H
                    have c18b0 : (a1_1 == 0) = false := beq_eq_false_iff_ne.mpr c18
                    have c18b1 : (a1_1 != 0) = true := bne_iff_ne.mpr c18
                    have H' := Aside0.mk H
                    clear H
                    have hcz20_0 : wc.cell? ⟨gb125, 0, none⟩ = some (.int .i64 a1_0) := (blk_cell BK125.out 0).trans rfl
                    have hcz20_1 : wc.cell? ⟨gb125, 1, none⟩ = some (.int .i64 a1_1) := (blk_cell BK125.out 1).trans rfl
                    have hcz20_2 : wc.cell? ⟨gb125, 2, none⟩ = some (.slice A1_2 l1_2.length c1_2) := (blk_cell BK125.out 2).trans rfl
                    have hfz20_0 := blk_frozen BK125.out 0
                    have hfz20_1 := blk_frozen BK125.out 1
                    have hfz20_2 := blk_frozen BK125.out 2
                    go_wp2
                    go_meet
                    case rel => exact ⟨_, (false), (by first | rfl | (simp; done) | (simp [*]; done)), H', ⟨by have := HK1.out; have := HJ14.out; first | omega | exact Nat.le_refl _⟩, ⟨by (with_reducible repeat (first | refine blk_drewN ?_ _ | refine blk_drew ?_ | refine blk_alloc ?_ _)); exact BK125.out⟩, ⟨by repeat (first | (with_reducible first | exact HB.out | apply below_alloc | apply pw_below_drewN | apply below_drew1 | refine below_set ?_ GE125.out) | exact HB.out)⟩⟩
                · replace c17 := Bool.eq_false_iff.mpr c17
                  subst c17
                  have H1 : (if a1_0 = 3 then (rule_Check.j3 kj14 false a1_0 (a1_0 == 3) a1_0 a1_1 l1_2) else (rule_Check.j3 kj14 false a1_0 (a1_0 == 4) a1_0 a1_1 l1_2)) = some r := by rw [if_neg (show ¬ (false = true) by decide)] at H; exact H
                  clear H
                  have H := H1
                  clear H1
                  have HC21 := Aside0.mk H
                  clear H
                  go_upto_if 43 with (fail)
                  go_cut [43] (fun v43 wc => ∃ (kq : Nat) (x43_20 : Bool), v43 = .bool x43_20 ∧ Aside0 (rule_Check.j3 kq false a1_0 x43_20 a1_0 a1_1 l1_2 = some r) ∧ Aside0 (kq ≤ kj14) ∧ Aside0 (wc.heap[gb125]? = some (.cells #[.int .i64 a1_0, .int .i64 a1_1, (.slice A1_2 l1_2.length c1_2)] 53 (0, 0))) ∧ Aside0 (Below w.heap.size w wc))
                  case first =>
                    have H := HC21.out
                    clear HC21
                    by_cases c22 : a1_0 = 3
                    · rw [if_pos c22] at H
                      have c22b0 : (a1_0 == 3) = true := beq_iff_eq.mpr c22
                      have c22b1 : (a1_0 != 3) = false := bne_eq_false_iff_eq.mpr c22
                      clear c22
                      (first | rw [c22b0] | (simp only [i64_w, i32_w]; rw [c22b0]) | skip)
                      have H' := Aside0.mk H
                      clear H
                      go_wp2
                      go_meet
                      case rel => exact ⟨_, ((a1_0 == 3)), (by first | rfl | (simp; done) | (simp [*]; done)), H', ⟨by have := HK1.out; have := HJ14.out; first | omega | exact Nat.le_refl _⟩, ⟨by (with_reducible repeat (first | refine blk_drewN ?_ _ | refine blk_drew ?_ | refine blk_alloc ?_ _)); exact BK125.out⟩, ⟨by repeat (first | (with_reducible first | exact HB.out | apply below_alloc | apply pw_below_drewN | apply below_drew1 | refine below_set ?_ GE125.out) | exact HB.out)⟩⟩
                    · rw [if_neg c22] at H
                      have c22b0 : (a1_0 == 3) = false := beq_eq_false_iff_ne.mpr c22
                      have c22b1 : (a1_0 != 3) = true := bne_iff_ne.mpr c22
                      (first | rw [c22b0] | (simp only [i64_w, i32_w]; rw [c22b0]) | skip)
                      have H' := Aside0.mk H
                      clear H
                      go_wp2
                      go_meet
                      case rel => exact ⟨_, ((a1_0 == 4)), (by first | rfl | (simp; done) | (simp [*]; done)), H', ⟨by have := HK1.out; have := HJ14.out; first | omega | exact Nat.le_refl _⟩, ⟨by (with_reducible repeat (first | refine blk_drewN ?_ _ | refine blk_drew ?_ | refine blk_alloc ?_ _)); exact BK125.out⟩, ⟨by repeat (first | (with_reducible first | exact HB.out | apply below_alloc | apply pw_below_drewN | apply below_drew1 | refine below_set ?_ GE125.out) | exact HB.out)⟩⟩
                  case rest =>
                    clear HC21
                    try clear c1
                    try clear p1
                    try clear q1
                    try clear hx1
                    try clear c2
                    try clear p2
                    try clear c3
                    try clear c4
                    try clear p6
                    try clear c7
                    try clear c7b0
                    try clear c8
                    try clear c8b0
                    try clear c9
                    try clear c9b0
                    try clear c11
                    try clear c11b0
                    try clear c12
                    try clear p12
                    try clear q12
                    try clear hx12
                    try clear c16
                    try clear c16b0
                    try clear c16b1
                    try clear c17
                    try clear c18
                    try clear c18b0
                    try clear c18b1
                    try clear c22
                    try clear c22b0
                    try clear c22b1
                    try clear hcz14_0
                    try clear hcz14_1
                    try clear hcz14_2
                    try clear hcz19_0
                    try clear hcz19_1
                    try clear hcz19_2
                    try clear hcz20_0
                    try clear hcz20_1
                    try clear hcz20_2
                    try clear hcz6_0
                    try clear hcz6_1
                    try clear hcz6_2
                    try clear hfz14_0
                    try clear hfz14_1
                    try clear hfz14_2
                    try clear hfz19_0
                    try clear hfz19_1
                    try clear hfz19_2
                    try clear hfz20_0
                    try clear hfz20_1
                    try clear hfz20_2
                    try clear hfz6_0
                    try clear hfz6_1
                    try clear hfz6_2
                    try clear hx127_0
                    try clear p1
                    try clear p12
                    try clear p127
                    try clear p2
                    try clear p6
                    try clear q1
                    try clear q12
                    try clear q127
                    obtain ⟨kq, x43_20, rfl, HA, HJ20, BK125, HB⟩ := hcut
                    cases kq with
                    | zero => exact absurd HA.out (by simp [rule_Check.j3])
                    | succ kj20 =>
                      have H := HA.out
                      clear HA
                      simp only [rule_Check.j3] at H
                      by_cases c23 : x43_20 = true
                      · subst c23
                        have H1 : (if a1_1 ≥ 1 then (if a1_1 ≤ 999999999 then (rule_Check.j4 kj20 (decide ((l1_2.length : Int) ≥ 1))) else (rule_Check.j4 kj20 false)) else (rule_Check.j4 kj20 false)) = some r := by rw [if_pos rfl] at H; exact H
                        clear H
                        have H := H1
                        clear H1
                        by_cases c24 : a1_1 ≥ 1
                        · rw [if_pos c24] at H
                          have c24b0 : decide (1 ≤ a1_1) = true := decide_eq_true c24
                          clear c24
                          by_cases c25 : a1_1 ≤ 999999999
                          · rw [if_pos c25] at H
                            have c25b0 : decide (a1_1 ≤ 999999999) = true := decide_eq_true c25
                            clear c25
                            have H' := Aside0.mk H
                            clear H
                            have hcz26_0 : wc.cell? ⟨gb125, 0, none⟩ = some (.int .i64 a1_0) := (blk_cell BK125.out 0).trans rfl
                            have hcz26_1 : wc.cell? ⟨gb125, 1, none⟩ = some (.int .i64 a1_1) := (blk_cell BK125.out 1).trans rfl
                            have hcz26_2 : wc.cell? ⟨gb125, 2, none⟩ = some (.slice A1_2 l1_2.length c1_2) := (blk_cell BK125.out 2).trans rfl
                            have hfz26_0 := blk_frozen BK125.out 0
                            have hfz26_1 := blk_frozen BK125.out 1
                            have hfz26_2 := blk_frozen BK125.out 2
                            go_wp2
                            go_meet
                            case rel => exact ⟨_, (decide ((l1_2.length : Int) ≥ 1)), (by first | rfl | (simp; done) | (simp [*]; done)), H', ⟨by have := HK1.out; have := HJ14.out; have := HJ20.out; first | omega | exact Nat.le_refl _⟩, ⟨by (with_reducible repeat (first | refine blk_drewN ?_ _ | refine blk_drew ?_ | refine blk_alloc ?_ _)); exact BK125.out⟩, ⟨by repeat (first | (with_reducible first | exact HB.out | apply below_alloc | apply pw_below_drewN | apply below_drew1 | refine below_set ?_ GE125.out) | exact HB.out)⟩⟩
                          · rw [if_neg c25] at H
                            have c25b0 : decide (a1_1 ≤ 999999999) = false := decide_eq_false c25
                            clear c25
                            have H' := Aside0.mk H
                            clear H
                            have hcz27_0 : wc.cell? ⟨gb125, 0, none⟩ = some (.int .i64 a1_0) := (blk_cell BK125.out 0).trans rfl
                            have hcz27_1 : wc.cell? ⟨gb125, 1, none⟩ = some (.int .i64 a1_1) := (blk_cell BK125.out 1).trans rfl
                            have hcz27_2 : wc.cell? ⟨gb125, 2, none⟩ = some (.slice A1_2 l1_2.length c1_2) := (blk_cell BK125.out 2).trans rfl
                            have hfz27_0 := blk_frozen BK125.out 0
                            have hfz27_1 := blk_frozen BK125.out 1
                            have hfz27_2 := blk_frozen BK125.out 2
                            go_wp2
                            go_meet
                            case rel => exact ⟨_, (false), (by first | rfl | (simp; done) | (simp [*]; done)), H', ⟨by have := HK1.out; have := HJ14.out; have := HJ20.out; first | omega | exact Nat.le_refl _⟩, ⟨by (with_reducible repeat (first | refine blk_drewN ?_ _ | refine blk_drew ?_ | refine blk_alloc ?_ _)); exact BK125.out⟩, ⟨by repeat (first | (with_reducible first | exact HB.out | apply below_alloc | apply pw_below_drewN | apply below_drew1 | refine below_set ?_ GE125.out) | exact HB.out)⟩⟩
                        · rw [if_neg c24] at H
                          have c24b0 : decide (1 ≤ a1_1) = false := decide_eq_false c24
                          clear c24
                          have H' := Aside0.mk H
                          clear H
                          have hcz28_0 : wc.cell? ⟨gb125, 0, none⟩ = some (.int .i64 a1_0) := (blk_cell BK125.out 0).trans rfl
                          have hcz28_1 : wc.cell? ⟨gb125, 1, none⟩ = some (.int .i64 a1_1) := (blk_cell BK125.out 1).trans rfl
                          have hcz28_2 : wc.cell? ⟨gb125, 2, none⟩ = some (.slice A1_2 l1_2.length c1_2) := (blk_cell BK125.out 2).trans rfl
                          have hfz28_0 := blk_frozen BK125.out 0
                          have hfz28_1 := blk_frozen BK125.out 1
                          have hfz28_2 := blk_frozen BK125.out 2
                          go_wp2
                          go_meet
                          case rel => exact ⟨_, (false), (by first | rfl | (simp; done) | (simp [*]; done)), H', ⟨by have := HK1.out; have := HJ14.out; have := HJ20.out; first | omega | exact Nat.le_refl _⟩, ⟨by (with_reducible repeat (first | refine blk_drewN ?_ _ | refine blk_drew ?_ | refine blk_alloc ?_ _)); exact BK125.out⟩, ⟨by repeat (first | (with_reducible first | exact HB.out | apply below_alloc | apply pw_below_drewN | apply below_drew1 | refine below_set ?_ GE125.out) | exact HB.out)⟩⟩
                      · replace c23 := Bool.eq_false_iff.mpr c23
                        subst c23
                        have H1 : (if a1_0 = 5 then (if a1_1 ≥ 1 then (rule_Check.j4 kj20 (decide (a1_1 ≤ (l1_2.length : Int)))) else (rule_Check.j4 kj20 false)) else (rule_Check.j4 kj20 false)) = some r := by rw [if_neg (show ¬ (false = true) by decide)] at H; exact H
                        clear H
                        have H := H1
                        clear H1
                        by_cases c29 : a1_0 = 5
                        · rw [if_pos c29] at H
                          have c29b0 : (a1_0 == 5) = true := beq_iff_eq.mpr c29
                          have c29b1 : (a1_0 != 5) = false := bne_eq_false_iff_eq.mpr c29
                          clear c29
                          by_cases c30 : a1_1 ≥ 1
                          · rw [if_pos c30] at H
                            have c30b0 : decide (1 ≤ a1_1) = true := decide_eq_true c30
                            clear c30
                            have H' := Aside0.mk H
                            clear H
                            have hcz31_0 : wc.cell? ⟨gb125, 0, none⟩ = some (.int .i64 a1_0) := (blk_cell BK125.out 0).trans rfl
                            have hcz31_1 : wc.cell? ⟨gb125, 1, none⟩ = some (.int .i64 a1_1) := (blk_cell BK125.out 1).trans rfl
                            have hcz31_2 : wc.cell? ⟨gb125, 2, none⟩ = some (.slice A1_2 l1_2.length c1_2) := (blk_cell BK125.out 2).trans rfl
                            have hfz31_0 := blk_frozen BK125.out 0
                            have hfz31_1 := blk_frozen BK125.out 1
                            have hfz31_2 := blk_frozen BK125.out 2
                            go_wp2
                            go_meet
                            case rel => exact ⟨_, (decide (a1_1 ≤ (l1_2.length : Int))), (by first | rfl | (simp; done) | (simp [*]; done)), H', ⟨by have := HK1.out; have := HJ14.out; have := HJ20.out; first | omega | exact Nat.le_refl _⟩, ⟨by (with_reducible repeat (first | refine blk_drewN ?_ _ | refine blk_drew ?_ | refine blk_alloc ?_ _)); exact BK125.out⟩, ⟨by repeat (first | (with_reducible first | exact HB.out | apply below_alloc | apply pw_below_drewN | apply below_drew1 | refine below_set ?_ GE125.out) | exact HB.out)⟩⟩
                          · rw [if_neg c30] at H
                            have c30b0 : decide (1 ≤ a1_1) = false := decide_eq_false c30
                            clear c30
                            have H' := Aside0.mk H
                            clear H
                            have hcz32_0 : wc.cell? ⟨gb125, 0, none⟩ = some (.int .i64 a1_0) := (blk_cell BK125.out 0).trans rfl
                            have hcz32_1 : wc.cell? ⟨gb125, 1, none⟩ = some (.int .i64 a1_1) := (blk_cell BK125.out 1).trans rfl
                            have hcz32_2 : wc.cell? ⟨gb125, 2, none⟩ = some (.slice A1_2 l1_2.length c1_2) := (blk_cell BK125.out 2).trans rfl
                            have hfz32_0 := blk_frozen BK125.out 0
                            have hfz32_1 := blk_frozen BK125.out 1
                            have hfz32_2 := blk_frozen BK125.out 2
                            go_wp2
                            go_meet
                            case rel => exact ⟨_, (false), (by first | rfl | (simp; done) | (simp [*]; done)), H', ⟨by have := HK1.out; have := HJ14.out; have := HJ20.out; first | omega | exact Nat.le_refl _⟩, ⟨by (with_reducible repeat (first | refine blk_drewN ?_ _ | refine blk_drew ?_ | refine blk_alloc ?_ _)); exact BK125.out⟩, ⟨by repeat (first | (with_reducible first | exact HB.out | apply below_alloc | apply pw_below_drewN | apply below_drew1 | refine below_set ?_ GE125.out) | exact HB.out)⟩⟩
                        · rw [if_neg c29] at H
                          have c29b0 : (a1_0 == 5) = false := beq_eq_false_iff_ne.mpr c29
                          have c29b1 : (a1_0 != 5) = true := bne_iff_ne.mpr c29
                          have H' := Aside0.mk H
                          clear H
                          go_wp2
                          go_meet
                          case rel => exact ⟨_, (false), (by first | rfl | (simp; done) | (simp [*]; done)), H', ⟨by have := HK1.out; have := HJ14.out; have := HJ20.out; first | omega | exact Nat.le_refl _⟩, ⟨by (with_reducible repeat (first | refine blk_drewN ?_ _ | refine blk_drew ?_ | refine blk_alloc ?_ _)); exact BK125.out⟩, ⟨by repeat (first | (with_reducible first | exact HB.out | apply below_alloc | apply pw_below_drewN | apply below_drew1 | refine below_set ?_ GE125.out) | exact HB.out)⟩⟩
          case rest =>
            clear HC13
            try clear c1
            try clear p1
            try clear q1
            try clear hx1
            try clear c2
            try clear p2
            try clear c3
            try clear c4
            try clear p6
            try clear c7
            try clear c7b0
            try clear c8
            try clear c8b0
            try clear c9
            try clear c9b0
            try clear c11
            try clear c11b0
            try clear c12
            try clear p12
            try clear q12
            try clear hx12
            try clear c16
            try clear c16b0
            try clear c16b1
            try clear c17
            try clear c18
            try clear c18b0
            try clear c18b1
            try clear c22
            try clear c22b0
            try clear c22b1
            try clear c23
            try clear c24
            try clear c24b0
            try clear c25
            try clear c25b0
            try clear c29
            try clear c29b0
            try clear c29b1
            try clear c30
            try clear c30b0
            try clear c31
            try clear hcz14_0
            try clear hcz14_1
            try clear hcz14_2
            try clear hcz19_0
            try clear hcz19_1
            try clear hcz19_2
            try clear hcz20_0
            try clear hcz20_1
            try clear hcz20_2
            try clear hcz26_0
            try clear hcz26_1
            try clear hcz26_2
            try clear hcz27_0
            try clear hcz27_1
            try clear hcz27_2
            try clear hcz28_0
            try clear hcz28_1
            try clear hcz28_2
            try clear hcz31_0
            try clear hcz31_1
            try clear hcz31_2
            try clear hcz32_0
            try clear hcz32_1
            try clear hcz32_2
            try clear hcz6_0
            try clear hcz6_1
            try clear hcz6_2
            try clear hfz14_0
            try clear hfz14_1
            try clear hfz14_2
            try clear hfz19_0
            try clear hfz19_1
            try clear hfz19_2
            try clear hfz20_0
            try clear hfz20_1
            try clear hfz20_2
            try clear hfz26_0
            try clear hfz26_1
            try clear hfz26_2
            try clear hfz27_0
            try clear hfz27_1
            try clear hfz27_2
            try clear hfz28_0
            try clear hfz28_1
            try clear hfz28_2
            try clear hfz31_0
            try clear hfz31_1
            try clear hfz31_2
            try clear hfz32_0
            try clear hfz32_1
            try clear hfz32_2
            try clear hfz6_0
            try clear hfz6_1
            try clear hfz6_2
            try clear hx127_0
            try clear p1
            try clear p12
            try clear p127
            try clear p2
            try clear p6
            try clear q1
            try clear q12
            try clear q127
            obtain ⟨kq, x8_12, rfl, HA, HJ12, BK125, HB⟩ := hcut
            cases kq with
            | zero => exact absurd HA.out (by simp [rule_Check.j4])
            | succ kj12 =>
              have H := HA.out
              clear HA
              simp only [rule_Check.j4] at H
              by_cases c33 : x8_12 = true
              · subst c33
                have H1 : (some 0) = some r := by rw [if_pos rfl] at H; exact H
                clear H
                have H := H1
                clear H1
                obtain rfl := Option.some.inj H
                go_wp2
                go_ret
                exact ⟨by first | rfl | (simp [errW_none, errW_some] <;> rfl) | (simp [*, errW_none, errW_some] <;> rfl), by repeat (first | (with_reducible first | exact HB.out | apply below_alloc | apply pw_below_drewN | apply below_drew1 | refine below_set ?_ GE125.out) | exact HB.out)⟩
              · replace c33 := Bool.eq_false_iff.mpr c33
                subst c33
                have H1 : (some 1) = some r := by rw [if_neg (show ¬ (false = true) by decide)] at H; exact H
                clear H
                have H := H1
                clear H1
                obtain rfl := Option.some.inj H
                go_wp2
                go_ret
                exact ⟨by first | rfl | (simp [errW_none, errW_some] <;> rfl) | (simp [*, errW_none, errW_some] <;> rfl), by repeat (first | (with_reducible first | exact HB.out | apply below_alloc | apply pw_below_drewN | apply below_drew1 | refine below_set ?_ GE125.out) | exact HB.out)⟩
  · replace c4 := Bool.eq_false_iff.mpr c4
    subst c4
    have H1 : (some 1) = some r := by rw [if_neg (show ¬ (false = true) by decide)] at H; exact H
    clear H
    have H := H1
    clear H1
    obtain rfl := Option.some.inj H
    go_enter Tryd.func33, Tryd.ntmps33
    go_wp2_with (first | ((with_reducible refine gate_dst (N := 3) rfl ?_); (try (refine gate_guard (by rfl) ?_; dsimp only)); refine box_event ?hg (N := 3) ?hd (cs := #[.int .i64 a1_0, .int .i64 a1_1, .slice A1_2 l1_2.length c1_2]) (t := 53) ?hr ?_; (case hd => rfl); (case hg => rfl); (case hr => first | (go_simp; done) | (go_simp; rfl)); intro gb125 hg w34 hbox hb; have n0_ := Aside0.mk (below_step (by repeat (first | (with_reducible first | exact HB.out | apply below_alloc | apply pw_below_drewN | apply below_drew1) | exact HB.out)) hb); have n1_ := Aside0.mk (hbox); have n2_ := Aside0.mk ((by rw [hg]; exact (below_size (by repeat (first | (with_reducible first | exact HB.out | apply below_alloc | apply pw_below_drewN | apply below_drew1) | exact HB.out))) : w.heap.size ≤ gb125)); have n3_ := Aside0.mk ((by rw [hg]; exact (below_size (by repeat (first | (with_reducible first | exact HB.out | apply below_alloc | apply pw_below_drewN | apply below_drew1) | exact HB.out))) : w.heap.size ≤ gb125)); clear HB; have HB := n0_; have BK125 := n1_; have GW125 := n2_; have GE125 := n3_; clear n0_ n1_ n2_ n3_; clear hb hbox hg) | ((with_reducible refine gate_callee (f := 31) rfl ?_); refine goesL_ (some 10) rfl rfl Tryd.func31 (by kernel_rfl) rfl #[.int .i64 a0] rfl (by (try simp only [List.map_toArray, List.map_cons, List.map_nil]); first | done | rfl | (simp only [List.length_drop, List.length_take]; rfl)) ?_; (with_reducible refine (rule_fits.calls a0 false _ A3.out).mono ?_); rintro e w' ⟨rfl, ⟨nd, rfl⟩⟩; refine ⟨_, rfl, ?_⟩))
    go_ret
    exact ⟨by first | rfl | (simp [errW_none, errW_some] <;> rfl) | (simp [*, errW_none, errW_some] <;> rfl), by repeat (first | (with_reducible first | exact HB.out | apply below_alloc | apply pw_below_drewN | apply below_drew1 | refine below_set ?_ GE125.out) | exact HB.out)⟩
section
open Go
theorem rc_ev_succ {α : Type} {g : Nat → Option α} {r : α} (h : Ev (fun k => g (k + 1)) r) : Ev g r := Ev.step (fun _ => rfl) h
theorem rc_ev_some {α : Type} {r r' : α} (h : r = r') : Ev (fun _ => some r) r' := by subst h; exact Ev.now r
theorem rc_ev_pos {α : Type} {c : Prop} [Decidable c] {f g : Nat → Option α} {r : α} (h : c) (e : Ev f r) : Ev (fun k => if c then f k else g k) r := by simp only [h, if_true]; exact e
theorem rc_ev_neg {α : Type} {c : Prop} [Decidable c] {f g : Nat → Option α} {r : α} (h : ¬ c) (e : Ev g r) : Ev (fun k => if c then f k else g k) r := by simp only [h, if_false]; exact e
theorem rc_wr {i : Int} (h0 : -9223372036854775808 ≤ i + 1) (h : i + 1 ≤ 9223372036854775807) : wrap64 (i + 1) = i + 1 := by unfold wrap64; omega
def rc_er (b : Bool) : Int := cond b 0 1
def rc_stepsOk (n : Int) : Int → List Int → Bool
  | _, [] => true
  | last, x :: r => decide (last < x) && decide (x < n) && rc_stepsOk n x r
def rc_kindOk (K k : Int) (len : Nat) : Bool :=
  if K = 1 ∨ K = 2 then decide (k = 0 ∧ 2 ≤ len) else if K = 3 ∨ K = 4 then decide (1 ≤ k ∧ k ≤ 999999999 ∧ 1 ≤ len) else if K = 5 then decide (1 ≤ k ∧ k ≤ (len : Int)) else false
def rc_chk (n K k : Int) (s : List Int) : Bool := decide (0 ≤ n ∧ n ≤ 12) && rc_stepsOk n (-1) s && rc_kindOk K k s.length
theorem rc_rd_i (l : List Int) (i : Nat) (h : i < l.length) : rd l (i : Int) = l[i] := by
  unfold rd
  rw [Int.toNat_natCast, List.getD_eq_getElem?_getD, List.getElem?_eq_getElem h]; rfl
theorem rc_j4_ev (b : Bool) : Ev (fun k => rule_Check.j4 k b) (rc_er b) := by
  refine rc_ev_succ ?_
  simp only [rule_Check.j4]
  cases b <;> exact rc_ev_some rfl
theorem rc_kind_ev (K k : Int) (s : List Int) : Ev (fun m => if K = 1 then (rule_Check.j2 m false K (K == 1) K k s) else (rule_Check.j2 m false K (K == 2) K k s)) (rc_er (rc_kindOk K k s.length)) := by
  have key : ∀ b, b = decide (K = 1 ∨ K = 2) → Ev (fun m => rule_Check.j2 m false K b K k s) (rc_er (rc_kindOk K k s.length)) := by
    intro b hb
    refine rc_ev_succ ?_
    simp only [rule_Check.j2]
    by_cases h : K = 1 ∨ K = 2
    · rw [decide_eq_true h] at hb
      subst hb
      refine rc_ev_pos rfl ?_
      have e : rc_kindOk K k s.length = decide (k = 0 ∧ 2 ≤ s.length) := by unfold rc_kindOk; rw [if_pos h]
      rw [e]
      by_cases hk : k = 0
      · refine rc_ev_pos hk ?_
        have e2 : decide (k = 0 ∧ 2 ≤ s.length) = decide ((s.length : Int) ≥ 2) := by rw [decide_eq_decide]; omega
        rw [e2]
        exact rc_j4_ev _
      · refine rc_ev_neg hk ?_
        rw [decide_eq_false (by omega)]
        exact rc_j4_ev _
    · rw [decide_eq_false h] at hb
      subst hb
      refine rc_ev_neg (by simp) ?_
      have key2 : ∀ b, b = decide (K = 3 ∨ K = 4) → Ev (fun m => rule_Check.j3 m false K b K k s) (rc_er (rc_kindOk K k s.length)) := by
        intro b hb
        refine rc_ev_succ ?_
        simp only [rule_Check.j3]
        by_cases h3 : K = 3 ∨ K = 4
        · rw [decide_eq_true h3] at hb
          subst hb
          refine rc_ev_pos rfl ?_
          have e : rc_kindOk K k s.length = decide (1 ≤ k ∧ k ≤ 999999999 ∧ 1 ≤ s.length) := by unfold rc_kindOk; rw [if_neg h, if_pos h3]
          rw [e]
          by_cases hk : k ≥ 1
          · refine rc_ev_pos hk ?_
            by_cases hk2 : k ≤ 999999999
            · refine rc_ev_pos hk2 ?_
              have e2 : decide (1 ≤ k ∧ k ≤ 999999999 ∧ 1 ≤ s.length) = decide ((s.length : Int) ≥ 1) := by
                rw [decide_eq_decide]; omega
              rw [e2]
              exact rc_j4_ev _
            · refine rc_ev_neg hk2 ?_
              rw [decide_eq_false (by omega)]
              exact rc_j4_ev _
          · refine rc_ev_neg hk ?_
            rw [decide_eq_false (by omega)]
            exact rc_j4_ev _
        · rw [decide_eq_false h3] at hb
          subst hb
          refine rc_ev_neg (by simp) ?_
          by_cases h5 : K = 5
          · refine rc_ev_pos h5 ?_
            have e : rc_kindOk K k s.length = decide (1 ≤ k ∧ k ≤ (s.length : Int)) := by unfold rc_kindOk; rw [if_neg h, if_neg h3, if_pos h5]
            rw [e]
            by_cases hk : k ≥ 1
            · refine rc_ev_pos hk ?_
              have e2 : decide (1 ≤ k ∧ k ≤ (s.length : Int)) = decide (k ≤ (s.length : Int)) := by
                rw [decide_eq_decide]; omega
              rw [e2]
              exact rc_j4_ev _
            · refine rc_ev_neg hk ?_
              rw [decide_eq_false (by omega)]
              exact rc_j4_ev _
          · refine rc_ev_neg h5 ?_
            have e : rc_kindOk K k s.length = false := by unfold rc_kindOk; rw [if_neg h, if_neg h3, if_neg h5]
            rw [e]
            exact rc_j4_ev _
      by_cases h3 : K = 3
      · refine rc_ev_pos h3 (key2 _ ?_)
        rw [decide_eq_true (.inl h3)]; simp [h3]
      · refine rc_ev_neg h3 (key2 _ ?_)
        rw [Bool.eq_iff_iff]; simp [h3]
  by_cases h1 : K = 1
  · refine rc_ev_pos h1 (key _ ?_)
    rw [decide_eq_true (.inl h1)]; simp [h1]
  · refine rc_ev_neg h1 (key _ ?_)
    rw [Bool.eq_iff_iff]; simp [h1]
theorem rc_chk_l0 (n K k : Int) (s : List Int) (hs : s.length ≤ 9223372036854775807) : ∀ (d i : Nat) (last : Int), s.length - i = d → i ≤ s.length →
    Ev (fun m => rule_Check.l0 m n last s (s.length : Int) (i : Int) K k s) (rc_er (rc_stepsOk n last (s.drop i) && rc_kindOk K k s.length)) := by
  intro d
  induction d with
  | zero =>
    intro i last hd hi
    refine rc_ev_succ ?_
    simp only [rule_Check.l0]
    refine rc_ev_neg (by omega) ?_
    rw [List.drop_of_length_le (by omega)]
    simp only [rc_stepsOk, Bool.true_and]
    exact rc_kind_ev K k s
  | succ d ih =>
    intro i last hd hi
    have hlt : i < s.length := by omega
    refine rc_ev_succ ?_
    simp only [rule_Check.l0]
    refine rc_ev_pos (by omega) (rc_ev_pos (by omega) (rc_ev_pos (by omega) ?_))
    rw [List.drop_eq_getElem_cons hlt]
    simp only [rc_rd_i s i hlt, rc_stepsOk]
    have bad : Ev (fun m => rule_Check.j1 m n s[i] s (s.length : Int) (i : Int) true K k s) 1 := by
      refine rc_ev_succ ?_
      simp only [rule_Check.j1, if_true]
      exact rc_ev_some rfl
    by_cases h1 : s[i] ≤ last
    · refine rc_ev_pos h1 ?_
      rw [decide_eq_false (by omega)]
      exact bad
    · refine rc_ev_neg h1 ?_
      rw [decide_eq_true (by omega : last < s[i])]
      by_cases h2 : s[i] ≥ n
      · rw [decide_eq_false (by omega : ¬ s[i] < n)]
        simp only [h2, decide_true]
        exact bad
      · rw [decide_eq_true (by omega : s[i] < n)]
        simp only [h2, decide_false, Bool.true_and]
        refine rc_ev_succ ?_
        simp only [rule_Check.j1, Bool.false_eq_true, if_false]
        have := ih (i + 1) s[i] (by omega) (by omega)
        simp only [rc_wr (show -9223372036854775808 ≤ (i : Int) + 1 by omega) (by omega)]
        rw [Int.natCast_add] at this
        exact this
theorem rc_check_ev (n K k : Int) (s : List Int) (hs : s.length ≤ 9223372036854775807) : Ev (fun m => rule_Check.f m n K k s) (rc_er (rc_chk n K k s)) := by
  unfold rc_chk rule_Check.f rule_fits.f
  by_cases h : 0 ≤ n ∧ n ≤ 12
  · rw [decide_eq_true h]
    simp only [ge_iff_le, h.1, h.2, if_true, Option.bind_some, decide_true, Bool.true_and]
    have := rc_chk_l0 n K k s hs s.length 0 (-1) (by omega) (by omega)
    simpa using this
  · rw [decide_eq_false h]
    simp only [Bool.false_and]
    by_cases h0 : n ≥ 0
    · have h1 : ¬ n ≤ 12 := fun h1 => h ⟨h0, h1⟩
      simp only [h0, h1, if_true, Option.bind_some, decide_false, Bool.false_eq_true, if_false]
      exact rc_ev_some rfl
    · simp only [h0, if_false, Option.bind_some, Bool.false_eq_true]
      exact rc_ev_some rfl

theorem rc_steps_pos (n : Int) : ∀ (s : List Int) (last : Int), -1 ≤ last → rc_stepsOk n last s = true → ∀ x ∈ s, 0 ≤ x ∧ x < n
  | [], _, _, _ => by simp
  | y :: r, last, hl, h => by
    simp only [rc_stepsOk, Bool.and_eq_true, decide_eq_true_iff] at h
    intro x hx
    rcases List.mem_cons.1 hx with rfl | hx
    · omega
    · exact rc_steps_pos n r y (by omega) h.2 x hx
theorem rc_chk_facts {n K k : Int} {s : List Int} (h : rc_chk n K k s = true) : (0 ≤ n ∧ n ≤ 12) ∧ (1 ≤ K ∧ K ≤ 5) ∧ ∀ x ∈ s, 0 ≤ x ∧ x < n := by
  unfold rc_chk at h
  simp only [Bool.and_eq_true, decide_eq_true_iff] at h
  refine ⟨h.1.1, ?_, rc_steps_pos n s (-1) (by omega) h.1.2⟩
  have hk := h.2
  unfold rc_kindOk at hk
  by_cases h1 : K = 1 ∨ K = 2
  · omega
  · rw [if_neg h1] at hk
    by_cases h3 : K = 3 ∨ K = 4
    · omega
    · rw [if_neg h3] at hk
      by_cases h5 : K = 5
      · omega
      · rw [if_neg h5] at hk; cases hk
end


end Go.Proofs.YtbcdlfodgoiodaaDoor.PRtx
