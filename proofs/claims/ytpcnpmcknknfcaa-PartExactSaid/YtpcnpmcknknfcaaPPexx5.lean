/- A text written by my program wip/gen/p2.py out of the translation and of my foreign texts; not trusted: Lean checks it. -/
import Derived.Test.YtpcnpmcknknfcaaPPexx0
import Derived.Test.YtpcnpmcknknfcaaPPexx4
namespace Go.Proofs.Ytpcnpmcknknfcaa.PPex
open Go.RowKit Go.Proofs.YtpcnpmcknknfcaaW.PrintWords Go.Proofs.YtpcnpmcknknfcaaW.PrintLast Go.Proofs.YtpcnpmcknknfcaaW.PrintMore
attribute [local go_sem] max2_int min2_int max_two min_two max_three min_three max_four min_four   -- for this text's walks alone
set_option linter.unusedVariables false
set_option linter.unusedSimpArgs false

/-! ### provostref02_At: function 78 -/
mutual
def provostref02_At.l0 : Nat → Int → Int → List Int → Int → Int → Option (List Int)
 | 0, _, _, _, _, _ => none
 | k + 1, x0, x1, x5, x6, x7 => if x7 < x0 then ((provostref02_ways.f k (wrap64 ((wrap64 (x0 - 1)) - x7)) x6).bind fun t168 => (provostref02_At.l1 k x0 x1 x5 x6 x7 t168)) else (some x5)
def provostref02_At.l1 : Nat → Int → Int → List Int → Int → Int → Int → Option (List Int)
 | 0, _, _, _, _, _, _ => none
 | k + 1, x0, x1, x5, x6, x7, x8 => if 0 ≤ x7 then (if x7 < (x5.length : Int) then (if (rd x5 x7) < x6 then (provostref02_At.j2 k x0 x1 x5 x6 x7 x8 (decide (x1 ≥ x8))) else (provostref02_At.j2 k x0 x1 x5 x6 x7 x8 false)) else (none)) else (none)
def provostref02_At.j2 : Nat → Int → Int → List Int → Int → Int → Int → Bool → Option (List Int)
 | 0, _, _, _, _, _, _, _ => none
 | k + 1, x0, x1, x5, x6, x7, x8, x32 => if x32 = true then (if 0 ≤ x7 then (if x7 < (x5.length : Int) then (provostref02_At.l1 k x0 (IntKind.u64.wrap (x1 - x8)) (x5.set (x7 : Int).toNat (wrap64 ((rd x5 x7) + 1))) x6 x7 x8) else (none)) else (none)) else (if 0 ≤ x7 then (if x7 < (x5.length : Int) then (if (rd x5 x7) = x6 then (provostref02_At.l0 k x0 x1 x5 (wrap64 (x6 + 1)) (wrap64 (x7 + 1))) else (provostref02_At.l0 k x0 x1 x5 x6 (wrap64 (x7 + 1)))) else (none)) else (none))
end
def provostref02_At.f (k : Nat) (a0 : Int) (a1 : Int) : Option (List Int) := if 0 ≤ a0 then (if (a0 : Int).toNat ≤ 35184372088832 then (provostref02_At.l0 k a0 a1 (List.replicate (a0 : Int).toNat 0) 0 0) else (none)) else (none)
theorem provostref02_At.mono_l : ∀ k, (∀ y0 y1 y2 y3 y4, LeO (provostref02_At.l0 k y0 y1 y2 y3 y4) (provostref02_At.l0 (k + 1) y0 y1 y2 y3 y4)) ∧ (∀ y0 y1 y2 y3 y4 y5, LeO (provostref02_At.l1 k y0 y1 y2 y3 y4 y5) (provostref02_At.l1 (k + 1) y0 y1 y2 y3 y4 y5)) ∧ (∀ y0 y1 y2 y3 y4 y5 y6, LeO (provostref02_At.j2 k y0 y1 y2 y3 y4 y5 y6) (provostref02_At.j2 (k + 1) y0 y1 y2 y3 y4 y5 y6))
 | 0 => ⟨fun _ _ _ _ _ r h => by simp [provostref02_At.l0] at h, fun _ _ _ _ _ _ r h => by simp [provostref02_At.l1] at h, fun _ _ _ _ _ _ _ r h => by simp [provostref02_At.j2] at h⟩
 | k + 1 => by
  obtain ⟨ih0, ih1, ih2⟩ := provostref02_At.mono_l k
  refine ⟨?_, ?_, ?_⟩
  ·intro y0 y1 y2 y3 y4
   unfold provostref02_At.l0
   repeat' first
   | (with_reducible exact ih0 _ _ _ _ _)
   | (with_reducible exact ih1 _ _ _ _ _ _)
   | (with_reducible exact ih2 _ _ _ _ _ _ _)
   | (with_reducible exact provostref02_ways.mono _ _ _)
   | (with_reducible exact LeO.refl _)
   | (with_reducible exact LeO.none _)
   | (with_reducible refine LeO.ite ?_ ?_)
   | (with_reducible refine LeO.bind ?_ (fun _ => ?_))
  ·intro y0 y1 y2 y3 y4 y5
   unfold provostref02_At.l1
   repeat' first
   | (with_reducible exact ih0 _ _ _ _ _)
   | (with_reducible exact ih1 _ _ _ _ _ _)
   | (with_reducible exact ih2 _ _ _ _ _ _ _)
   | (with_reducible exact provostref02_ways.mono _ _ _)
   | (with_reducible exact LeO.refl _)
   | (with_reducible exact LeO.none _)
   | (with_reducible refine LeO.ite ?_ ?_)
   | (with_reducible refine LeO.bind ?_ (fun _ => ?_))
  ·intro y0 y1 y2 y3 y4 y5 y6
   unfold provostref02_At.j2
   repeat' first
   | (with_reducible exact ih0 _ _ _ _ _)
   | (with_reducible exact ih1 _ _ _ _ _ _)
   | (with_reducible exact ih2 _ _ _ _ _ _ _)
   | (with_reducible exact provostref02_ways.mono _ _ _)
   | (with_reducible exact LeO.refl _)
   | (with_reducible exact LeO.none _)
   | (with_reducible refine LeO.ite ?_ ?_)
   | (with_reducible refine LeO.bind ?_ (fun _ => ?_))
theorem provostref02_At.mono : ∀ a0 a1 k, LeO (provostref02_At.f k a0 a1) (provostref02_At.f (k + 1) a0 a1) := by
 intro a0 a1 k
 obtain ⟨ih0, ih1, ih2⟩ := provostref02_At.mono_l k
 unfold provostref02_At.f
 repeat' first
   | (with_reducible exact ih0 _ _ _ _ _)
   | (with_reducible exact ih1 _ _ _ _ _ _)
   | (with_reducible exact ih2 _ _ _ _ _ _ _)
   | (with_reducible exact provostref02_ways.mono _ _ _)
   | (with_reducible exact LeO.refl _)
   | (with_reducible exact LeO.none _)
   | (with_reducible refine LeO.ite ?_ ?_)
   | (with_reducible refine LeO.bind ?_ (fun _ => ?_))
set_option maxHeartbeats 8000000 in
set_option maxRecDepth 100000 in
theorem provostref02_At.calls (k : Nat) (a0 : Int) (a1 : Int) (r : List Int) (w : World) (h : provostref02_At.f k a0 a1 = some r) :
  Calls Try.prog 78 #[.int .i64 a0, .int .u64 a1] w fun e w' => ∃ v0_ : Value, e = .returned (v0_) ∧ Kd.R (Kd.int .i64) 3 w' w.heap.size (fun _ => True) v0_ r ∧ Below w.heap.size w w' := by
 have HB := Aside0.mk (Below.refl w.heap.size w)
 have H : (if 0 ≤ a0 then (if (a0 : Int).toNat ≤ 35184372088832 then (provostref02_At.l0 k a0 a1 (List.replicate (a0 : Int).toNat 0) 0 0) else (none)) else (none)) = some r := h
 clear h
 by_cases c3 : 0 ≤ a0
 ·rw [if_pos c3] at H
  have c3b0 := eq_true c3
  have c3b1 : decide (0 ≤ a0) = true := decide_eq_true c3
  clear c3
  by_cases c4 : (a0 : Int).toNat ≤ 35184372088832
  ·rw [if_pos c4] at H
   have c4b0 := eq_true c4
   have c4b1 : decide ((a0 : Int).toNat ≤ 35184372088832) = true := decide_eq_true c4
   clear c4
   obtain ⟨y165, hy165⟩ : ∃ y_ : List Int, y_ = (List.replicate (a0 : Int).toNat 0) := ⟨_, rfl⟩
   replace H : (provostref02_At.l0 k a0 a1 y165 0 0) = some r := by first | (rw [hy165]; with_reducible exact H) | (have H2_ := (Option.bind_some _ _).symm.trans H; rw [hy165]; with_reducible exact H2_) | (have H2_ := (Option.bind_some _ _).symm.trans H; with_reducible exact H2_) | with_reducible exact H | (rw [hy165]; exact H) | exact H
   have Ny165 := Aside0.mk hy165
   clear hy165
   have H' := Aside0.mk H
   clear H
   go_enter Try.func78, Try.ntmps78
   go_wp2_with (first | ((with_reducible refine gate_dst (N := 10) rfl ?_); refine Kd.R_make (Kd.int .i64) _ 3 rfl (N := 10) rfl 22 _ _ rfl a0 rfl rfl Try.underlying22 (.int .i64 0) 8 info3 rfl (by decide) (by omega) 0 (ok := fun _ => True) (okp := fun _ => True) rfl (fun _ hk => hk) trivial (of_decide_eq_true (by assumption)) (Nat.le_trans (Nat.mul_le_mul_right _ (of_decide_eq_true (by assumption) : a0.toNat ≤ 35184372088832)) (by omega)) (Below.refl _ _) (Nat.le_refl _) ?_; intro v166 w5 ho6 hb hg_ hnew_; clear hg_ hnew_; (first | rw [← Ny165.out] at ho6 | (simp only [Int.reduceToNat] at ho6; rw [← Ny165.out] at ho6)); have n0_ := Aside0.mk (Kd.R_lower ho6 (below_size (by exact HB.out))); have n1_ := Aside0.mk (below_step (by exact HB.out) hb); clear HB; have HO167 := n0_; have HB := n1_; clear n0_ n1_; clear hb ho6))
   go_loopg [1, 6, 7] k (fun kq v1 v6 v7 w' => ∃ (x1_1 : Int) (x5_1 : List Int) (x6_1 : Int) (x7_1 : Int), v1 = .int .u64 x1_1 ∧ v6 = .int .i64 x6_1 ∧ v7 = .int .i64 x7_1 ∧ Aside0 (provostref02_At.l0 kq a0 x1_1 x5_1 x6_1 x7_1 = some r) ∧ Aside0 (kq ≤ k) ∧ Aside0 (Kd.R (Kd.int .i64) 3 w' w.heap.size (fun _ => True) v166 x5_1) ∧ Aside0 (Below w.heap.size w w'))
   case atStart => exact ⟨(a1), (y165), (0), (0), (by first | rfl | (simp; done) | (simp [*]; done)), (by first | rfl | (simp; done) | (simp [*]; done)), (by first | rfl | (simp; done) | (simp [*]; done)), H', ⟨Nat.le_refl _⟩, ⟨by exact HO167.out⟩, ⟨by exact HB.out⟩⟩
   case round =>
    clear H'
    try clear p2
    try clear c3
    try clear c3b0
    try clear c3b1
    try clear c4
    try clear c4b0
    try clear c4b1
    obtain ⟨x1_1, x5_1, x6_1, x7_1, rfl, rfl, rfl, HA, HK1, HO_5, HB⟩ := hrel
    cases gk with
    | zero => exact absurd HA.out (by simp [provostref02_At.l0])
    | succ k1 =>
     have H := HA.out
     clear HA
     simp only [provostref02_At.l0] at H
     by_cases c7 : x7_1 < a0
     ·rw [if_pos c7] at H
      have c7b0 : decide (x7_1 < a0) = true := decide_eq_true c7
      clear c7
      replace H := Option.bind_eq_some_iff.mp H
      obtain ⟨t168, A80, H⟩ := H
      replace H : (provostref02_At.l1 k1 a0 x1_1 x5_1 x6_1 x7_1 t168) = some r := H
      have A8 := Aside0.mk A80
      clear A80
      have H' := Aside0.mk H
      clear H
      go_wp2_with (first | ((with_reducible refine gate_callee (f := 107) rfl ?_); refine goesL_ (some 21) rfl rfl Try.func107 (by kernel_rfl) rfl #[.int .i64 (wrap64 ((wrap64 (a0 - 1)) - x7_1)), .int .i64 x6_1] rfl (by (try simp only [List.map_toArray, List.map_cons, List.map_nil]); first | done | rfl | (simp only [List.length_drop, List.length_take]; rfl)) ?_; (with_reducible refine (provostref02_ways.calls k1 (wrap64 ((wrap64 (a0 - 1)) - x7_1)) x6_1 t168 _ A8.out).mono ?_); rintro e w9 ⟨rfl, hb⟩; refine ⟨_, rfl, ?_⟩; have n0_ := Aside0.mk (Kd.R_below (by exact HO_5.out) hb); have n1_ := Aside0.mk (below_step (by exact HB.out) hb); clear HO_5; clear HB; have HO_5 := n0_; have HB := n1_; clear n0_ n1_; (try clear hb)))
      go_loopg [1] k1 (fun kq v1 w' => ∃ (x1_2 : Int) (x5_2 : List Int), v1 = .int .u64 x1_2 ∧ Aside0 (provostref02_At.l1 kq a0 x1_2 x5_2 x6_1 x7_1 t168 = some r) ∧ Aside0 (kq ≤ k1) ∧ Aside0 (Kd.R (Kd.int .i64) 3 w' w.heap.size (fun _ => True) v166 x5_2) ∧ Aside0 (Below w.heap.size w w'))
      case atStart => exact ⟨(x1_1), (x5_1), (by first | rfl | (simp; done) | (simp [*]; done)), H', ⟨Nat.le_refl _⟩, ⟨by exact HO_5.out⟩, ⟨by exact HB.out⟩⟩
      case round =>
       clear H'
       try clear c1
       try clear p2
       try clear c3
       try clear c3b0
       try clear c3b1
       try clear c4
       try clear c4b0
       try clear c4b1
       try clear p6
       try clear c7
       try clear c7b0
       try clear p2
       obtain ⟨x1_2, x5_2, rfl, HA, HK2, HO_5, HB⟩ := hrel
       cases gk with
       | zero => exact absurd HA.out (by simp [provostref02_At.l1])
       | succ k2 =>
        have H := HA.out
        clear HA
        simp only [provostref02_At.l1] at H
        have HC10 := Aside0.mk H
        clear H
        go_upto_region 7 with (fail)
        go_cut [32] (fun v32 wc => ∃ (kq : Nat) (x32_9 : Bool), v32 = .bool x32_9 ∧ Aside0 (provostref02_At.j2 kq a0 x1_2 x5_2 x6_1 x7_1 t168 x32_9 = some r) ∧ Aside0 (kq ≤ k2) ∧ Aside0 (Kd.R (Kd.int .i64) 3 wc w.heap.size (fun _ => True) v166 x5_2) ∧ Aside0 (Below w.heap.size w wc))
        case first =>
         have H := HC10.out
         clear HC10
         by_cases c11 : 0 ≤ x7_1
         ·rw [if_pos c11] at H
          have c11b0 : decide (0 ≤ x7_1) = true := decide_eq_true c11
          clear c11
          (first | rw [c11b0] | (simp only [i64_w, i32_w]; rw [c11b0]) | skip)
          by_cases c12 : x7_1 < (x5_2.length : Int)
          ·rw [if_pos c12] at H
           have c12b0 : decide (x7_1 < (x5_2.length : Int)) = true := decide_eq_true c12
           clear c12
           by_cases c13 : (rd x5_2 x7_1) < x6_1
           ·rw [if_pos c13] at H
            have c13b0 : decide ((rd x5_2 x7_1) < x6_1) = true := decide_eq_true c13
            clear c13
            have H' := Aside0.mk H
            clear H
            obtain ⟨Ao14, co14, eo14⟩ := Kd.R_slice HO_5.out
            subst eo14
            have p169 : 0 ≤ (x7_1 : Int) := of_decide_eq_true (by assumption)
            have q169 : x7_1 < (x5_2.length : Int) := of_decide_eq_true (by assumption)
            obtain ⟨ad169, e169, hx169_0⟩ := Kd.at_int (Kd.R_reads' HO_5.out).2.2 x7_1 p169 q169
            cases e169
            replace p169 := eq_true p169
            replace q169 := eq_true q169
            go_wp2
            go_meet
            case rel => exact ⟨_, (decide (x1_2 ≥ t168)), (by first | rfl | (simp; done) | (simp [*]; done)), H', ⟨by have := HK1.out; have := HK2.out; first | omega | exact Nat.le_refl _⟩, ⟨by exact HO_5.out⟩, ⟨by exact HB.out⟩⟩
           ·rw [if_neg c13] at H
            have c13b0 : decide ((rd x5_2 x7_1) < x6_1) = false := decide_eq_false c13
            clear c13
            have H' := Aside0.mk H
            clear H
            obtain ⟨Ao15, co15, eo15⟩ := Kd.R_slice HO_5.out
            subst eo15
            have p169 : 0 ≤ (x7_1 : Int) := of_decide_eq_true (by assumption)
            have q169 : x7_1 < (x5_2.length : Int) := of_decide_eq_true (by assumption)
            obtain ⟨ad169, e169, hx169_0⟩ := Kd.at_int (Kd.R_reads' HO_5.out).2.2 x7_1 p169 q169
            cases e169
            replace p169 := eq_true p169
            replace q169 := eq_true q169
            go_wp2
            go_meet
            case rel => exact ⟨_, (false), (by first | rfl | (simp; done) | (simp [*]; done)), H', ⟨by have := HK1.out; have := HK2.out; first | omega | exact Nat.le_refl _⟩, ⟨by exact HO_5.out⟩, ⟨by exact HB.out⟩⟩
          ·rw [if_neg c12] at H
           exact absurd H (by simp)
         ·rw [if_neg c11] at H
          exact absurd H (by simp)
        case rest =>
         clear HC10
         try clear c1
         try clear p1
         try clear q1
         try clear hx1
         try clear p2
         try clear c3
         try clear c3b0
         try clear c3b1
         try clear c4
         try clear c4b0
         try clear c4b1
         try clear p6
         try clear c7
         try clear c7b0
         try clear c10
         try clear c11
         try clear c11b0
         try clear c12
         try clear c12b0
         try clear c13
         try clear c13b0
         try clear hx169_0
         try clear p169
         try clear p2
         try clear p6
         try clear q169
         obtain ⟨kq, x32_9, rfl, HA, HJ9, HO_5, HB⟩ := hcut
         cases kq with
         | zero => exact absurd HA.out (by simp [provostref02_At.j2])
         | succ kj9 =>
          have H := HA.out
          clear HA
          simp only [provostref02_At.j2] at H
          by_cases c16 : x32_9 = true
          ·subst c16
           have H1 : (if 0 ≤ x7_1 then (if x7_1 < (x5_2.length : Int) then (provostref02_At.l1 kj9 a0 (IntKind.u64.wrap (x1_2 - t168)) (x5_2.set (x7_1 : Int).toNat (wrap64 ((rd x5_2 x7_1) + 1))) x6_1 x7_1 t168) else (none)) else (none)) = some r := by rw [if_pos rfl] at H; exact H
           clear H
           have H := H1
           clear H1
           by_cases c17 : 0 ≤ x7_1
           ·rw [if_pos c17] at H
            have c17b0 : decide (0 ≤ x7_1) = true := decide_eq_true c17
            clear c17
            by_cases c18 : x7_1 < (x5_2.length : Int)
            ·rw [if_pos c18] at H
             have c18b0 : decide (x7_1 < (x5_2.length : Int)) = true := decide_eq_true c18
             clear c18
             obtain ⟨y171, hy171⟩ : ∃ y_ : List Int, y_ = (x5_2.set (x7_1 : Int).toNat (wrap64 ((rd x5_2 x7_1) + 1))) := ⟨_, rfl⟩
             replace H : (provostref02_At.l1 kj9 a0 (IntKind.u64.wrap (x1_2 - t168)) y171 x6_1 x7_1 t168) = some r := by first | (rw [hy171]; with_reducible exact H) | (have H2_ := (Option.bind_some _ _).symm.trans H; rw [hy171]; with_reducible exact H2_) | (have H2_ := (Option.bind_some _ _).symm.trans H; with_reducible exact H2_) | with_reducible exact H | (rw [hy171]; exact H) | exact H
             have Ny171 := Aside0.mk hy171
             clear hy171
             have H' := Aside0.mk H
             clear H
             obtain ⟨Ao20, co20, eo20⟩ := Kd.R_slice HO_5.out
             subst eo20
             have p170 : 0 ≤ (x7_1 : Int) := of_decide_eq_true (by assumption)
             have q170 : x7_1 < (x5_2.length : Int) := of_decide_eq_true (by assumption)
             obtain ⟨ad170, e170, hx170_0⟩ := Kd.at_int (Kd.R_reads' HO_5.out).2.2 x7_1 p170 q170
             cases e170
             replace p170 := eq_true p170
             replace q170 := eq_true q170
             have p19 : 0 ≤ (x7_1 : Int) := of_decide_eq_true (by assumption)
             have q19 : (x7_1 : Int) < ((x5_2.length : Int) : Int) := of_decide_eq_true (by assumption)
             obtain ⟨go19, co19, eo19, gb19, gl19, cl19, HG19⟩ := Kd.R_form HO_5.out (by omega)
             (first | cases eo19 | (injection eo19 with ea_ en_ ec_; (first | subst ea_ | (injection ea_ with ea_; subst ea_)); subst ec_; clear en_))
             have GB19 := Aside0.mk gb19
             have GG19 := Aside0.mk HG19
             clear gb19 gl19 HG19
             (first | simp only [add_plain] at hx170_0 | skip)
             obtain ⟨hx19_0, hf19_0⟩ := Kd.R_celln 0 HO_5.out (x7_1 : Int) p19 q19
             replace p19 := eq_true p19
             replace q19 := eq_true q19
             have HP21 := Kd.R_putg HO_5.out (x7_1 : Int) (wrap64 ((rd x5_2 x7_1) + 1))
             go_wp2_with (first | ((with_reducible refine gate_store (t := 3) (p := 41) rfl ?_); refine store_event (t := 3) (p := 41) (v := ?vo_w22) (w1 := (wc.setCell ⟨go19, (x7_1 : Int).toNat, none⟩ (.int .i64 (wrap64 ((rd x5_2 x7_1) + 1))))) ?hg ?ho ?hn ?hr ?_; (case ho => rfl); (case hg => rfl); (case hn => rfl); (case hr => first | (go_simp; done) | (go_simp; rfl)); intro w22 hw; have hg : wc.grownBy w22 (some go19) := (by rw [hw]; exact HP21.2); have hp_ : Kd.R (Kd.int .i64) 3 w22 w.heap.size (fun _ => True) (.slice (some ⟨go19, 0, none⟩) x5_2.length co20) y171 := (by rw [hw, Ny171.out]; exact HP21.1); clear HP21; have n0_ := Aside0.mk (hp_); have n1_ := Aside0.mk ((by rw [hw]; exact below_set (HB.out) GB19.out : Below w.heap.size w w22)); clear HO_5; clear HB; have HO_5 := n0_; have HB := n1_; clear n0_ n1_; clear hg hw hp_))
             go_roundg kj9
             case measure => have := HK1.out; have := HK2.out; have := HJ9.out; omega
             case rel => exact ⟨(IntKind.u64.wrap (x1_2 - t168)), (y171), (by first | rfl | (simp; done) | (simp [*]; done)), H', ⟨by have := HK1.out; have := HK2.out; have := HJ9.out; omega⟩, ⟨by exact HO_5.out⟩, ⟨by exact HB.out⟩⟩
            ·rw [if_neg c18] at H
             exact absurd H (by simp)
           ·rw [if_neg c17] at H
            exact absurd H (by simp)
          ·replace c16 := Bool.eq_false_iff.mpr c16
           subst c16
           have H1 : (if 0 ≤ x7_1 then (if x7_1 < (x5_2.length : Int) then (if (rd x5_2 x7_1) = x6_1 then (provostref02_At.l0 kj9 a0 x1_2 x5_2 (wrap64 (x6_1 + 1)) (wrap64 (x7_1 + 1))) else (provostref02_At.l0 kj9 a0 x1_2 x5_2 x6_1 (wrap64 (x7_1 + 1)))) else (none)) else (none)) = some r := by rw [if_neg (show ¬ (false = true) by decide)] at H; exact H
           clear H
           have H := H1
           clear H1
           by_cases c23 : 0 ≤ x7_1
           ·rw [if_pos c23] at H
            have c23b0 : decide (0 ≤ x7_1) = true := decide_eq_true c23
            clear c23
            by_cases c24 : x7_1 < (x5_2.length : Int)
            ·rw [if_pos c24] at H
             have c24b0 : decide (x7_1 < (x5_2.length : Int)) = true := decide_eq_true c24
             clear c24
             by_cases c25 : (rd x5_2 x7_1) = x6_1
             ·rw [if_pos c25] at H
              have c25b0 : ((rd x5_2 x7_1) == x6_1) = true := beq_iff_eq.mpr c25
              have c25b1 : ((rd x5_2 x7_1) != x6_1) = false := bne_eq_false_iff_eq.mpr c25
              clear c25
              have H' := Aside0.mk H
              clear H
              obtain ⟨Ao26, co26, eo26⟩ := Kd.R_slice HO_5.out
              subst eo26
              have p172 : 0 ≤ (x7_1 : Int) := of_decide_eq_true (by assumption)
              have q172 : x7_1 < (x5_2.length : Int) := of_decide_eq_true (by assumption)
              obtain ⟨ad172, e172, hx172_0⟩ := Kd.at_int (Kd.R_reads' HO_5.out).2.2 x7_1 p172 q172
              cases e172
              replace p172 := eq_true p172
              replace q172 := eq_true q172
              go_wp2
              go_roundg kj9
              case measure => have := HK1.out; have := HK2.out; have := HJ9.out; omega
              case rel => exact ⟨(x1_2), (x5_2), (wrap64 (x6_1 + 1)), (wrap64 (x7_1 + 1)), (by first | rfl | (simp; done) | (simp [*]; done)), (by first | rfl | (simp; done) | (simp [*]; done)), (by first | rfl | (simp; done) | (simp [*]; done)), H', ⟨by have := HK1.out; have := HK2.out; have := HJ9.out; omega⟩, ⟨by exact HO_5.out⟩, ⟨by exact HB.out⟩⟩
             ·rw [if_neg c25] at H
              have c25b0 : ((rd x5_2 x7_1) == x6_1) = false := beq_eq_false_iff_ne.mpr c25
              have c25b1 : ((rd x5_2 x7_1) != x6_1) = true := bne_iff_ne.mpr c25
              have H' := Aside0.mk H
              clear H
              obtain ⟨Ao27, co27, eo27⟩ := Kd.R_slice HO_5.out
              subst eo27
              have p172 : 0 ≤ (x7_1 : Int) := of_decide_eq_true (by assumption)
              have q172 : x7_1 < (x5_2.length : Int) := of_decide_eq_true (by assumption)
              obtain ⟨ad172, e172, hx172_0⟩ := Kd.at_int (Kd.R_reads' HO_5.out).2.2 x7_1 p172 q172
              cases e172
              replace p172 := eq_true p172
              replace q172 := eq_true q172
              go_wp2
              go_roundg kj9
              case measure => have := HK1.out; have := HK2.out; have := HJ9.out; omega
              case rel => exact ⟨(x1_2), (x5_2), (x6_1), (wrap64 (x7_1 + 1)), (by first | rfl | (simp; done) | (simp [*]; done)), (by first | rfl | (simp; done) | (simp [*]; done)), (by first | rfl | (simp; done) | (simp [*]; done)), H', ⟨by have := HK1.out; have := HK2.out; have := HJ9.out; omega⟩, ⟨by exact HO_5.out⟩, ⟨by exact HB.out⟩⟩
            ·rw [if_neg c24] at H
             exact absurd H (by simp)
           ·rw [if_neg c23] at H
            exact absurd H (by simp)
     ·rw [if_neg c7] at H
      have c7b0 : decide (x7_1 < a0) = false := decide_eq_false c7
      clear c7
      obtain rfl := Option.some.inj H
      go_wp2
      go_ret
      exact ⟨_, by first | rfl | (simp [errW_none, errW_some] <;> rfl) | (simp [*, errW_none, errW_some] <;> rfl), by exact HO_5.out, by exact HB.out⟩
  ·rw [if_neg c4] at H
   exact absurd H (by simp)
 ·rw [if_neg c3] at H
  exact absurd H (by simp)

end Go.Proofs.Ytpcnpmcknknfcaa.PPex
