/- A text written by my program wip/gen/p2.py out of the translation and of my foreign texts; not trusted: Lean checks it. -/
import Derived.Test.YtfgmapnanaahaaaGreatDoorPBonx0
import Derived.Test.YtfgmapnanaahaaaGreatDoorPBonx1
namespace Go.Proofs.YtfgmapnanaahaaaGreatDoor.PBon
open Go.RowKit Go.Proofs.YtfgmapnanaahaaaGreatDoorW.PrintWords Go.Proofs.YtfgmapnanaahaaaGreatDoorW.PrintLast Go.Proofs.YtfgmapnanaahaaaGreatDoorW.PrintMore
attribute [local go_sem] max2_int min2_int max_two min_two max_three min_three max_four min_four   -- for this text's walks alone
set_option linter.unusedVariables false
set_option linter.unusedSimpArgs false

/-! ### bits_Set_uint16_below: function 87 -/
def bits_Set_uint16_below.f (a0_0 : Int) (a1 : Int) : Option (Int) := if a1 ≤ 0 then (some 0) else ((bits_Set_uint16_Width.f a0_0).bind fun t137 => (if a1 ≥ t137 then (some (Go.bits .xor .u16 65535 0)) else (if 0 ≤ a1 then (some (IntKind.u16.wrap ((shl .u16 1 a1) - 1))) else (none))))
set_option maxHeartbeats 8000000 in
set_option maxRecDepth 100000 in
theorem bits_Set_uint16_below.calls (a0_0 : Int) (a1 : Int) (r : Int) (w : World) (h : bits_Set_uint16_below.f a0_0 a1 = some r) :
    Calls Tryz.prog 87 #[.agg #[.int .u16 a0_0], .int .i64 a1] w fun e w' => e = .returned (.int .u16 r) ∧ Below w.heap.size w w' := by
  have hu27 := Tryz.underlying27
  have HB := Aside0.mk (Below.refl w.heap.size w)
  have H : (if a1 ≤ 0 then (some 0) else ((bits_Set_uint16_Width.f a0_0).bind fun t137 => (if a1 ≥ t137 then (some (Go.bits .xor .u16 65535 0)) else (if 0 ≤ a1 then (some (IntKind.u16.wrap ((shl .u16 1 a1) - 1))) else (none))))) = some r := h
  clear h
  by_cases c3 : a1 ≤ 0
  · rw [if_pos c3] at H
    have c3b0 : decide (a1 ≤ 0) = true := decide_eq_true c3
    clear c3
    obtain rfl := Option.some.inj H
    go_enter Tryz.func87, Tryz.ntmps87
    go_wp2_with (first | ((with_reducible refine gate_dst (N := 2) rfl ?_); refine box_event ?hg (N := 2) ?hd (cs := #[.int .u16 a0_0]) (t := 27) ?hr ?_; (case hd => rfl); (case hg => rfl); (case hr => first | (go_simp; done) | (go_simp; rfl)); intro gb136 hg w4 hbox hb; have n0_ := Aside0.mk (below_step (by repeat (first | (with_reducible first | exact HB.out | apply below_alloc | apply pw_below_drewN | apply below_drew1) | exact HB.out)) hb); have n1_ := Aside0.mk (hbox); have n2_ := Aside0.mk ((by rw [hg]; exact (below_size (by repeat (first | (with_reducible first | exact HB.out | apply below_alloc | apply pw_below_drewN | apply below_drew1) | exact HB.out))) : w.heap.size ≤ gb136)); have n3_ := Aside0.mk ((by rw [hg]; exact (below_size (by repeat (first | (with_reducible first | exact HB.out | apply below_alloc | apply pw_below_drewN | apply below_drew1) | exact HB.out))) : w.heap.size ≤ gb136)); clear HB; have HB := n0_; have BK136 := n1_; have GW136 := n2_; have GE136 := n3_; clear n0_ n1_ n2_ n3_; clear hb hbox hg))
    go_ret
    exact ⟨by first | rfl | (simp [errW_none, errW_some] <;> rfl) | (simp [*, errW_none, errW_some] <;> rfl), by repeat (first | (with_reducible first | exact HB.out | apply below_alloc | apply pw_below_drewN | apply below_drew1 | refine below_set ?_ GE136.out) | exact HB.out)⟩
  · rw [if_neg c3] at H
    have c3b0 : decide (a1 ≤ 0) = false := decide_eq_false c3
    clear c3
    replace H := Option.bind_eq_some_iff.mp H
    obtain ⟨t137, A50, H⟩ := H
    replace H : (if a1 ≥ t137 then (some (Go.bits .xor .u16 65535 0)) else (if 0 ≤ a1 then (some (IntKind.u16.wrap ((shl .u16 1 a1) - 1))) else (none))) = some r := H
    have A5 := Aside0.mk A50
    clear A50
    by_cases c6 : a1 ≥ t137
    · rw [if_pos c6] at H
      have c6b0 : decide (t137 ≤ a1) = true := decide_eq_true c6
      clear c6
      obtain rfl := Option.some.inj H
      go_enter Tryz.func87, Tryz.ntmps87
      go_wp2_with (first | ((with_reducible refine gate_dst (N := 2) rfl ?_); refine box_event ?hg (N := 2) ?hd (cs := #[.int .u16 a0_0]) (t := 27) ?hr ?_; (case hd => rfl); (case hg => rfl); (case hr => first | (go_simp; done) | (go_simp; rfl)); intro gb136 hg w7 hbox hb; have n0_ := Aside0.mk (below_step (by repeat (first | (with_reducible first | exact HB.out | apply below_alloc | apply pw_below_drewN | apply below_drew1) | exact HB.out)) hb); have n1_ := Aside0.mk (hbox); have n2_ := Aside0.mk ((by rw [hg]; exact (below_size (by repeat (first | (with_reducible first | exact HB.out | apply below_alloc | apply pw_below_drewN | apply below_drew1) | exact HB.out))) : w.heap.size ≤ gb136)); have n3_ := Aside0.mk ((by rw [hg]; exact (below_size (by repeat (first | (with_reducible first | exact HB.out | apply below_alloc | apply pw_below_drewN | apply below_drew1) | exact HB.out))) : w.heap.size ≤ gb136)); clear HB; have HB := n0_; have BK136 := n1_; have GW136 := n2_; have GE136 := n3_; clear n0_ n1_ n2_ n3_; clear hb hbox hg; have hcz8_0 : w7.cell? ⟨gb136, 0, none⟩ = some (.int .u16 a0_0) := (blk_cell BK136.out 0).trans rfl; have hfz8_0 := blk_frozen BK136.out 0) | ((with_reducible refine gate_callee (f := 6) rfl ?_); refine goesL_ (some 11) rfl rfl Tryz.func6 (by kernel_rfl) rfl #[.agg #[.int .u16 a0_0]] rfl (by (try simp only [List.map_toArray, List.map_cons, List.map_nil]); first | done | rfl | (simp only [List.length_drop, List.length_take]; rfl)) ?_; (with_reducible refine (bits_Set_uint16_Width.calls a0_0 t137 _ A5.out).mono ?_); rintro e w9 ⟨rfl, hb⟩; refine ⟨_, rfl, ?_⟩; have n0_ := Aside0.mk (blk_below (g := gb136) (o := .cells #[.int .u16 a0_0] 27 (0, 0)) (by (with_reducible repeat (first | refine blk_drewN ?_ _ | refine blk_drew ?_ | refine blk_alloc ?_ _)); exact BK136.out) hb); have n1_ := Aside0.mk (below_step (by repeat (first | (with_reducible first | exact HB.out | apply below_alloc | apply pw_below_drewN | apply below_drew1 | refine below_set ?_ GE136.out) | exact HB.out)) hb); clear BK136; clear HB; have BK136 := n0_; have HB := n1_; clear n0_ n1_; (try clear hb); (try clear hb2); (try clear hk); (try clear hi)))
      go_ret
      exact ⟨by first | rfl | (simp [errW_none, errW_some] <;> rfl) | (simp [*, errW_none, errW_some] <;> rfl), by repeat (first | (with_reducible first | exact HB.out | apply below_alloc | apply pw_below_drewN | apply below_drew1 | refine below_set ?_ GE136.out) | exact HB.out)⟩
    · rw [if_neg c6] at H
      have c6b0 : decide (t137 ≤ a1) = false := decide_eq_false c6
      clear c6
      by_cases c10 : 0 ≤ a1
      · rw [if_pos c10] at H
        have c10b0 := eq_true c10
        have c10b1 : decide (0 ≤ a1) = true := decide_eq_true c10
        clear c10
        obtain ⟨ji11, hji11⟩ : ∃ j_ : Int, (shl .u16 1 a1) = j_ := ⟨_, rfl⟩
        replace H : (some (IntKind.u16.wrap ((ji11) - 1))) = some r := by first | (rw [hji11] at H; exact H) | (simp only [hji11] at H ⊢; exact H)
        (try rw [hji11] at A5)
        have hji11_ : (IntKind.u16.wrap (1 * 2 ^ min a1.toNat 16)) = ji11 := hji11
        have hji11z : a1 ≤ 16 → (IntKind.u16.wrap (1 * 2 ^ a1.toNat)) = ji11 := shl_small hji11
        have hji11u : (IntKind.u16.wrap (2 ^ min a1.toNat 16)) = ji11 := by have h_ := hji11_; rw [Int.one_mul] at h_; exact h_
        have hji11v : a1 ≤ 16 → (IntKind.u16.wrap (2 ^ a1.toNat)) = ji11 := fun hle_ => by have h_ := hji11z hle_; rw [Int.one_mul] at h_; exact h_
        obtain rfl := Option.some.inj H
        go_enter Tryz.func87, Tryz.ntmps87
        go_wp2_with (first | ((with_reducible refine gate_dst (N := 2) rfl ?_); refine box_event ?hg (N := 2) ?hd (cs := #[.int .u16 a0_0]) (t := 27) ?hr ?_; (case hd => rfl); (case hg => rfl); (case hr => first | (go_simp; done) | (go_simp; rfl)); intro gb136 hg w12 hbox hb; have n0_ := Aside0.mk (below_step (by repeat (first | (with_reducible first | exact HB.out | apply below_alloc | apply pw_below_drewN | apply below_drew1) | exact HB.out)) hb); have n1_ := Aside0.mk (hbox); have n2_ := Aside0.mk ((by rw [hg]; exact (below_size (by repeat (first | (with_reducible first | exact HB.out | apply below_alloc | apply pw_below_drewN | apply below_drew1) | exact HB.out))) : w.heap.size ≤ gb136)); have n3_ := Aside0.mk ((by rw [hg]; exact (below_size (by repeat (first | (with_reducible first | exact HB.out | apply below_alloc | apply pw_below_drewN | apply below_drew1) | exact HB.out))) : w.heap.size ≤ gb136)); clear HB; have HB := n0_; have BK136 := n1_; have GW136 := n2_; have GE136 := n3_; clear n0_ n1_ n2_ n3_; clear hb hbox hg; have hcz13_0 : w12.cell? ⟨gb136, 0, none⟩ = some (.int .u16 a0_0) := (blk_cell BK136.out 0).trans rfl; have hfz13_0 := blk_frozen BK136.out 0) | ((with_reducible refine gate_callee (f := 6) rfl ?_); refine goesL_ (some 11) rfl rfl Tryz.func6 (by kernel_rfl) rfl #[.agg #[.int .u16 a0_0]] rfl (by (try simp only [List.map_toArray, List.map_cons, List.map_nil]); first | done | rfl | (simp only [List.length_drop, List.length_take]; rfl)) ?_; (with_reducible refine (bits_Set_uint16_Width.calls a0_0 t137 _ A5.out).mono ?_); rintro e w14 ⟨rfl, hb⟩; refine ⟨_, rfl, ?_⟩; have n0_ := Aside0.mk (blk_below (g := gb136) (o := .cells #[.int .u16 a0_0] 27 (0, 0)) (by (with_reducible repeat (first | refine blk_drewN ?_ _ | refine blk_drew ?_ | refine blk_alloc ?_ _)); exact BK136.out) hb); have n1_ := Aside0.mk (below_step (by repeat (first | (with_reducible first | exact HB.out | apply below_alloc | apply pw_below_drewN | apply below_drew1 | refine below_set ?_ GE136.out) | exact HB.out)) hb); clear BK136; clear HB; have BK136 := n0_; have HB := n1_; clear n0_ n1_; (try clear hb); (try clear hb2); (try clear hk); (try clear hi)))
        go_ret
        exact ⟨by first | rfl | (simp [errW_none, errW_some] <;> rfl) | (simp only [← hji11]; first | rfl | (simp [errW_none, errW_some] <;> rfl)) | (simp [*, errW_none, errW_some] <;> rfl), by repeat (first | (with_reducible first | exact HB.out | apply below_alloc | apply pw_below_drewN | apply below_drew1 | refine below_set ?_ GE136.out) | exact HB.out)⟩
      · rw [if_neg c10] at H
        exact absurd H (by simp)
section
open Go Go.Lib Go.Proofs.YtfgmapnanaahaaaGreatDoorW.BitsM Go.Proofs.YtfgmapnanaahaaaGreatDoorW.PrintMore
theorem below16_eq (x i : Int) : bits_Set_uint16_below.f x i = some ((2 ^ (min i.toNat 16) - 1 : Nat) : Int) := by
  unfold bits_Set_uint16_below.f
  by_cases h0 : i ≤ 0
  · rw [if_pos h0, show i.toNat = 0 by omega]; rfl
  · rw [if_neg h0, width16_eq]
    simp only [Option.bind_some]
    by_cases h1 : i ≥ 16
    · have c : Go.bits .xor .u16 65535 0 = ((65535 : Nat) : Int) := by decide +kernel
      rw [if_pos h1, c, Nat.min_eq_right (by omega)]
    · rw [if_neg h1, if_pos (by omega)]
      obtain ⟨j, rfl⟩ := Int.eq_ofNat_of_zero_le (show 0 ≤ i by omega)
      have hp : 0 < 2 ^ j := Nat.two_pow_pos j
      have hl : 2 ^ j < 2 ^ 16 := Nat.pow_lt_pow_right (by decide) (by omega)
      have hl2 : 2 ^ j < 65536 := hl
      have e : shl .u16 1 (j : Int) = ((2 ^ j : Nat) : Int) := by
        unfold shl
        rw [Int.toNat_natCast, Nat.min_eq_left (show j ≤ IntKind.u16.bits by show j ≤ 16; omega), Int.one_mul, show ((2 : Int) ^ j) = ((2 ^ j : Nat) : Int) by simp, IntKind.wrap_u16]
        omega
      rw [e, Int.toNat_natCast, Nat.min_eq_left (by omega)]
      (try rw [IntKind.wrap_u16])
      congr 1
      omega
end


/-! ### bits_Set_uint16_Next: function 73 -/
def bits_Set_uint16_Next.j0 : Nat → Int → Option (Int)
  | 0, _ => none
  | k + 1, x5 => if x5 = 0 then (some (-1)) else ((bits_TrailingZeros64.f (IntKind.u64.wrap (x5))).bind fun t140 => (some t140))
def bits_Set_uint16_Next.f (k : Nat) (a0_0 : Int) (a1 : Int) : Option (Int) := if a1 > 0 then ((bits_Set_uint16_below.f a0_0 a1).bind fun t139 => (bits_Set_uint16_Next.j0 k (Go.bits .andNot .u16 a0_0 t139))) else (bits_Set_uint16_Next.j0 k a0_0)
theorem bits_Set_uint16_Next.mono_l : ∀ k, (∀ y0, LeO (bits_Set_uint16_Next.j0 k y0) (bits_Set_uint16_Next.j0 (k + 1) y0))
  | 0 => fun _ r h => by simp [bits_Set_uint16_Next.j0] at h
  | k + 1 => by
    have ih0 := bits_Set_uint16_Next.mono_l k
    · intro y0
      unfold bits_Set_uint16_Next.j0
      repeat' first
      | (with_reducible exact ih0 _)
      | (with_reducible exact LeO.refl _)
      | (with_reducible exact LeO.none _)
      | (with_reducible refine LeO.ite ?_ ?_)
      | (with_reducible refine LeO.bind ?_ (fun _ => ?_))
      | exact ih0 _
      | exact LeO.none _
      | refine LeO.ite ?_ ?_
      | refine LeO.bind ?_ (fun _ => ?_)
theorem bits_Set_uint16_Next.mono : ∀ a0 a1 k, LeO (bits_Set_uint16_Next.f k a0 a1) (bits_Set_uint16_Next.f (k + 1) a0 a1) := by
  intro a0 a1 k
  have ih0 := bits_Set_uint16_Next.mono_l k
  unfold bits_Set_uint16_Next.f
  repeat' first
      | (with_reducible exact ih0 _)
      | (with_reducible exact LeO.refl _)
      | (with_reducible exact LeO.none _)
      | (with_reducible refine LeO.ite ?_ ?_)
      | (with_reducible refine LeO.bind ?_ (fun _ => ?_))
      | exact ih0 _
      | exact LeO.none _
      | refine LeO.ite ?_ ?_
      | refine LeO.bind ?_ (fun _ => ?_)
set_option maxHeartbeats 8000000 in
set_option maxRecDepth 100000 in
theorem bits_Set_uint16_Next.calls (k : Nat) (a0_0 : Int) (a1 : Int) (r : Int) (w : World) (h : bits_Set_uint16_Next.f k a0_0 a1 = some r) (HTAB_ : Aside0 (Go.Proofs.YtfgmapnanaahaaaGreatDoorW.Tab.TabW w)) :
    Calls Tryz.prog 73 #[.agg #[.int .u16 a0_0], .int .i64 a1] w fun e w' => e = .returned (.int .i64 r) ∧ Below w.heap.size w w' := by
  have hu27 := Tryz.underlying27
  have HB := Aside0.mk (Below.refl w.heap.size w)
  have H : (if a1 > 0 then ((bits_Set_uint16_below.f a0_0 a1).bind fun t139 => (bits_Set_uint16_Next.j0 k (Go.bits .andNot .u16 a0_0 t139))) else (bits_Set_uint16_Next.j0 k a0_0)) = some r := h
  clear h
  have HC3 := Aside0.mk H
  clear H
  go_enter Tryz.func73, Tryz.ntmps73
  go_upto_if 9 with (first | ((with_reducible refine gate_dst (N := 2) rfl ?_); refine box_event ?hg (N := 2) ?hd (cs := #[.int .u16 a0_0]) (t := 27) ?hr ?_; (case hd => rfl); (case hg => rfl); (case hr => first | (go_simp; done) | (go_simp; rfl)); intro gb138 hg w4 hbox hb; have n0_ := Aside0.mk (below_step (by repeat (first | (with_reducible first | exact HB.out | apply below_alloc | apply pw_below_drewN | apply below_drew1) | exact HB.out)) hb); have n1_ := Aside0.mk (hbox); have n2_ := Aside0.mk ((by rw [hg]; exact (below_size (by repeat (first | (with_reducible first | exact HB.out | apply below_alloc | apply pw_below_drewN | apply below_drew1) | exact HB.out))) : w.heap.size ≤ gb138)); have n3_ := Aside0.mk ((by rw [hg]; exact (below_size (by repeat (first | (with_reducible first | exact HB.out | apply below_alloc | apply pw_below_drewN | apply below_drew1) | exact HB.out))) : w.heap.size ≤ gb138)); clear HB; have HB := n0_; have BK138 := n1_; have GW138 := n2_; have GE138 := n3_; clear n0_ n1_ n2_ n3_; clear hb hbox hg; have hcz5_0 : w4.cell? ⟨gb138, 0, none⟩ = some (.int .u16 a0_0) := (blk_cell BK138.out 0).trans rfl; have hfz5_0 := blk_frozen BK138.out 0))
  (try simp only [Act.put, List.setIfInBounds_toArray, List.set_cons_zero, List.set_cons_succ])
  go_cut [5] (fun v5 wc => ∃ (kq : Nat) (x5_2 : Int), v5 = .int .u16 x5_2 ∧ Aside0 (bits_Set_uint16_Next.j0 kq x5_2 = some r) ∧ Aside0 (kq ≤ k) ∧ Aside0 (wc.heap[gb138]? = some (.cells #[.int .u16 a0_0] 27 (0, 0))) ∧ Aside0 (Below w.heap.size w wc))
  case first =>
    have H := HC3.out
    clear HC3
    by_cases c6 : a1 > 0
    · rw [if_pos c6] at H
      have c6b0 : decide (0 < a1) = true := decide_eq_true c6
      clear c6
      (first | rw [c6b0] | (simp only [i64_w, i32_w]; rw [c6b0]) | skip)
      replace H := Option.bind_eq_some_iff.mp H
      obtain ⟨t139, A70, H⟩ := H
      replace H : (bits_Set_uint16_Next.j0 k (Go.bits .andNot .u16 a0_0 t139)) = some r := H
      have A7 := Aside0.mk A70
      clear A70
      have H' := Aside0.mk H
      clear H
      try go_wp2
      have n0_ := Aside0.mk (blk_drew BK138.out)
      have n1_ := Aside0.mk (below_drew1 HB.out)
      clear BK138
      clear HB
      have BK138 := n0_
      have HB := n1_
      clear n0_ n1_
      refine start_ (n := 7) (S := fun w' => w'.cell? ⟨gb138, 0, none⟩ = some (.int .u16 a0_0)) (ds := []) #[false, false, false, false, false, false, false] (by kernel_rfl) rfl rfl ((blk_cell BK138.out 0).trans rfl) (fun hHeld => ?_)
      generalize w4.drew = w8 at BK138 HB hHeld ⊢
      refine pure_ (i := 0) (N := some 10) (v := ?_) (a' := ?_) #[true, false, false, false, false, false, false] rfl rfl (by kernel_rfl) (fun _ _ _ h => h) (Or.inl ⟨by rfl, ?_⟩) ?_ ?_
      rotate_left
      · intro w'
        go_simp
        with_reducible rfl
      rotate_left
      · simp only [Act.put, List.setIfInBounds_toArray, List.set_cons_zero, List.set_cons_succ, i64_w, i32_w]
        rfl
      refine pure_ (i := 3) (N := some 13) (v := ?_) (a' := ?_) #[true, false, false, true, false, false, false] rfl rfl (by kernel_rfl) (fun _ _ _ h => h) (Or.inl ⟨by rfl, ?_⟩) ?_ ?_
      rotate_left
      · intro w'
        go_simp
        with_reducible rfl
      rotate_left
      · simp only [Act.put, List.setIfInBounds_toArray, List.set_cons_zero, List.set_cons_succ, i64_w, i32_w]
        rfl
      refine take_ (i := 1) (N := some 11) (v := ?_) (a' := ?_) #[true, true, false, true, false, false, false] rfl rfl (by kernel_rfl) (fun _ _ _ h => h) (Or.inl ⟨by rfl, ?_⟩) hHeld ?_ ?_
      rotate_left
      · intro w' s0
        go_simp
        with_reducible rfl
      rotate_left
      · simp only [Act.put, List.setIfInBounds_toArray, List.set_cons_zero, List.set_cons_succ, i64_w, i32_w]
        rfl
      refine take_ (i := 2) (N := some 12) (v := ?_) (a' := ?_) #[true, true, true, true, false, false, false] rfl rfl (by kernel_rfl) (fun _ _ _ h => h) (Or.inl ⟨by rfl, ?_⟩) hHeld ?_ ?_
      rotate_left
      · intro w' s0
        go_simp
        with_reducible rfl
      rotate_left
      · simp only [Act.put, List.setIfInBounds_toArray, List.set_cons_zero, List.set_cons_succ, i64_w, i32_w]
        rfl
      refine one_ (i := 4) (N := some 14) #[true, true, true, true, true, false, false] rfl rfl (by kernel_rfl) (by decide) (fun K hK => ?_)
      refine goes_ Tryz.func87 (by kernel_rfl) rfl #[.agg #[.int .u16 a0_0], .int .i64 a1] (by rfl) rfl rfl (by (try simp only [List.map_toArray, List.map_cons, List.map_nil]); first | done | rfl | (simp only [List.length_drop, List.length_take]; rfl)) ?_
      with_reducible refine (bits_Set_uint16_below.calls a0_0 a1 t139 _ A7.out).mono ?_
      rintro e w9 ⟨rfl, hb⟩
      refine ⟨_, rfl, ?_⟩
      have n0_ := Aside0.mk (blk_below (g := gb138) (o := .cells #[.int .u16 a0_0] 27 (0, 0)) (by (with_reducible repeat (first | refine blk_drewN ?_ _ | refine blk_drew ?_ | refine blk_alloc ?_ _)); exact BK138.out) hb)
      have n1_ := Aside0.mk (below_step (by repeat (first | (with_reducible first | exact HB.out | apply below_alloc | apply pw_below_drewN | apply below_drew1 | refine below_set ?_ GE138.out) | exact HB.out)) hb)
      clear BK138
      clear HB
      have BK138 := n0_
      have HB := n1_
      clear n0_ n1_
      (try clear hb)
      (try clear hb2)
      (try clear hk)
      (try clear hi)
      refine hK.out _ _ ((blk_cell BK138.out 0).trans rfl) (fun hHeld => ?_)
      clear hK K
      refine norm_ (a' := ?_) ?_ ?_
      rotate_left
      · show Act.put _ (some 14) _ = _
        simp only [Act.put, List.setIfInBounds_toArray, List.set_cons_zero, List.set_cons_succ, i64_w, i32_w]
        rfl
      refine pure_ (i := 5) (N := some 15) (v := ?_) (a' := ?_) #[true, true, true, true, true, true, false] rfl rfl (by kernel_rfl) (fun _ _ _ h => h) (Or.inl ⟨by rfl, ?_⟩) ?_ ?_
      rotate_left
      · intro w'
        go_simp
        with_reducible rfl
      rotate_left
      · simp only [Act.put, List.setIfInBounds_toArray, List.set_cons_zero, List.set_cons_succ, i64_w, i32_w]
        rfl
      refine pure_ (i := 6) (N := some 5) (v := ?_) (a' := ?_) #[true, true, true, true, true, true, true] rfl rfl (by kernel_rfl) (fun _ _ _ h => h) (Or.inl ⟨by rfl, ?_⟩) ?_ ?_
      rotate_left
      · intro w'
        go_simp
        with_reducible rfl
      rotate_left
      · simp only [Act.put, List.setIfInBounds_toArray, List.set_cons_zero, List.set_cons_succ, i64_w, i32_w]
        rfl
      refine done_ (by kernel_rfl) ?_
      try go_wp2
      go_meet
      case rel => exact ⟨_, (Go.bits .andNot .u16 a0_0 t139), (by first | rfl | (simp; done) | (simp [*]; done)), H', ⟨by first | omega | exact Nat.le_refl _⟩, ⟨by (with_reducible repeat (first | refine blk_drewN ?_ _ | refine blk_drew ?_ | refine blk_alloc ?_ _)); exact BK138.out⟩, ⟨by repeat (first | (with_reducible first | exact HB.out | apply below_alloc | apply pw_below_drewN | apply below_drew1 | refine below_set ?_ GE138.out) | exact HB.out)⟩⟩
    · rw [if_neg c6] at H
      have c6b0 : decide (0 < a1) = false := decide_eq_false c6
      clear c6
      (first | rw [c6b0] | (simp only [i64_w, i32_w]; rw [c6b0]) | skip)
      have H' := Aside0.mk H
      clear H
      go_wp2
      go_meet
      case rel => exact ⟨_, (a0_0), (by first | rfl | (simp; done) | (simp [*]; done)), H', ⟨by first | omega | exact Nat.le_refl _⟩, ⟨by (with_reducible repeat (first | refine blk_drewN ?_ _ | refine blk_drew ?_ | refine blk_alloc ?_ _)); exact BK138.out⟩, ⟨by repeat (first | (with_reducible first | exact HB.out | apply below_alloc | apply pw_below_drewN | apply below_drew1 | refine below_set ?_ GE138.out) | exact HB.out)⟩⟩
  case rest =>
    clear HC3
    try clear p2
    try clear c6
    try clear c6b0
    try clear c7
    try clear c8
    try clear hcz5_0
    try clear hfz5_0
    obtain ⟨kq, x5_2, rfl, HA, HJ2, BK138, HB⟩ := hcut
    cases kq with
    | zero => exact absurd HA.out (by simp [bits_Set_uint16_Next.j0])
    | succ kj2 =>
      have H := HA.out
      clear HA
      simp only [bits_Set_uint16_Next.j0] at H
      by_cases c10 : x5_2 = 0
      · rw [if_pos c10] at H
        have c10b0 : (x5_2 == 0) = true := beq_iff_eq.mpr c10
        have c10b1 : (x5_2 != 0) = false := bne_eq_false_iff_eq.mpr c10
        clear c10
        obtain rfl := Option.some.inj H
        go_wp2
        go_ret
        exact ⟨by first | rfl | (simp [errW_none, errW_some] <;> rfl) | (simp [*, errW_none, errW_some] <;> rfl), by repeat (first | (with_reducible first | exact HB.out | apply below_alloc | apply pw_below_drewN | apply below_drew1 | refine below_set ?_ GE138.out) | exact HB.out)⟩
      · rw [if_neg c10] at H
        have c10b0 : (x5_2 == 0) = false := beq_eq_false_iff_ne.mpr c10
        have c10b1 : (x5_2 != 0) = true := bne_iff_ne.mpr c10
        replace H := Option.bind_eq_some_iff.mp H
        obtain ⟨t140, A110, H⟩ := H
        replace H : (some t140) = some r := H
        have A11 := Aside0.mk A110
        clear A110
        obtain rfl := Option.some.inj H
        go_wp2_with (first | ((with_reducible refine gate_callee (f := 82) rfl ?_); refine goesL_ (some 20) rfl rfl Tryz.func82 (by kernel_rfl) rfl #[.int .u64 (IntKind.u64.wrap (x5_2))] rfl (by (try simp only [List.map_toArray, List.map_cons, List.map_nil]); first | done | rfl | (simp only [List.length_drop, List.length_take]; rfl)) ?_; (with_reducible refine (bits_TrailingZeros64.calls (IntKind.u64.wrap (x5_2)) t140 _ A11.out ?tabs_).mono ?_); (case tabs_ => exact ⟨Go.Proofs.YtfgmapnanaahaaaGreatDoorW.Tab.tab_below HTAB_.out (by repeat (first | (with_reducible first | exact HB.out | apply below_alloc | apply pw_below_drewN | apply below_drew1) | exact HB.out | exact Below.refl _ _))⟩); rintro e w' ⟨rfl, ⟨nd, rfl⟩⟩; refine ⟨_, rfl, ?_⟩))
        go_ret
        exact ⟨by first | rfl | (simp [errW_none, errW_some] <;> rfl) | (simp [*, errW_none, errW_some] <;> rfl), by repeat (first | (with_reducible first | exact HB.out | apply below_alloc | apply pw_below_drewN | apply below_drew1 | refine below_set ?_ GE138.out) | exact HB.out)⟩
section
open Go Go.Lib Go.Proofs.YtfgmapnanaahaaaGreatDoorW.BitsM Go.Proofs.YtfgmapnanaahaaaGreatDoorW.PrintMore
theorem next16_j (x : Nat) (h : x < 65536) (k : Nat) : bits_Set_uint16_Next.j0 (k + 1) (x : Int) = some (if x = 0 then (-1 : Int) else ((ctz 64 x : Nat) : Int)) := by
  simp only [bits_Set_uint16_Next.j0]
  by_cases h0 : x = 0
  · subst h0; rfl
  · rw [if_neg (show ¬ ((x : Int) = 0) by omega), if_neg h0]
    have c : IntKind.u64.wrap (x : Int) = (x : Int) := by rw [IntKind.wrap_u64]; omega
    rw [c]
    unfold bits_TrailingZeros64.f
    rw [if_pos (by omega), Int.toNat_natCast]; rfl
theorem next16_eq (a : Nat) (h : a < 65536) (i : Int) (k : Nat) : bits_Set_uint16_Next.f (k + 1) (a : Int) i = some (nx a i.toNat) := by
  unfold bits_Set_uint16_Next.f
  by_cases h0 : i > 0
  · have hp : 0 < 2 ^ (min i.toNat 16) := Nat.two_pow_pos _
    have hl : 2 ^ (min i.toNat 16) ≤ 2 ^ 16 := Nat.pow_le_pow_right (by decide) (by omega)
    have hl2 : 2 ^ (min i.toNat 16) ≤ 65536 := hl
    have hr : (a &&& (65535 - (2 ^ (min i.toNat 16) - 1))) < 65536 := Nat.lt_of_le_of_lt Nat.and_le_left h
    rw [if_pos h0, below16_eq]
    simp only [Option.bind_some]
    rw [u16_andNot_nat a _ h (by omega), next16_j _ hr]
    congr 1
    have nh := next_high (W := 16) (a := a) (m := min i.toNat 16) (by decide) h (by omega)
    have e : nx a i.toNat = nx a (min i.toNat 16) := by
      by_cases hi : i.toNat ≤ 16
      · rw [Nat.min_eq_left hi]
      · rw [Nat.min_eq_right (by omega), nx_none fun x h1 h2 => lt_of_bits (W := 16) h (by omega), nx_none fun x h1 h2 => lt_of_bits (W := 16) h (by omega)]
    rw [e, nh]
    first | done | rfl
  · rw [if_neg h0, next16_j _ h]
    congr 1
    have nh := next_high (W := 16) (a := a) (m := 0) (by decide) h (by omega)
    rw [show i.toNat = 0 by omega, nh]
    have e : a &&& (2 ^ 16 - 1 - (2 ^ 0 - 1)) = a := by
      rw [show 2 ^ 16 - 1 - (2 ^ 0 - 1) = 2 ^ 16 - 1 from rfl, Nat.and_two_pow_sub_one_eq_mod]
      exact Nat.mod_eq_of_lt h
    rw [e]
end


/-! ### bits_Set_uint16_All_1: function 72 -/
section
open Go Go.Lib Go.Proofs.YtfgmapnanaahaaaGreatDoorW.Rng Go.Proofs.YtfgmapnanaahaaaGreatDoorW.BitsM Go.Proofs.YtfgmapnanaahaaaGreatDoorW.Tab
attribute [local go_sem] Oper.semAt_some
theorem left64_lt16 (a x : Nat) (hx : x < 64) : left64 (.int .i64 (nx a (x + 1))) < left64 (.int .i64 x) := by
  unfold left64 RowKit.intOf
  rcases nx_cases a (x + 1) with h | ⟨y, h, h1, h2, _⟩
  · rw [h]
    simp only []
    rw [if_pos (by omega), if_neg (by omega)]
    omega
  · rw [h]
    simp only []
    rw [if_neg (by omega), if_neg (by omega)]
    omega
set_option maxRecDepth 100000 in
set_option maxHeartbeats 2000000 in
/-- The iterator tells the word's numbers, rising. -/
theorem all16_told (a : Nat) (ha : a < 65536) (B : Nat) (w : World) (hB : w.heap[B]? = some (.cells #[.int .u16 a] 27 (0, 0))) (hT : TabW w) :
    YieldsL Tryz.prog 72 #[.pointer (some ⟨B, 0, none⟩)] (fun (x : Nat) vs _ => vs = #[.int .i64 x]) (KeptAt TabW B) (pl a 0) w := by
  intro l J Jx W hW hJ hJx hY h0
  have hBW := (hW.block B (blk_lt hB)).trans hB
  have hTW := Aside0.mk (tab_below hT hW)
  clear hW hT hB
  refine callsIn_of_wp Tryz.func72 rfl trivial ?_ rfl
  simp only [Tryz.ntmps72, List.size_toArray, List.length_cons, List.length_nil, Nat.reduceAdd, Nat.reduceSub, Array.replicate_succ, Array.replicate_zero, List.push_toArray, List.append_toArray, List.nil_append, List.cons_append]
  have hc : W.cell? ⟨B, 0, none⟩ = some (.int .u16 a) := (blk_cell hBW 0).trans rfl
  have NX := fun (i : Int) (w : World) (ht : Aside0 (TabW w)) => bits_Set_uint16_Next.calls 1 a i _ w (next16_eq a ha i 0) ht
  have HNX := Aside0.mk NX
  clear NX
  have HBW := Aside0.mk hBW
  clear hBW
  gi_wp2_with (refine ⟨trivial, ?_⟩; gi_at_call 73; refine (callsIn_wide.2 (HNX.out 0 _ hTW)).mono ?_; rintro e W2 ⟨rfl, hb2⟩)
  have hB2 := (hb2.block B (blk_lt HBW.out)).trans HBW.out
  have hT2 := tab_below hTW.out hb2
  have hJ2 := hJ.below hb2 h0
  clear hc HBW hTW h0 hb2
  gi_loopw [3] (fun v wr => ∃ (i : Nat) (pre : List Nat), pl a 0 = pre ++ pl a i ∧ v = .int .i64 (nx a i) ∧ J pre wr ∧ Aside0 (wr.heap[B]? = some (.cells #[.int .u16 a] 27 (0, 0))) ∧ Aside0 (TabW wr)) (fun v _ => left64 v)
  case atStart => exact ⟨0, [], rfl, rfl, hJ2, ⟨hB2⟩, ⟨hT2⟩⟩
  case round =>
    obtain ⟨i, pre, hp, rfl, hJp, hb, ht⟩ := hrel
    clear hB2 hT2 hJ2
    cases hpl : pl a i with
    | nil =>
      have hn : nx a i = -1 := by unfold nx; rw [hpl]
      rw [hn]
      gi_wp2
      go_end0
      rw [hpl, List.append_nil] at hp
      exact ⟨⟨_, rfl⟩, .inl (by rw [hp]; exact hJp)⟩
    | cons x r =>
      obtain ⟨x1, x2, x3, x4, x5⟩ := pl_cons hpl
      have hn : nx a i = (x : Int) := by unfold nx; rw [hpl]
      rw [hn]
      rw [hpl] at hp
      have hpre : pre ++ [x] <+: pl a 0 := ⟨r, by rw [hp]; simp⟩
      obtain ⟨fn, tmps, assign, body, hy, hR⟩ := hY pre x #[.int .i64 x] wr hJp hpre rfl
      have HP := Aside0.mk hp
      have HX4 := Aside0.mk x4
      have HL : Aside0 (left64 (.int .i64 (nx a (x + 1))) < left64 (.int .i64 x)) := ⟨left64_lt16 a x x2⟩
      clear hp hn hpl x5 x4 x3
      gi_wp2
      refine hR.mono ?_
      rintro e W3 (⟨rfl, hJ3, hk3⟩ | ⟨rfl, hJx3⟩)
      · have hB3 := hk3.1.trans hb.out
        have hT3 := Aside0.mk (hk3.2.1 ht.out)
        have hc3 : W3.cell? ⟨B, 0, none⟩ = some (.int .u16 a) := (blk_cell hB3 0).trans rfl
        have HB3 := Aside0.mk hB3
        clear hk3 hB3 hb ht hy
        gi_wp2_with (refine ⟨trivial, ?_⟩; gi_at_call 73; refine (callsIn_wide.2 (HNX.out ((x : Int) + 1) _ hT3)).mono ?_; rintro e W4 ⟨rfl, hb4⟩)
        have hB4 := (hb4.block B (blk_lt HB3.out)).trans HB3.out
        have hT4 := tab_below hT3.out hb4
        have hJ4 := hJ.below hb4 hJ3
        go_roundw
        case rel => exact ⟨x + 1, pre ++ [x], by rw [HP.out, HX4.out]; simp, rfl, hJ4, ⟨hB4⟩, ⟨hT4⟩⟩
        case measure => exact HL.out
      · gi_wp2
        refine bodyPost_ret (results_none rfl _ _ _) rfl ?_
        exact ⟨⟨_, rfl⟩, .inr ⟨pre ++ [x], hpre, hJx3⟩⟩
end


/-! ### bits_Set_uint16_All: function 33 -/
section
open Go
set_option maxHeartbeats 1000000 in
theorem all16_made (a : Int) (w : World) : Calls Tryz.prog 33 #[.agg #[.int .u16 a]] w fun e w' => e = .returned (.func (.func 72) #[] #[.pointer (some ⟨w.heap.size, 0, none⟩)]) ∧ w' = w.alloc (.cells #[.int .u16 a] 27) := by
  go_enter Tryz.func33, Tryz.ntmps33
  go_wp2
  go_ret
  exact ⟨rfl, rfl⟩
end


-- NOT PRINTED

-- NOT PRINTED

-- NOT PRINTED

-- NOT PRINTED

-- NOT PRINTED

-- NOT PRINTED

-- NOT PRINTED

-- NOT PRINTED

-- NOT PRINTED

-- NOT PRINTED

-- NOT PRINTED

-- NOT PRINTED: function 34 (strconv_Itoa_34)

-- NOT PRINTED

-- NOT PRINTED: function 89 (strings_Builder_copyCheck)

-- NOT PRINTED

-- NOT PRINTED: function 90 (strings_Builder_grow)

-- NOT PRINTED: function 75 (strings_Builder_Grow)

-- NOT PRINTED: function 76 (strings_Builder_WriteString)

-- NOT PRINTED: function 77 (strings_Builder_String)

-- NOT PRINTED: function 35 (strings_Join)

/-! ### bits_Set_uint16_Text: function 17 -/
section
open Go Go.Lib Go.Proofs.YtfgmapnanaahaaaGreatDoorW.Rng Go.Proofs.YtfgmapnanaahaaaGreatDoorW.BitsM Go.Proofs.YtfgmapnanaahaaaGreatDoorW.Tab
attribute [local go_sem] Oper.semAt_some
theorem text16_info : (Tryz.prog.info? 9).map (fun i => (i.zero, i.size, i.bytes)) = some (some (.string ⟨#[]⟩), 1, 16) := by kernel_rfl
set_option maxRecDepth 100000 in
set_option maxHeartbeats 4000000 in
theorem bits_Set_uint16_Text.walk (a : Nat) (ha : a < 65536) (w : World) (hT : TabW w) :
    Calls Tryz.prog 17 #[.agg #[.int .u16 a]] w fun e W' => e = .returned (.string (textF a)) ∧ Below w.heap.size w W' := by
  obtain ⟨i0, hi, hz0, hz1, hz2⟩ := info_parts text16_info
  have hHI := Aside0.mk (And.intro hi (And.intro hz0 (And.intro hz1 hz2)))
  have hTW := Aside0.mk hT
  clear hi hz0 hz1 hz2 hT
  refine calls_marks Tryz.func17 rfl ?_
  simp only [Tryz.ntmps17, List.size_toArray, List.length_cons, List.length_nil, Nat.reduceAdd, Nat.reduceSub, Array.replicate_succ, Array.replicate_zero, List.push_toArray, List.append_toArray, List.nil_append, List.cons_append]
  go_wp2_with (go_at_call 33; refine (all16_made a _).mono ?_; rintro e w' ⟨rfl, rfl⟩)
  have bL := (Boxed.new (w.alloc (.cells #[.int .u16 a] 27)) 49 (.slice none 0 0)).alloc (.cells #[.int .u16 a] 27)
  have bS := Boxed.new ((w.alloc (.cells #[.int .u16 a] 27)).alloc (.cells #[.slice none 0 0] 49)) 27 (.int .u16 a)
  rw [World.size_alloc, World.size_alloc] at bS
  rw [World.size_alloc] at bL
  have hB0 : Below w.heap.size w (((w.alloc (.cells #[.int .u16 a] 27)).alloc (.cells #[.slice none 0 0] 49)).alloc (.cells #[.int .u16 a] 27)) := (((Below.refl _ w).alloc (Nat.le_refl _) _).alloc (by simp) _).alloc (by simp; omega) _
  have hs0 : (((w.alloc (.cells #[.int .u16 a] 27)).alloc (.cells #[.slice none 0 0] 49)).alloc (.cells #[.int .u16 a] 27)).heap.size = w.heap.size + 3 := by simp
  generalize ((w.alloc (.cells #[.int .u16 a] 27)).alloc (.cells #[.slice none 0 0] 49)).alloc (.cells #[.int .u16 a] 27) = W0 at *
  have hg := tab_lt hTW.out
  refine wp_range (gf := 72) (lb := #[.pointer (some ⟨w.heap.size + 1 + 1, 0, none⟩)]) rfl (enters_of Tryz.func72 (by kernel_rfl) rfl)
    (all16_told a ha (w.heap.size + 1 + 1) W0 bS (tab_below hTW.out hB0)) (fun h k => h.trans k)
    (fun W l o o' hl h hc _ => KeptAt.put (tab_put hc) (by omega) h) (Below.refl _ _) (fun x vs W h => by rw [h]; rfl)
    (fun (pre : List Nat) W => (∃ v, Boxed W (w.heap.size + 1) 49 v ∧ W.ownsRow w.heap.size 9 1 v pre.length (pre.map (fun x : Nat => Value.string (dstr x))) ∧ True) ∧ (Boxed W (w.heap.size + 1 + 1) 27 (.int .u16 a) ∧ Below w.heap.size w W))
    (fun _ _ _ => False)
    (OwnFrom.and (Own.from (holdsRow_own w.heap.size (w.heap.size + 1) 49 9 1 (fun pre : List Nat => pre.length) (fun pre : List Nat => pre.map (fun x : Nat => Value.string (dstr x))) (fun _ _ => True)) _) (OwnFrom.and (Own.from (boxed_own _ _ (fun _ => _)) _) (ownFrom_below (Nat.le_refl _) (by omega))))
    (fun _ _ _ _ _ hs _ _ => hs)
    ⟨⟨_, bL, World.ownsRow_nil _ _ _ _, trivial⟩, bS, hB0⟩
    (fun x a' _ => a' = { tmps := #[.agg #[.int .u16 a], .pointer (some ⟨w.heap.size, 0, none⟩), .string ⟨#[]⟩, .pointer (some ⟨w.heap.size + 1, 0, none⟩), .int .i64 (x : Nat), .agg #[.int .u16 a], .func (.func 72) #[] #[.pointer (some ⟨w.heap.size + 1 + 1, 0, none⟩)], .int .i64 (x : Nat), undef, undef, undef, undef, undef, undef, undef, undef, undef], defers := [] })
    (fun _ _ _ _ _ _ hs _ _ => hs) ?assign ?body ?done ?stop
  case assign =>
    rintro l pre x vs W K hI rfl hK
    gi_wp2
    exact hK _ _ (KeepsFrom.refl _ _) (KeptAt.refl _ _ _) hI rfl
  case body =>
    rintro l pre x a' W hl _ ⟨⟨v, hv, hrow, _⟩, hS, hB⟩ rfl hpre
    have hc := hv.cell
    have hlen := pre_len hpre
    obtain ⟨hi, hz0, hz1, hz2⟩ := hHI.out
    have HB := Aside0.mk hB
    have HBS := Aside0.mk hS
    have hx64 : x < 100 := by
      have : x ∈ pl a 0 := hpre.subset (by simp)
      have := mem_pl.1 this
      omega
    clear hB hS bL bS hB0 hpre
    have hcd : W.drew.cell? ⟨w.heap.size + 1, 0, none⟩ = some v := hc
    gi_wp2
    refine start_in (n := 6) (S := fun w' => w'.cell? ⟨w.heap.size + 1, 0, none⟩ = some v) (ds := [5]) #[false, false, false, false, false, false] (by kernel_rfl) (fun _ _ h => h) (by kernel_rfl) rfl rfl hcd (fun hHeld => ?_)
    refine take_ (i := 0) (N := (some 8)) (v := ?_) (a' := ?_) #[true, false, false, false, false, false] rfl rfl (by kernel_rfl) (fun _ _ _ h => h) (Or.inl ⟨by rfl, ?_⟩) hHeld ?_ ?_
    rotate_left
    · intro w' s0
      go_simp
      with_reducible rfl
    rotate_left
    · simp only [Act.put, List.setIfInBounds_toArray, List.set_cons_zero, List.set_cons_succ, i64_w, i32_w]
      rfl
    refine pure_ (i := 1) (N := (some 9)) (v := ?_) (a' := ?_) #[true, true, false, false, false, false] rfl rfl (by kernel_rfl) (fun _ _ _ h => h) (Or.inl ⟨by rfl, ?_⟩) ?_ ?_
    rotate_left
    · intro w'
      go_simp
      with_reducible rfl
    rotate_left
    · simp only [Act.put, List.setIfInBounds_toArray, List.set_cons_zero, List.set_cons_succ, i64_w, i32_w]
      rfl
    refine one_ (i := 2) (N := (some 10)) #[true, true, true, false, false, false] rfl rfl (by kernel_rfl) (by decide) (fun K hK => ?_)
    refine goes_ Tryz.func34 (by kernel_rfl) rfl #[.int .i64 (x : Nat)] (by rfl) rfl rfl (by (try simp only [List.map_toArray, List.map_cons, List.map_nil]); first | done | rfl) ?_
    (with_reducible refine (Sh.strconv_Itoa_small x hx64 _).mono ?_)
    rintro e w2 ⟨rfl, rfl⟩
    refine ⟨_, rfl, ?_⟩
    refine hK.out _ _ (hcd) (fun hHeld => ?_)
    clear hK K
    refine norm_ (a' := ?_) ?_ ?_
    rotate_left
    · show Act.put _ (some 10) _ = _
      simp only [Act.put, List.setIfInBounds_toArray, List.set_cons_zero, List.set_cons_succ, i64_w, i32_w]
      rfl
    refine one_ (i := 3) (N := (some 11)) #[true, true, true, true, false, false] rfl rfl (by kernel_rfl) (by decide) (fun K hK => ?_)
    refine event_step (v := .slice (some ⟨W.heap.size, 0, none⟩) 1 1) (w1 := (W.drew).alloc (.cells #[.string (dstr x)] 9)) (by rfl) ?_ ?_
    · go_simp
      rfl
    have hca : ((W.drew).alloc (.cells #[.string (dstr x)] 9)).cell? ⟨w.heap.size + 1, 0, none⟩ = some v := (hv.alloc _).cell
    refine hK.out _ _ (hca) (fun hHeld => ?_)
    clear hK K
    refine norm_ (a' := ?_) ?_ ?_
    rotate_left
    · show Act.put _ (some 11) _ = _
      simp only [Act.put, List.setIfInBounds_toArray, List.set_cons_zero, List.set_cons_succ, i64_w, i32_w]
      rfl
    refine one_ (i := 4) (N := (some 12)) #[true, true, true, true, true, false] rfl rfl (by kernel_rfl) (by decide) (fun K hK => ?_)
    obtain ⟨v', w1, hrun, hown', hgrow, _⟩ := run_append_own (P := Tryz.prog) (w := (W.drew).alloc (.cells #[.string (dstr x)] 9)) w.heap.size 49 49 9 i0 (.string ⟨#[]⟩) 1 16 Tryz.underlying49 hi hz0 hz1 hz2 rfl (by decide) v pre.length _ (show (W.drew.alloc (.cells #[.string (dstr x)] 9)).ownsRow w.heap.size 9 1 v pre.length (pre.map (fun x : Nat => Value.string (dstr x))) from World.ownsRow.alloc (w := W.drew) (show W.drew.ownsRow w.heap.size 9 1 v pre.length (pre.map (fun x : Nat => Value.string (dstr x))) from hrow) _) ⟨W.heap.size, 0, none⟩ 1 1 [.string (dstr x)] rfl (cell_one_new _ _ _) (by simp [Value.oneCell']) (by unfold maxLen; omega) (by omega) (by have := HB.out.size; simp; omega)
    obtain ⟨g', cap', rfl⟩ := ownsRow_succ hown'
    have hD : Boxed W.drew (w.heap.size + 1) 49 v := hv
    have hDS : Boxed W.drew (w.heap.size + 1 + 1) 27 (.int .u16 a) := HBS.out
    have hrowD : W.drew.ownsRow w.heap.size 9 1 v pre.length (pre.map (fun x : Nat => Value.string (dstr x))) := hrow
    have HS1 := Aside0.mk ((hDS.alloc _).kept hgrow (hDS.not_row (by decide) hrowD))
    obtain ⟨hv1, hv2, hr2, hk2, hb2⟩ := hD.appended (by decide) hrowD HB.out.size (by omega) hown' hgrow
    refine event_step (v := .slice (some ⟨g', 0, none⟩) (pre.length + 1) cap') (w1 := w1) (by rfl) ?_ ?_
    · unfold execOp; simp [resolve, invoke, builtin, Act.eval, hrun, Result.andThen]
    have hc1 := hv1.cell; have hf1 := hv1.frozen; have HV2 := Aside0.mk hv2; have HR2 := Aside0.mk hr2; have HK2 := Aside0.mk ((KeepsOthers.drew W).trans hk2); have HB2 := Aside0.mk ((below_drew (Below.refl w.heap.size W)).trans hb2); clear hv2 hr2 hk2 hb2 hv1 hD hDS hrowD hrun hown' hgrow hc hcd hca
    refine hK.out _ _ hc1 (fun hHeld => ?_)
    clear hK K
    refine norm_ (a' := ?_) ?_ ?_
    rotate_left
    · show Act.put _ (some 12) _ = _
      simp only [Act.put, List.setIfInBounds_toArray, List.set_cons_zero, List.set_cons_succ, i64_w, i32_w]
      rfl
    refine last_ (i := 5) (N := none) #[true, true, true, true, true, true] rfl rfl (by kernel_rfl) (by decide) (fun K hK => ?_)
    refine skip_ (w1 := w1.setCell ⟨w.heap.size + 1, 0, none⟩ (.slice (some ⟨g', 0, none⟩) (pre.length + 1) cap')) (by rfl) rfl ?_ ?_
    · go_simp
    refine hK.out _ _ ?_
    clear hK K
    refine done_ (by kernel_rfl) ?_
    have hS2 := HS1.out.other (B' := w.heap.size + 1) (by omega) (.slice (some ⟨g', 0, none⟩) (pre.length + 1) cap')
    refine ⟨HK2.out.from _, ⟨hS2.trans (show _ = _ from HBS.out).symm, fun ht => tab_low hg ht HB2.out, HK2.out.size⟩, ⟨_, HV2.out, by rw [List.length_append, List.map_append]; exact HR2.out, trivial⟩, hS2, HB.out.trans HB2.out⟩
  case done =>
    rintro D W hD ⟨⟨v, hv, hrow, _⟩, hS, hB⟩ hK
    have hc := hv.cell
    have hlt : ∀ x ∈ pl a 0, x < 64 := fun x hx => (mem_pl.1 hx).2.1
    have hjl := join_len (pl a 0) hlt
    have hpl := pl_len a 0
    have HK := Aside0.mk hK
    have HB := Aside0.mk hB
    have HLT := Aside0.mk hlt
    clear hK hB hS bL bS hB0 hlt
    have JN : Calls Tryz.prog 35 #[v, .string ⟨#[44]⟩] W fun e w' => e = .returned (.string ⟨(Lib.join ((pl a 0).map decDigits) [44]).toArray⟩) ∧ Below W.heap.size W w' := by
      obtain ⟨hn, hz⟩ := hrow
      rcases hz with ⟨rfl, h0⟩ | ⟨g, cap, cur, rfl, hb, hgb, hc1, hc2, hc3, hc4⟩
      · have hp0 : pl a 0 = [] := List.eq_nil_of_length_eq_zero h0
        rw [hp0]
        exact (Sh.strings_Join_none none 0 ⟨#[44]⟩ W).mono fun e w' ⟨he, hw⟩ => ⟨he, by rw [hw]; exact Below.refl _ _⟩
      · rw [Nat.mul_one] at hc3 hc4
        have hml : ((pl a 0).map dstr).length = (pl a 0).length := List.length_map _
        have hmm : ((pl a 0).map dstr).map (·.data.toList) = (pl a 0).map decDigits := by rw [List.map_map]; rfl
        have J := Sh.strings_Join g 0 cap ((pl a 0).map dstr) ⟨#[44]⟩ W (fun j x hj => by
          have hjl : j < (pl a 0).length := by
            rcases Nat.lt_or_ge j (pl a 0).length with h | h
            · exact h
            · rw [List.getElem?_eq_none (by omega)] at hj; cases hj
          rw [Nat.zero_add]
          have h1 : (cur.toList.take (pl a 0).length)[j]? = some (.string x) := by
            rw [hc4, List.getElem?_map]
            rw [List.getElem?_map] at hj
            cases hp : (pl a 0)[j]? with
            | none => rw [hp] at hj; cases hj
            | some y => rw [hp] at hj; injection hj with hj; rw [← hj]; rfl
          rw [List.getElem?_take_of_lt hjl] at h1
          have h2 : cur[j]? = some (.string x) := by rw [← Array.getElem?_toList]; exact h1
          exact (cell_of_row W g j cur _ _ hgb).trans h2) (blk_lt hgb) (by omega) (by omega) (by rw [hmm]; show (Lib.join ((pl a 0).map decDigits) [44]).length ≤ _; omega)
        rw [hml, hmm] at J
        exact J
    have HJN := Aside0.mk JN
    clear JN hrow
    go_wp2_with (go_at_call 35; (with_reducible refine HJN.out.mono ?_); rintro e w2 ⟨rfl, hb2⟩; have hK2 := (hb2.block D (Array.getElem?_eq_some_iff.1 HK.out).1).trans HK.out; have HB2 := Aside0.mk hb2; clear hb2)
    refine ⟨by simp, .inl ⟨_, _, rfl, run_takeDeferred hK2, ?_⟩⟩
    refine ⟨_, results_tmp rfl _ _ _, ?_, (HB.out.trans (HB2.out.mono HB.out.size)).trans (belowK_b (w := w) (Nat.le_refl _) w2 D _ _ (by omega) hK2 rfl rfl)⟩
    show Ending.returned (.string _) = _
    congr 2
  case stop =>
    rintro D c pre W _ _ h _
    exact h.elim
def bits_Set_uint16_Text.f (a0 : Int) : Option ByteArray := if 0 ≤ a0 ∧ a0 < 65536 then some (textF a0.toNat) else none
theorem bits_Set_uint16_Text.calls (a0 : Int) (r : ByteArray) (w : World) (h : bits_Set_uint16_Text.f a0 = some r) (HTAB_ : Aside0 (TabW w)) :
    Calls Tryz.prog 17 #[.agg #[.int .u16 a0]] w fun e w' => e = .returned (.string r) ∧ Below w.heap.size w w' := by
  unfold bits_Set_uint16_Text.f at h
  split at h
  next hb =>
    obtain ⟨x, rfl⟩ := Int.eq_ofNat_of_zero_le hb.1
    injection h with h
    subst h
    exact bits_Set_uint16_Text.walk x (by omega) w HTAB_.out
  next => cases h
end


end Go.Proofs.YtfgmapnanaahaaaGreatDoor.PBon
