/- A text written by my program wip/gen/p2.py out of the translation and of my foreign texts; not trusted: Lean checks it. -/
import Derived.Test.YtfgmapnanaahaaaGreatDoorPBonx0
import Derived.Test.YtfgmapnanaahaaaGreatDoorPBonx1
import Derived.Test.YtfgmapnanaahaaaGreatDoorPBonx3
import Derived.Test.YtfgmapnanaahaaaGreatDoorPBonx4
import Derived.Test.YtfgmapnanaahaaaGreatDoorPBonx5
namespace Go.Proofs.YtfgmapnanaahaaaGreatDoor.PBon
open Go.RowKit Go.Proofs.YtfgmapnanaahaaaGreatDoorW.PrintWords Go.Proofs.YtfgmapnanaahaaaGreatDoorW.PrintLast Go.Proofs.YtfgmapnanaahaaaGreatDoorW.PrintMore
attribute [local go_sem] max2_int min2_int max_two min_two max_three min_three max_four min_four   -- for this text's walks alone
set_option linter.unusedVariables false
set_option linter.unusedSimpArgs false

/-! ### bits_Set_uint64_All_1: function 92 -/
section
open Go Go.Lib Go.Proofs.YtfgmapnanaahaaaGreatDoorW.Rng Go.Proofs.YtfgmapnanaahaaaGreatDoorW.BitsM Go.Proofs.YtfgmapnanaahaaaGreatDoorW.Tab
attribute [local go_sem] Oper.semAt_some
theorem left64_lt64 (a x : Nat) (hx : x < 64) : left64 (.int .i64 (nx a (x + 1))) < left64 (.int .i64 x) := by
  unfold left64 RowKit.intOf
  rcases nx_cases a (x + 1) with h | ⟨y, h, h1, h2, _⟩
  · rw [h]
    simp only []
    rw [if_pos (by omega), if_neg (by omega)]
    omega
  · rw [h]
    simp only []
    rw [if_neg (by omega), if_neg (by omega)]
    omega
set_option maxRecDepth 100000 in
set_option maxHeartbeats 2000000 in
/-- The iterator tells the word's numbers, rising. -/
theorem all64_told (a : Nat) (ha : a < 18446744073709551616) (B : Nat) (w : World) (hB : w.heap[B]? = some (.cells #[.int .u64 a] 56 (0, 0))) (hT : TabW w) :
    YieldsL Tryz.prog 92 #[.pointer (some ⟨B, 0, none⟩)] (fun (x : Nat) vs _ => vs = #[.int .i64 x]) (KeptAt TabW B) (pl a 0) w := by
  intro l J Jx W hW hJ hJx hY h0
  have hBW := (hW.block B (blk_lt hB)).trans hB
  have hTW := Aside0.mk (tab_below hT hW)
  clear hW hT hB
  refine callsIn_of_wp Tryz.func92 rfl trivial ?_ rfl
  simp only [Tryz.ntmps92, List.size_toArray, List.length_cons, List.length_nil, Nat.reduceAdd, Nat.reduceSub, Array.replicate_succ, Array.replicate_zero, List.push_toArray, List.append_toArray, List.nil_append, List.cons_append]
  have hc : W.cell? ⟨B, 0, none⟩ = some (.int .u64 a) := (blk_cell hBW 0).trans rfl
  have NX := fun (i : Int) (w : World) (ht : Aside0 (TabW w)) => bits_Set_uint64_Next.calls 1 a i _ w (next64_eq a ha i 0) ht
  have HNX := Aside0.mk NX
  clear NX
  have HBW := Aside0.mk hBW
  clear hBW
  gi_wp2_with (refine ⟨trivial, ?_⟩; gi_at_call 49; refine (callsIn_wide.2 (HNX.out 0 _ hTW)).mono ?_; rintro e W2 ⟨rfl, hb2⟩)
  have hB2 := (hb2.block B (blk_lt HBW.out)).trans HBW.out
  have hT2 := tab_below hTW.out hb2
  have hJ2 := hJ.below hb2 h0
  clear hc HBW hTW h0 hb2
  gi_loopw [3] (fun v wr => ∃ (i : Nat) (pre : List Nat), pl a 0 = pre ++ pl a i ∧ v = .int .i64 (nx a i) ∧ J pre wr ∧ Aside0 (wr.heap[B]? = some (.cells #[.int .u64 a] 56 (0, 0))) ∧ Aside0 (TabW wr)) (fun v _ => left64 v)
  case atStart => exact ⟨0, [], rfl, rfl, hJ2, ⟨hB2⟩, ⟨hT2⟩⟩
  case round =>
    obtain ⟨i, pre, hp, rfl, hJp, hb, ht⟩ := hrel
    clear hB2 hT2 hJ2
    cases hpl : pl a i with
    | nil =>
      have hn : nx a i = -1 := by unfold nx; rw [hpl]
      rw [hn]
      gi_wp2
      go_end0
      rw [hpl, List.append_nil] at hp
      exact ⟨⟨_, rfl⟩, .inl (by rw [hp]; exact hJp)⟩
    | cons x r =>
      obtain ⟨x1, x2, x3, x4, x5⟩ := pl_cons hpl
      have hn : nx a i = (x : Int) := by unfold nx; rw [hpl]
      rw [hn]
      rw [hpl] at hp
      have hpre : pre ++ [x] <+: pl a 0 := ⟨r, by rw [hp]; simp⟩
      obtain ⟨fn, tmps, assign, body, hy, hR⟩ := hY pre x #[.int .i64 x] wr hJp hpre rfl
      have HP := Aside0.mk hp
      have HX4 := Aside0.mk x4
      have HL : Aside0 (left64 (.int .i64 (nx a (x + 1))) < left64 (.int .i64 x)) := ⟨left64_lt64 a x x2⟩
      clear hp hn hpl x5 x4 x3
      gi_wp2
      refine hR.mono ?_
      rintro e W3 (⟨rfl, hJ3, hk3⟩ | ⟨rfl, hJx3⟩)
      · have hB3 := hk3.1.trans hb.out
        have hT3 := Aside0.mk (hk3.2.1 ht.out)
        have hc3 : W3.cell? ⟨B, 0, none⟩ = some (.int .u64 a) := (blk_cell hB3 0).trans rfl
        have HB3 := Aside0.mk hB3
        clear hk3 hB3 hb ht hy
        gi_wp2_with (refine ⟨trivial, ?_⟩; gi_at_call 49; refine (callsIn_wide.2 (HNX.out ((x : Int) + 1) _ hT3)).mono ?_; rintro e W4 ⟨rfl, hb4⟩)
        have hB4 := (hb4.block B (blk_lt HB3.out)).trans HB3.out
        have hT4 := tab_below hT3.out hb4
        have hJ4 := hJ.below hb4 hJ3
        go_roundw
        case rel => exact ⟨x + 1, pre ++ [x], by rw [HP.out, HX4.out]; simp, rfl, hJ4, ⟨hB4⟩, ⟨hT4⟩⟩
        case measure => exact HL.out
      · gi_wp2
        refine bodyPost_ret (results_none rfl _ _ _) rfl ?_
        exact ⟨⟨_, rfl⟩, .inr ⟨pre ++ [x], hpre, hJx3⟩⟩
end


/-! ### bits_Set_uint64_All: function 83 -/
section
open Go
set_option maxHeartbeats 1000000 in
theorem all64_made (a : Int) (w : World) : Calls Tryz.prog 83 #[.agg #[.int .u64 a]] w fun e w' => e = .returned (.func (.func 92) #[] #[.pointer (some ⟨w.heap.size, 0, none⟩)]) ∧ w' = w.alloc (.cells #[.int .u64 a] 56) := by
  go_enter Tryz.func83, Tryz.ntmps83
  go_wp2
  go_ret
  exact ⟨rfl, rfl⟩
end


/-! ### bits_Set_uint64_Nth: function 53 -/
section
open Go Go.Lib Go.Proofs.YtfgmapnanaahaaaGreatDoorW.Rng Go.Proofs.YtfgmapnanaahaaaGreatDoorW.BitsM Go.Proofs.YtfgmapnanaahaaaGreatDoorW.Tab
attribute [local go_sem] Oper.semAt_some
set_option maxRecDepth 100000 in
set_option maxHeartbeats 2000000 in
theorem bits_Set_uint64_Nth.neg (a : Nat) (k : Int) (hk : k < 0) (w : World) :
    Calls Tryz.prog 53 #[.agg #[.int .u64 a], .int .i64 k] w fun e W' => e = .returned (.int .i64 (-1)) ∧ Below w.heap.size w W' := by
  have hd : decide (k < 0) = true := decide_eq_true hk
  go_enter Tryz.func53, Tryz.ntmps53
  go_wp2
  refine bodyPost_ret ?_ rfl ⟨rfl, ?_⟩
  · simp [results, Tryz.f53, go_sem]
  · exact (((Below.refl _ w).alloc (Nat.le_refl _) _).alloc (by simp) _).alloc (by simp; omega) _
set_option maxRecDepth 100000 in
set_option maxHeartbeats 2000000 in
theorem bits_Set_uint64_Nth.walk (a : Nat) (ha : a < 18446744073709551616) (k : Nat) (hk9 : k ≤ 9223372036854775807) (w : World) (hT : TabW w) :
    Calls Tryz.prog 53 #[.agg #[.int .u64 a], .int .i64 k] w fun e W' => e = .returned (.int .i64 (nth a k)) ∧ Below w.heap.size w W' := by
  have hTW := Aside0.mk hT
  have hd : decide ((k : Int) < 0) = false := decide_eq_false (by omega)
  clear hT
  refine calls_marks Tryz.func53 rfl ?_
  simp only [Tryz.ntmps53, List.size_toArray, List.length_cons, List.length_nil, Nat.reduceAdd, Nat.reduceSub, Array.replicate_succ, Array.replicate_zero, List.push_toArray, List.append_toArray, List.nil_append, List.cons_append]
  go_wp2_with (go_at_call 83; refine (all64_made a _).mono ?_; rintro e w' ⟨rfl, rfl⟩)
  have bK := ((Boxed.new (w.alloc (.cells #[.int .u64 a] 56)) 3 (.int .i64 k)).alloc (.cells #[.int .i64 0] 3)).alloc (.cells #[.int .u64 a] 56)
  have bR := (Boxed.new ((w.alloc (.cells #[.int .u64 a] 56)).alloc (.cells #[.int .i64 k] 3)) 3 (.int .i64 0)).alloc (.cells #[.int .u64 a] 56)
  have bS := Boxed.new (((w.alloc (.cells #[.int .u64 a] 56)).alloc (.cells #[.int .i64 k] 3)).alloc (.cells #[.int .i64 0] 3)) 56 (.int .u64 a)
  simp only [World.size_alloc] at bS bR bK
  have hB0 : Below w.heap.size w ((((w.alloc (.cells #[.int .u64 a] 56)).alloc (.cells #[.int .i64 k] 3)).alloc (.cells #[.int .i64 0] 3)).alloc (.cells #[.int .u64 a] 56)) := ((((Below.refl _ w).alloc (Nat.le_refl _) _).alloc (by simp) _).alloc (by simp; omega) _).alloc (by simp; omega) _
  have hs0 : ((((w.alloc (.cells #[.int .u64 a] 56)).alloc (.cells #[.int .i64 k] 3)).alloc (.cells #[.int .i64 0] 3)).alloc (.cells #[.int .u64 a] 56)).heap.size = w.heap.size + 4 := by simp
  generalize (((w.alloc (.cells #[.int .u64 a] 56)).alloc (.cells #[.int .i64 k] 3)).alloc (.cells #[.int .i64 0] 3)).alloc (.cells #[.int .u64 a] 56) = W0 at *
  have hg := tab_lt hTW.out
  refine wp_range (gf := 92) (lb := #[.pointer (some ⟨w.heap.size + 1 + 1 + 1, 0, none⟩)]) rfl (enters_of Tryz.func92 (by kernel_rfl) rfl)
    (all64_told a ha (w.heap.size + 1 + 1 + 1) W0 bS (tab_below hTW.out hB0)) (fun h k => h.trans k)
    (fun W l o o' hl h hc _ => KeptAt.put (tab_put hc) (by omega) h) (Below.refl _ _) (fun x vs W h => by rw [h]; rfl)
    (fun (pre : List Nat) W => Boxed W (w.heap.size + 1) 3 (.int .i64 ((k : Int) - (pre.length : Int))) ∧ Boxed W (w.heap.size + 1 + 1) 3 (.int .i64 0) ∧ Boxed W (w.heap.size + 1 + 1 + 1) 56 (.int .u64 a) ∧ Below w.heap.size w W ∧ pre.length ≤ k)
    (fun c (pre : List Nat) W => (∃ x : Nat, Boxed W (w.heap.size + 1 + 1) 3 (.int .i64 x) ∧ (pl a 0)[k]? = some x ∧ Below w.heap.size w W) ∧ c = .ret)
    (OwnFrom.and (Own.from (boxed_own _ _ (fun (pre : List Nat) => _)) _) (OwnFrom.and (Own.from (boxed_own _ _ (fun _ => _)) _) (OwnFrom.and (Own.from (boxed_own _ _ (fun _ => _)) _) (OwnFrom.and (ownFrom_below (Nat.le_refl _) (by omega)) (ownFrom_pure _ _)))))
    (fun c s A B row hs hg hr => by
      obtain ⟨⟨x, h1, h2, h3⟩, h4⟩ := hs
      exact ⟨⟨x, (Own.from (boxed_own (β := Unit) (w.heap.size + 1 + 1) 3 (fun _ => .int .i64 x)) W0.heap.size) () A B row h1 hg hr, h2, ownFrom_below (β := Unit) (Nat.le_refl _) (by omega) () A B row h3 hg hr⟩, h4⟩)
    ⟨by simpa using bK, bR, bS, hB0, Nat.zero_le _⟩
    (fun x a' _ => a' = { tmps := #[.agg #[.int .u64 a], .int .i64 k, .pointer (some ⟨w.heap.size, 0, none⟩), .pointer (some ⟨w.heap.size + 1, 0, none⟩), .pointer (some ⟨w.heap.size + 1 + 1, 0, none⟩), .int .i64 (x : Nat), .int .i64 k, .bool false, .agg #[.int .u64 a], .func (.func 92) #[] #[.pointer (some ⟨w.heap.size + 1 + 1 + 1, 0, none⟩)], .int .i64 (x : Nat), undef, undef, undef, undef, undef], defers := [] })
    (fun _ _ _ _ _ _ hs _ _ => hs) ?assign ?body ?done ?stop
  case assign =>
    rintro l pre x vs W K hI rfl hK
    gi_wp2
    exact hK _ _ (KeepsFrom.refl _ _) (KeptAt.refl _ _ _) hI rfl
  case body =>
    rintro l pre x a' W hl _ ⟨hK, hR, hS, hB, hlk⟩ rfl hpre
    have hc := hK.cell
    have hf := hK.frozen
    have hcr := hR.cell
    have hfr := hR.frozen
    have HN := Aside0.mk (nth_at hpre)
    have HB := Aside0.mk hB
    have HBS := Aside0.mk hS
    have HBR := Aside0.mk hR
    have HBK := Aside0.mk hK
    have HP := Aside0.mk hpre
    clear hB hS hR hK bK bR bS hB0 hd hpre
    by_cases he : pre.length = k
    · have hb : decide ((k : Int) - (pre.length : Int) = 0) = true := decide_eq_true (by omega)
      have hb2 : ((k : Int) - (pre.length : Int) == 0) = true := by simp; omega
      gi_wp2
      refine ⟨(KeepsOthers.setCell _ _ _).from _, ⟨x, HBR.out.set _, by rw [← he]; exact HN.out, HB.out.setCell (p := ⟨w.heap.size + 1 + 1, 0, none⟩) (by simp; omega) _⟩, rfl⟩
    · have hb : decide ((k : Int) - (pre.length : Int) = 0) = false := decide_eq_false (by omega)
      have hb2 : ((k : Int) - (pre.length : Int) == 0) = false := by simp; omega
      gi_wp2
      have hBl := (Below.refl w.heap.size W).setCell (p := ⟨w.heap.size + 1, 0, none⟩) (by simp) (.int .i64 ((k : Int) - (pre.length : Int) - 1))
      have hw : wrap64 ((k : Int) - (pre.length : Int) - 1) = (k : Int) - (pre.length : Int) - 1 := by unfold wrap64; omega
      (try rw [hw])
      have e1 : (k : Int) - ((pre ++ [x]).length : Int) = (k : Int) - (pre.length : Int) - 1 := by simp; omega
      refine ⟨(KeepsOthers.setCell _ _ _).from _, ⟨((HBS.out.other (B' := w.heap.size + 1) (by omega) _)).trans (show _ = _ from HBS.out).symm, fun ht => tab_low hg ht hBl, hBl.size⟩, ?_, HBR.out.other (by omega) _, HBS.out.other (by omega) _, HB.out.trans hBl, by simp; omega⟩
      rw [e1]
      exact HBK.out.set _
  case done =>
    rintro D W hD ⟨hK, hR, hS, hB, hlk⟩ hDf
    have hc := hR.cell
    have hf := hR.frozen
    go_wp2
    refine ⟨by simp, .inl ⟨_, _, rfl, run_takeDeferred ((KeepsOthers.setCell _ _ _).same D _ hDf rfl), ?_⟩⟩
    have hDf2 := (KeepsOthers.setCell W ⟨w.heap.size + 1 + 1, 0, none⟩ (.int .i64 (-1))).same D _ hDf rfl
    have hc5 := cell_kept (hR.set (.int .i64 (-1))).cell (grownBy_putObj' _ D (.deferred none)) (fun r e => by cases e; exact ⟨_, hDf2, rfl⟩)
    have hn : nth a k = -1 := by
      unfold nth
      rw [if_neg (by omega), Int.toNat_natCast, List.getElem?_eq_none hlk]
    refine ⟨.int .i64 (-1), ?_, by rw [hn], (hB.setCell (p := ⟨w.heap.size + 1 + 1, 0, none⟩) (by simp; omega) _).trans (belowK_b (w := w) (Nat.le_refl _) _ D _ _ (by omega) hDf2 rfl rfl)⟩
    simp [results, Tryz.f53, go_sem, hc5]
  case stop =>
    rintro D c pre W hD _ ⟨⟨x, hR, hx, hB⟩, rfl⟩ hDf
    go_wp2
    refine ⟨by simp, .inl ⟨_, _, rfl, run_takeDeferred hDf, ?_⟩⟩
    have hc5 := cell_kept hR.cell (grownBy_putObj' _ D (.deferred none)) (fun r e => by cases e; exact ⟨_, hDf, rfl⟩)
    have hn : nth a k = x := by
      unfold nth
      rw [if_neg (by omega), Int.toNat_natCast, hx]
    refine ⟨.int .i64 x, ?_, by rw [hn], hB.trans (belowK_b (w := w) (Nat.le_refl _) _ D _ _ (by omega) hDf rfl rfl)⟩
    simp [results, Tryz.f53, go_sem, hc5]
def bits_Set_uint64_Nth.f (a0 : Int) (k : Int) : Option Int := if 0 ≤ a0 ∧ a0 < 18446744073709551616 then (if k ≤ 9223372036854775807 then some (nth a0.toNat k) else none) else none
theorem bits_Set_uint64_Nth.calls (a0 : Int) (a1 : Int) (r : Int) (w : World) (h : bits_Set_uint64_Nth.f a0 a1 = some r) (HTAB_ : Aside0 (TabW w)) :
    Calls Tryz.prog 53 #[.agg #[.int .u64 a0], .int .i64 a1] w fun e w' => e = .returned (.int .i64 r) ∧ Below w.heap.size w w' := by
  unfold bits_Set_uint64_Nth.f at h
  split at h
  next hb =>
    obtain ⟨x, rfl⟩ := Int.eq_ofNat_of_zero_le hb.1
    split at h
    next h9 =>
      injection h with h
      subst h
      rw [Int.toNat_natCast]
      by_cases hn : a1 < 0
      · have e : nth x a1 = -1 := by unfold nth; rw [if_pos hn]
        rw [e]
        exact bits_Set_uint64_Nth.neg x a1 hn w
      · obtain ⟨k, rfl⟩ := Int.eq_ofNat_of_zero_le (show 0 ≤ a1 by omega)
        exact bits_Set_uint64_Nth.walk x (by omega) k (by omega) w HTAB_.out
    next => cases h
  next => cases h
end


/-! ### provostref01_Nth: function 54 -/
def provostref01_Nth.j0 : Nat → Int → List Int → Bool → Option (Int)
  | 0, _, _, _ => none
  | k + 1, x1, x5, x15 => if x15 = true then (some (-1)) else (if 0 ≤ x1 then (if x1 < (x5.length : Int) then (some (rd x5 x1)) else (none)) else (none))
def provostref01_Nth.f (k : Nat) (a0 : Int) (a1 : Int) : Option (Int) := (provostref01_Places.f k a0 64).bind fun t205 => (if a1 < 0 then (provostref01_Nth.j0 k a1 t205 true) else (provostref01_Nth.j0 k a1 t205 (decide (a1 ≥ (t205.length : Int)))))
theorem provostref01_Nth.mono_l : ∀ k, (∀ y0 y1 y2, LeO (provostref01_Nth.j0 k y0 y1 y2) (provostref01_Nth.j0 (k + 1) y0 y1 y2))
  | 0 => fun _ _ _ r h => by simp [provostref01_Nth.j0] at h
  | k + 1 => by
    have ih0 := provostref01_Nth.mono_l k
    · intro y0 y1 y2
      unfold provostref01_Nth.j0
      repeat' first
      | (with_reducible exact ih0 _ _ _)
      | (with_reducible exact provostref01_Places.mono _ _ _)
      | (with_reducible exact LeO.refl _)
      | (with_reducible exact LeO.none _)
      | (with_reducible refine LeO.ite ?_ ?_)
      | (with_reducible refine LeO.bind ?_ (fun _ => ?_))
      | exact ih0 _ _ _
      | exact provostref01_Places.mono _ _ _
      | exact LeO.none _
      | refine LeO.ite ?_ ?_
      | refine LeO.bind ?_ (fun _ => ?_)
theorem provostref01_Nth.mono : ∀ a0 a1 k, LeO (provostref01_Nth.f k a0 a1) (provostref01_Nth.f (k + 1) a0 a1) := by
  intro a0 a1 k
  have ih0 := provostref01_Nth.mono_l k
  unfold provostref01_Nth.f
  repeat' first
      | (with_reducible exact ih0 _ _ _)
      | (with_reducible exact provostref01_Places.mono _ _ _)
      | (with_reducible exact LeO.refl _)
      | (with_reducible exact LeO.none _)
      | (with_reducible refine LeO.ite ?_ ?_)
      | (with_reducible refine LeO.bind ?_ (fun _ => ?_))
      | exact ih0 _ _ _
      | exact provostref01_Places.mono _ _ _
      | exact LeO.none _
      | refine LeO.ite ?_ ?_
      | refine LeO.bind ?_ (fun _ => ?_)
set_option maxHeartbeats 8000000 in
set_option maxRecDepth 100000 in
theorem provostref01_Nth.calls (k : Nat) (a0 : Int) (a1 : Int) (r : Int) (w : World) (h : provostref01_Nth.f k a0 a1 = some r) :
    Calls Tryz.prog 54 #[.int .u64 a0, .int .i64 a1] w fun e w' => e = .returned (.int .i64 r) ∧ Below w.heap.size w w' := by
  have HB := Aside0.mk (Below.refl w.heap.size w)
  have H : ((provostref01_Places.f k a0 64).bind fun t205 => (if a1 < 0 then (provostref01_Nth.j0 k a1 t205 true) else (provostref01_Nth.j0 k a1 t205 (decide (a1 ≥ (t205.length : Int)))))) = some r := h
  clear h
  replace H := Option.bind_eq_some_iff.mp H
  obtain ⟨t205, A30, H⟩ := H
  replace H : (if a1 < 0 then (provostref01_Nth.j0 k a1 t205 true) else (provostref01_Nth.j0 k a1 t205 (decide (a1 ≥ (t205.length : Int))))) = some r := H
  have A3 := Aside0.mk A30
  clear A30
  have HC4 := Aside0.mk H
  clear H
  go_enter Tryz.func54, Tryz.ntmps54
  go_upto_region 2 with (first | ((with_reducible refine gate_callee (f := 29) rfl ?_); refine goesL_ (some 7) rfl rfl Tryz.func29 (by kernel_rfl) rfl #[.int .u64 a0, .int .i64 64] rfl (by (try simp only [List.map_toArray, List.map_cons, List.map_nil]); first | done | rfl | (simp only [List.length_drop, List.length_take]; rfl)) ?_; (with_reducible refine (provostref01_Places.calls k a0 64 t205 _ A3.out).mono ?_); rintro e w5 ⟨v206, rfl, ho0, hb⟩; refine ⟨_, rfl, ?_⟩; have n0_ := Aside0.mk (Kd.R_lower ho0 (below_size (by repeat (first | (with_reducible first | exact HB.out | apply below_alloc | apply pw_below_drewN | apply below_drew1) | exact HB.out)))); have n1_ := Aside0.mk (below_step (by repeat (first | (with_reducible first | exact HB.out | apply below_alloc | apply pw_below_drewN | apply below_drew1) | exact HB.out)) hb); clear HB; have HO207 := n0_; have HB := n1_; clear n0_ n1_; (try clear hb); (try clear hb2); (try clear hk); (try clear hi); (try clear ho0)))
  (try simp only [Act.put, List.setIfInBounds_toArray, List.set_cons_zero, List.set_cons_succ])
  go_cut [15] (fun v15 wc => ∃ (kq : Nat) (x15_3 : Bool), v15 = .bool x15_3 ∧ Aside0 (provostref01_Nth.j0 kq a1 t205 x15_3 = some r) ∧ Aside0 (kq ≤ k) ∧ Aside0 (Kd.R (Kd.int .i64) 3 wc w.heap.size (fun _ => True) v206 t205) ∧ Aside0 (Below w.heap.size w wc))
  case first =>
    have H := HC4.out
    clear HC4
    by_cases c6 : a1 < 0
    · rw [if_pos c6] at H
      have c6b0 : decide (a1 < 0) = true := decide_eq_true c6
      clear c6
      (first | rw [c6b0] | (simp only [i64_w, i32_w]; rw [c6b0]) | skip)
      have H' := Aside0.mk H
      clear H
      go_wp2
      go_meet
      case rel => exact ⟨_, (true), (by first | rfl | (simp; done) | (simp [*]; done)), H', ⟨by first | omega | exact Nat.le_refl _⟩, ⟨by (with_reducible repeat (first | apply Kd.R_alloc | apply Kd.R_drewN | apply Kd.R_drew)); exact HO207.out⟩, ⟨by repeat (first | (with_reducible first | exact HB.out | apply below_alloc | apply pw_below_drewN | apply below_drew1) | exact HB.out)⟩⟩
    · rw [if_neg c6] at H
      have c6b0 : decide (a1 < 0) = false := decide_eq_false c6
      clear c6
      (first | rw [c6b0] | (simp only [i64_w, i32_w]; rw [c6b0]) | skip)
      have H' := Aside0.mk H
      clear H
      obtain ⟨Ao7, co7, eo7⟩ := Kd.R_slice HO207.out
      subst eo7
      go_wp2
      go_meet
      case rel => exact ⟨_, (decide (a1 ≥ (t205.length : Int))), (by first | rfl | (simp; done) | (simp [*]; done)), H', ⟨by first | omega | exact Nat.le_refl _⟩, ⟨by (with_reducible repeat (first | apply Kd.R_alloc | apply Kd.R_drewN | apply Kd.R_drew)); exact HO207.out⟩, ⟨by repeat (first | (with_reducible first | exact HB.out | apply below_alloc | apply pw_below_drewN | apply below_drew1) | exact HB.out)⟩⟩
  case rest =>
    clear HC4
    try clear c2
    try clear p2
    try clear c5
    try clear c6
    try clear c6b0
    obtain ⟨kq, x15_3, rfl, HA, HJ3, HO_5, HB⟩ := hcut
    cases kq with
    | zero => exact absurd HA.out (by simp [provostref01_Nth.j0])
    | succ kj3 =>
      have H := HA.out
      clear HA
      simp only [provostref01_Nth.j0] at H
      by_cases c8 : x15_3 = true
      · subst c8
        have H1 : (some (-1)) = some r := by rw [if_pos rfl] at H; exact H
        clear H
        have H := H1
        clear H1
        obtain rfl := Option.some.inj H
        go_wp2
        go_ret
        exact ⟨by first | rfl | (simp [errW_none, errW_some] <;> rfl) | (simp [*, errW_none, errW_some] <;> rfl), by repeat (first | (with_reducible first | exact HB.out | apply below_alloc | apply pw_below_drewN | apply below_drew1) | exact HB.out)⟩
      · replace c8 := Bool.eq_false_iff.mpr c8
        subst c8
        have H1 : (if 0 ≤ a1 then (if a1 < (t205.length : Int) then (some (rd t205 a1)) else (none)) else (none)) = some r := by rw [if_neg (show ¬ (false = true) by decide)] at H; exact H
        clear H
        have H := H1
        clear H1
        by_cases c9 : 0 ≤ a1
        · rw [if_pos c9] at H
          have c9b0 : decide (0 ≤ a1) = true := decide_eq_true c9
          clear c9
          by_cases c10 : a1 < (t205.length : Int)
          · rw [if_pos c10] at H
            have c10b0 : decide (a1 < (t205.length : Int)) = true := decide_eq_true c10
            clear c10
            obtain rfl := Option.some.inj H
            obtain ⟨Ao11, co11, eo11⟩ := Kd.R_slice HO_5.out
            subst eo11
            have p208 : 0 ≤ (a1 : Int) := of_decide_eq_true (by first | (with_reducible assumption) | assumption)
            have q208 : a1 < (t205.length : Int) := of_decide_eq_true (by first | (with_reducible assumption) | assumption)
            obtain ⟨ad208, e208, hx208_0⟩ := Kd.at_int (Kd.R_reads' HO_5.out).2.2 a1 p208 q208
            cases e208
            replace p208 := eq_true p208
            replace q208 := eq_true q208
            go_wp2
            go_ret
            exact ⟨by first | rfl | (simp [errW_none, errW_some] <;> rfl) | (simp [*, errW_none, errW_some] <;> rfl), by repeat (first | (with_reducible first | exact HB.out | apply below_alloc | apply pw_below_drewN | apply below_drew1) | exact HB.out)⟩
          · rw [if_neg c10] at H
            exact absurd H (by simp)
        · rw [if_neg c9] at H
          exact absurd H (by simp)

/-! ### provostkeep_Ints: function 55 -/
def provostkeep_Ints.l0 : Nat → List Int → List Int → Int → Option (Bool)
  | 0, _, _, _ => none
  | k + 1, x0, x1, x5 => if x5 < (x0.length : Int) then (if 0 ≤ x5 then (if x5 < (x1.length : Int) then (if (rd x0 x5) = (rd x1 x5) then (provostkeep_Ints.l0 k x0 x1 (wrap64 (x5 + 1))) else (some false)) else (none)) else (none)) else (some true)
def provostkeep_Ints.f (k : Nat) (l0 : List Int) (l1 : List Int) : Option (Bool) := if (l0.length : Int) = (l1.length : Int) then (provostkeep_Ints.l0 k l0 l1 0) else (some false)
theorem provostkeep_Ints.mono_l : ∀ k, (∀ y0 y1 y2, LeO (provostkeep_Ints.l0 k y0 y1 y2) (provostkeep_Ints.l0 (k + 1) y0 y1 y2))
  | 0 => fun _ _ _ r h => by simp [provostkeep_Ints.l0] at h
  | k + 1 => by
    have ih0 := provostkeep_Ints.mono_l k
    · intro y0 y1 y2
      unfold provostkeep_Ints.l0
      repeat' first
      | (with_reducible exact ih0 _ _ _)
      | (with_reducible exact LeO.refl _)
      | (with_reducible exact LeO.none _)
      | (with_reducible refine LeO.ite ?_ ?_)
      | (with_reducible refine LeO.bind ?_ (fun _ => ?_))
      | exact ih0 _ _ _
      | exact LeO.none _
      | refine LeO.ite ?_ ?_
      | refine LeO.bind ?_ (fun _ => ?_)
theorem provostkeep_Ints.mono : ∀ a0 a1 k, LeO (provostkeep_Ints.f k a0 a1) (provostkeep_Ints.f (k + 1) a0 a1) := by
  intro a0 a1 k
  have ih0 := provostkeep_Ints.mono_l k
  unfold provostkeep_Ints.f
  repeat' first
      | (with_reducible exact ih0 _ _ _)
      | (with_reducible exact LeO.refl _)
      | (with_reducible exact LeO.none _)
      | (with_reducible refine LeO.ite ?_ ?_)
      | (with_reducible refine LeO.bind ?_ (fun _ => ?_))
      | exact ih0 _ _ _
      | exact LeO.none _
      | refine LeO.ite ?_ ?_
      | refine LeO.bind ?_ (fun _ => ?_)
set_option maxHeartbeats 8000000 in
set_option maxRecDepth 100000 in
theorem provostkeep_Ints.calls (k : Nat) (A0 : Option Addr) (c0 : Nat) (l0 : List Int) (A1 : Option Addr) (c1 : Nat) (l1 : List Int) (r : Bool) (w : World) (hr0 : Kd.C (Kd.int .i64) w A0 l0.length l0) (hc0 : l0.length ≤ c0) (hr1 : Kd.C (Kd.int .i64) w A1 l1.length l1) (hc1 : l1.length ≤ c1) (h : provostkeep_Ints.f k l0 l1 = some r) :
    Calls Tryz.prog 55 #[.slice A0 l0.length c0, .slice A1 l1.length c1] w fun e w' => e = .returned (.bool r) ∧ Drawn0 w w' := by
  have HR0 := Aside0.mk hr0
  have HC0 := Aside0.mk hc0
  clear hr0 hc0
  have HR1 := Aside0.mk hr1
  have HC1 := Aside0.mk hc1
  clear hr1 hc1
  have H : (if (l0.length : Int) = (l1.length : Int) then (provostkeep_Ints.l0 k l0 l1 0) else (some false)) = some r := h
  clear h
  by_cases c3 : (l0.length : Int) = (l1.length : Int)
  · rw [if_pos c3] at H
    have c3b0 : ((l0.length : Int) == (l1.length : Int)) = true := beq_iff_eq.mpr c3
    have c3b1 : ((l0.length : Int) != (l1.length : Int)) = false := bne_eq_false_iff_eq.mpr c3
    have c3b2 : (l0.length == l1.length) = true := by first | simpa using c3 | (simp at c3 ⊢; omega)
    clear c3
    have H' := Aside0.mk H
    clear H
    go_enter Tryz.func55, Tryz.ntmps55
    go_wp2
    repeat (go_quiet (fail); try go_wp2)
    go_loopg [5] k (fun kq v5 w' => ∃ (x5_1 : Int), v5 = .int .i64 x5_1 ∧ Aside0 (provostkeep_Ints.l0 kq l0 l1 x5_1 = some r) ∧ Aside0 (kq ≤ k) ∧ Drawn0 w w')
    case atStart => exact ⟨(0), (by first | rfl | (simp; done) | (simp [*]; done)), H', ⟨Nat.le_refl _⟩, by repeat (first | exact Drawn0.refl _ | apply Drawn0.step)⟩
    case round =>
      clear H'
      try clear c1
      try clear p2
      try clear c3
      try clear c3b0
      try clear c3b1
      try clear c3b2
      obtain ⟨x5_1, rfl, HA, HK1, ⟨m1, rfl⟩⟩ := hrel
      cases gk with
      | zero => exact absurd HA.out (by simp [provostkeep_Ints.l0])
      | succ k1 =>
        have H := HA.out
        clear HA
        simp only [provostkeep_Ints.l0] at H
        by_cases c4 : x5_1 < (l0.length : Int)
        · rw [if_pos c4] at H
          have c4b0 : decide (x5_1 < (l0.length : Int)) = true := decide_eq_true c4
          clear c4
          by_cases c5 : 0 ≤ x5_1
          · rw [if_pos c5] at H
            have c5b0 : decide (0 ≤ x5_1) = true := decide_eq_true c5
            clear c5
            by_cases c6 : x5_1 < (l1.length : Int)
            · rw [if_pos c6] at H
              have c6b0 : decide (x5_1 < (l1.length : Int)) = true := decide_eq_true c6
              clear c6
              by_cases c7 : (rd l0 x5_1) = (rd l1 x5_1)
              · rw [if_pos c7] at H
                have c7b0 : ((rd l0 x5_1) == (rd l1 x5_1)) = true := beq_iff_eq.mpr c7
                have c7b1 : ((rd l0 x5_1) != (rd l1 x5_1)) = false := bne_eq_false_iff_eq.mpr c7
                clear c7
                have H' := Aside0.mk H
                clear H
                have p209 : 0 ≤ (x5_1 : Int) := of_decide_eq_true (by first | (with_reducible assumption) | assumption)
                have q209 : x5_1 < (l0.length : Int) := of_decide_eq_true (by first | (with_reducible assumption) | assumption)
                obtain ⟨ad209, e209, hx209_0⟩ := Kd.at_int HR0.out x5_1 p209 q209
                cases e209
                replace p209 := eq_true p209
                replace q209 := eq_true q209
                have p210 : 0 ≤ (x5_1 : Int) := of_decide_eq_true (by first | (with_reducible assumption) | assumption)
                have q210 : x5_1 < (l1.length : Int) := of_decide_eq_true (by first | (with_reducible assumption) | assumption)
                obtain ⟨ad210, e210, hx210_0⟩ := Kd.at_int HR1.out x5_1 p210 q210
                cases e210
                replace p210 := eq_true p210
                replace q210 := eq_true q210
                go_wp2
                repeat (go_quiet (fail); try go_wp2)
                go_roundg k1
                case measure => have := HK1.out; omega
                case rel => exact ⟨(wrap64 (x5_1 + 1)), (by first | rfl | (simp; done) | (simp [*]; done)), H', ⟨by have := HK1.out; omega⟩, by repeat (first | exact Drawn0.refl _ | apply Drawn0.step)⟩
              · rw [if_neg c7] at H
                have c7b0 : ((rd l0 x5_1) == (rd l1 x5_1)) = false := beq_eq_false_iff_ne.mpr c7
                have c7b1 : ((rd l0 x5_1) != (rd l1 x5_1)) = true := bne_iff_ne.mpr c7
                obtain rfl := Option.some.inj H
                have p209 : 0 ≤ (x5_1 : Int) := of_decide_eq_true (by first | (with_reducible assumption) | assumption)
                have q209 : x5_1 < (l0.length : Int) := of_decide_eq_true (by first | (with_reducible assumption) | assumption)
                obtain ⟨ad209, e209, hx209_0⟩ := Kd.at_int HR0.out x5_1 p209 q209
                cases e209
                replace p209 := eq_true p209
                replace q209 := eq_true q209
                have p210 : 0 ≤ (x5_1 : Int) := of_decide_eq_true (by first | (with_reducible assumption) | assumption)
                have q210 : x5_1 < (l1.length : Int) := of_decide_eq_true (by first | (with_reducible assumption) | assumption)
                obtain ⟨ad210, e210, hx210_0⟩ := Kd.at_int HR1.out x5_1 p210 q210
                cases e210
                replace p210 := eq_true p210
                replace q210 := eq_true q210
                go_wp2
                repeat (go_quiet (fail); try go_wp2)
                go_ret
                exact ⟨by first | rfl | (simp; done) | (simp [*]; done), by repeat (first | exact Drawn0.refl _ | apply Drawn0.step)⟩
            · rw [if_neg c6] at H
              exact absurd H (by simp)
          · rw [if_neg c5] at H
            exact absurd H (by simp)
        · rw [if_neg c4] at H
          have c4b0 : decide (x5_1 < (l0.length : Int)) = false := decide_eq_false c4
          clear c4
          obtain rfl := Option.some.inj H
          go_wp2
          repeat (go_quiet (fail); try go_wp2)
          go_ret
          exact ⟨by first | rfl | (simp; done) | (simp [*]; done), by repeat (first | exact Drawn0.refl _ | apply Drawn0.step)⟩
  · rw [if_neg c3] at H
    have c3b0 : ((l0.length : Int) == (l1.length : Int)) = false := beq_eq_false_iff_ne.mpr c3
    have c3b1 : ((l0.length : Int) != (l1.length : Int)) = true := bne_iff_ne.mpr c3
    have c3b2 : (l0.length == l1.length) = false := by first | simpa using c3 | (simp at c3 ⊢; omega)
    obtain rfl := Option.some.inj H
    go_enter Tryz.func55, Tryz.ntmps55
    go_wp2
    repeat (go_quiet (fail); try go_wp2)
    go_ret
    exact ⟨by first | rfl | (simp; done) | (simp [*]; done), by repeat (first | exact Drawn0.refl _ | apply Drawn0.step)⟩

/-! ### bits_Set_uint64_Places: function 56 -/
section
open Go Go.Lib Go.Proofs.YtfgmapnanaahaaaGreatDoorW.Rng Go.Proofs.YtfgmapnanaahaaaGreatDoorW.BitsM Go.Proofs.YtfgmapnanaahaaaGreatDoorW.Tab
attribute [local go_sem] Oper.semAt_some
theorem places64_info : (Tryz.prog.info? 3).map (fun i => (i.zero, i.size, i.bytes)) = some (some (.int .i64 0), 1, 8) := by kernel_rfl
set_option maxRecDepth 100000 in
set_option maxHeartbeats 2000000 in
theorem bits_Set_uint64_Places.walk (a : Nat) (ha : a < 18446744073709551616) (w : World) (hT : TabW w) :
    Calls Tryz.prog 56 #[.agg #[.int .u64 a]] w fun e W' => ∃ v, e = .returned v ∧ Kd.R (Kd.int .i64) 3 W' w.heap.size (fun _ => True) v ((pl a 0).map (fun x : Nat => (x : Int))) ∧ Below w.heap.size w W' := by
  obtain ⟨i0, hi, hz0, hz1, hz2⟩ := info_parts places64_info
  have hHI := Aside0.mk (And.intro hi (And.intro hz0 (And.intro hz1 hz2)))
  have hTW := Aside0.mk hT
  clear hi hz0 hz1 hz2 hT
  refine calls_marks Tryz.func56 rfl ?_
  simp only [Tryz.ntmps56, List.size_toArray, List.length_cons, List.length_nil, Nat.reduceAdd, Nat.reduceSub, Array.replicate_succ, Array.replicate_zero, List.push_toArray, List.append_toArray, List.nil_append, List.cons_append]
  go_wp2_with (go_at_call 83; refine (all64_made a _).mono ?_; rintro e w' ⟨rfl, rfl⟩)
  have bL := (Boxed.new (w.alloc (.cells #[.int .u64 a] 56)) 47 (.slice none 0 0)).alloc (.cells #[.int .u64 a] 56)
  have bS := Boxed.new ((w.alloc (.cells #[.int .u64 a] 56)).alloc (.cells #[.slice none 0 0] 47)) 56 (.int .u64 a)
  rw [World.size_alloc, World.size_alloc] at bS
  rw [World.size_alloc] at bL
  have hB0 : Below w.heap.size w (((w.alloc (.cells #[.int .u64 a] 56)).alloc (.cells #[.slice none 0 0] 47)).alloc (.cells #[.int .u64 a] 56)) := (((Below.refl _ w).alloc (Nat.le_refl _) _).alloc (by simp) _).alloc (by simp; omega) _
  have hs0 : (((w.alloc (.cells #[.int .u64 a] 56)).alloc (.cells #[.slice none 0 0] 47)).alloc (.cells #[.int .u64 a] 56)).heap.size = w.heap.size + 3 := by simp
  generalize ((w.alloc (.cells #[.int .u64 a] 56)).alloc (.cells #[.slice none 0 0] 47)).alloc (.cells #[.int .u64 a] 56) = W0 at *
  have hg := tab_lt hTW.out
  refine wp_range (gf := 92) (lb := #[.pointer (some ⟨w.heap.size + 1 + 1, 0, none⟩)]) rfl (enters_of Tryz.func92 (by kernel_rfl) rfl)
    (all64_told a ha (w.heap.size + 1 + 1) W0 bS (tab_below hTW.out hB0)) (fun h k => h.trans k)
    (fun W l o o' hl h hc _ => KeptAt.put (tab_put hc) (by omega) h) (Below.refl _ _) (fun x vs W h => by rw [h]; rfl)
    (fun (pre : List Nat) W => (∃ v, Boxed W (w.heap.size + 1) 47 v ∧ W.ownsRow w.heap.size 3 1 v pre.length (pre.map (fun x : Nat => Value.int .i64 (x : Int))) ∧ True) ∧ (Boxed W (w.heap.size + 1 + 1) 56 (.int .u64 a) ∧ Below w.heap.size w W))
    (fun _ _ _ => False)
    (OwnFrom.and (Own.from (holdsRow_own w.heap.size (w.heap.size + 1) 47 3 1 (fun pre : List Nat => pre.length) (fun pre : List Nat => pre.map (fun x : Nat => Value.int .i64 (x : Int))) (fun _ _ => True)) _) (OwnFrom.and (Own.from (boxed_own _ _ (fun _ => _)) _) (ownFrom_below (Nat.le_refl _) (by omega))))
    (fun _ _ _ _ _ hs _ _ => hs)
    ⟨⟨_, bL, World.ownsRow_nil _ _ _ _, trivial⟩, bS, hB0⟩
    (fun x a' _ => a' = { tmps := #[.agg #[.int .u64 a], .pointer (some ⟨w.heap.size, 0, none⟩), .slice none 0 0, .pointer (some ⟨w.heap.size + 1, 0, none⟩), .int .i64 (x : Nat), .agg #[.int .u64 a], .func (.func 92) #[] #[.pointer (some ⟨w.heap.size + 1 + 1, 0, none⟩)], .int .i64 (x : Nat), undef, undef, undef, undef, undef], defers := [] })
    (fun _ _ _ _ _ _ hs _ _ => hs) ?assign ?body ?done ?stop
  case assign =>
    rintro l pre x vs W K hI rfl hK
    gi_wp2
    exact hK _ _ (KeepsFrom.refl _ _) (KeptAt.refl _ _ _) hI rfl
  case body =>
    rintro l pre x a' W hl _ ⟨⟨v, hv, hrow, _⟩, hS, hB⟩ rfl hpre
    have hc := hv.cell
    have hlen := pre_len hpre
    obtain ⟨hi, hz0, hz1, hz2⟩ := hHI.out
    have HB := Aside0.mk hB
    have HBS := Aside0.mk hS
    clear hB hS bL bS hB0
    gi_wp2_with (gi_at_builtin; refine wpListIn_append_own _ rfl _ _ 47 rfl w.heap.size 3 i0 (.int .i64 0) 1 8 Tryz.underlying47 hi hz0 hz1 hz2 rfl (by decide) _ _ _ rfl (hrow.alloc _) ⟨W.heap.size, 0, none⟩ 1 1 [.int .i64 (x : Nat)] rfl rfl (cell_one_new _ _ _) (by simp [Value.oneCell']) (by unfold maxLen; omega) (by omega) (by have := HB.out.size; simp; omega) ?_; intro v' w1 hown' hgrow _; obtain ⟨g', cap', rfl⟩ := ownsRow_succ hown'; have hS1 := (HBS.out.alloc _).kept hgrow (HBS.out.not_row (by decide) hrow); obtain ⟨hv1, hv2, hr2, hk2, hb2⟩ := hv.appended (by decide) hrow HB.out.size (by omega) hown' hgrow; have hc1 := hv1.cell; have hf1 := hv1.frozen)
    have hS2 := hS1.other (B' := w.heap.size + 1) (by omega) (.slice (some ⟨g', 0, none⟩) (pre.length + 1) cap')
    refine ⟨hk2.from _, ⟨hS2.trans (show _ = _ from HBS.out).symm, fun ht => tab_low hg ht hb2, hk2.size⟩, ⟨_, hv2, by rw [List.length_append, List.map_append]; exact hr2, trivial⟩, hS2, HB.out.trans hb2⟩
  case done =>
    rintro D W hD ⟨⟨v, hv, hrow, _⟩, hS, hB⟩ hK
    have hc := hv.cell
    go_wp2
    refine ⟨by simp, .inl ⟨_, _, rfl, run_takeDeferred hK, ?_⟩⟩
    refine ⟨_, results_tmp rfl _ _ _, v, rfl, Kd.R_of_own ?_ (fun _ _ => trivial), hB.trans (belowK_b (w := w) (Nat.le_refl _) W D _ _ (by omega) hK rfl rfl)⟩
    have := ownsRow_putObj hrow (.deferred none) hK rfl
    rw [List.length_map, show encs (Value.int .i64) ((pl a 0).map (fun x : Nat => (x : Int))) = (pl a 0).map (fun x : Nat => Value.int .i64 (x : Int)) by unfold encs; rw [List.map_map]; rfl]
    exact this
  case stop =>
    rintro D c pre W _ _ h _
    exact h.elim
def bits_Set_uint64_Places.f (a0 : Int) : Option (List Int) := if 0 ≤ a0 ∧ a0 < 18446744073709551616 then some ((pl a0.toNat 0).map (fun x : Nat => (x : Int))) else none
theorem bits_Set_uint64_Places.calls (a0 : Int) (r : List Int) (w : World) (h : bits_Set_uint64_Places.f a0 = some r) (HTAB_ : Aside0 (TabW w)) :
    Calls Tryz.prog 56 #[.agg #[.int .u64 a0]] w fun e w' => ∃ v0_ : Value, e = .returned (v0_) ∧ Kd.R (Kd.int .i64) 3 w' w.heap.size (fun _ => True) v0_ r ∧ Below w.heap.size w w' := by
  unfold bits_Set_uint64_Places.f at h
  split at h
  next hb =>
    obtain ⟨x, rfl⟩ := Int.eq_ofNat_of_zero_le hb.1
    injection h with h
    subst h
    exact bits_Set_uint64_Places.walk x (by omega) w HTAB_.out
  next => cases h
end


/-! ### bits_Set_uint64_Text: function 57 -/
section
open Go Go.Lib Go.Proofs.YtfgmapnanaahaaaGreatDoorW.Rng Go.Proofs.YtfgmapnanaahaaaGreatDoorW.BitsM Go.Proofs.YtfgmapnanaahaaaGreatDoorW.Tab
attribute [local go_sem] Oper.semAt_some
theorem text64_info : (Tryz.prog.info? 9).map (fun i => (i.zero, i.size, i.bytes)) = some (some (.string ⟨#[]⟩), 1, 16) := by kernel_rfl
set_option maxRecDepth 100000 in
set_option maxHeartbeats 4000000 in
theorem bits_Set_uint64_Text.walk (a : Nat) (ha : a < 18446744073709551616) (w : World) (hT : TabW w) :
    Calls Tryz.prog 57 #[.agg #[.int .u64 a]] w fun e W' => e = .returned (.string (textF a)) ∧ Below w.heap.size w W' := by
  obtain ⟨i0, hi, hz0, hz1, hz2⟩ := info_parts text64_info
  have hHI := Aside0.mk (And.intro hi (And.intro hz0 (And.intro hz1 hz2)))
  have hTW := Aside0.mk hT
  clear hi hz0 hz1 hz2 hT
  refine calls_marks Tryz.func57 rfl ?_
  simp only [Tryz.ntmps57, List.size_toArray, List.length_cons, List.length_nil, Nat.reduceAdd, Nat.reduceSub, Array.replicate_succ, Array.replicate_zero, List.push_toArray, List.append_toArray, List.nil_append, List.cons_append]
  go_wp2_with (go_at_call 83; refine (all64_made a _).mono ?_; rintro e w' ⟨rfl, rfl⟩)
  have bL := (Boxed.new (w.alloc (.cells #[.int .u64 a] 56)) 49 (.slice none 0 0)).alloc (.cells #[.int .u64 a] 56)
  have bS := Boxed.new ((w.alloc (.cells #[.int .u64 a] 56)).alloc (.cells #[.slice none 0 0] 49)) 56 (.int .u64 a)
  rw [World.size_alloc, World.size_alloc] at bS
  rw [World.size_alloc] at bL
  have hB0 : Below w.heap.size w (((w.alloc (.cells #[.int .u64 a] 56)).alloc (.cells #[.slice none 0 0] 49)).alloc (.cells #[.int .u64 a] 56)) := (((Below.refl _ w).alloc (Nat.le_refl _) _).alloc (by simp) _).alloc (by simp; omega) _
  have hs0 : (((w.alloc (.cells #[.int .u64 a] 56)).alloc (.cells #[.slice none 0 0] 49)).alloc (.cells #[.int .u64 a] 56)).heap.size = w.heap.size + 3 := by simp
  generalize ((w.alloc (.cells #[.int .u64 a] 56)).alloc (.cells #[.slice none 0 0] 49)).alloc (.cells #[.int .u64 a] 56) = W0 at *
  have hg := tab_lt hTW.out
  refine wp_range (gf := 92) (lb := #[.pointer (some ⟨w.heap.size + 1 + 1, 0, none⟩)]) rfl (enters_of Tryz.func92 (by kernel_rfl) rfl)
    (all64_told a ha (w.heap.size + 1 + 1) W0 bS (tab_below hTW.out hB0)) (fun h k => h.trans k)
    (fun W l o o' hl h hc _ => KeptAt.put (tab_put hc) (by omega) h) (Below.refl _ _) (fun x vs W h => by rw [h]; rfl)
    (fun (pre : List Nat) W => (∃ v, Boxed W (w.heap.size + 1) 49 v ∧ W.ownsRow w.heap.size 9 1 v pre.length (pre.map (fun x : Nat => Value.string (dstr x))) ∧ True) ∧ (Boxed W (w.heap.size + 1 + 1) 56 (.int .u64 a) ∧ Below w.heap.size w W))
    (fun _ _ _ => False)
    (OwnFrom.and (Own.from (holdsRow_own w.heap.size (w.heap.size + 1) 49 9 1 (fun pre : List Nat => pre.length) (fun pre : List Nat => pre.map (fun x : Nat => Value.string (dstr x))) (fun _ _ => True)) _) (OwnFrom.and (Own.from (boxed_own _ _ (fun _ => _)) _) (ownFrom_below (Nat.le_refl _) (by omega))))
    (fun _ _ _ _ _ hs _ _ => hs)
    ⟨⟨_, bL, World.ownsRow_nil _ _ _ _, trivial⟩, bS, hB0⟩
    (fun x a' _ => a' = { tmps := #[.agg #[.int .u64 a], .pointer (some ⟨w.heap.size, 0, none⟩), .string ⟨#[]⟩, .pointer (some ⟨w.heap.size + 1, 0, none⟩), .int .i64 (x : Nat), .agg #[.int .u64 a], .func (.func 92) #[] #[.pointer (some ⟨w.heap.size + 1 + 1, 0, none⟩)], .int .i64 (x : Nat), undef, undef, undef, undef, undef, undef, undef, undef, undef], defers := [] })
    (fun _ _ _ _ _ _ hs _ _ => hs) ?assign ?body ?done ?stop
  case assign =>
    rintro l pre x vs W K hI rfl hK
    gi_wp2
    exact hK _ _ (KeepsFrom.refl _ _) (KeptAt.refl _ _ _) hI rfl
  case body =>
    rintro l pre x a' W hl _ ⟨⟨v, hv, hrow, _⟩, hS, hB⟩ rfl hpre
    have hc := hv.cell
    have hlen := pre_len hpre
    obtain ⟨hi, hz0, hz1, hz2⟩ := hHI.out
    have HB := Aside0.mk hB
    have HBS := Aside0.mk hS
    have hx64 : x < 100 := by
      have : x ∈ pl a 0 := hpre.subset (by simp)
      have := mem_pl.1 this
      omega
    clear hB hS bL bS hB0 hpre
    have hcd : W.drew.cell? ⟨w.heap.size + 1, 0, none⟩ = some v := hc
    gi_wp2
    refine start_in (n := 6) (S := fun w' => w'.cell? ⟨w.heap.size + 1, 0, none⟩ = some v) (ds := [5]) #[false, false, false, false, false, false] (by kernel_rfl) (fun _ _ h => h) (by kernel_rfl) rfl rfl hcd (fun hHeld => ?_)
    refine take_ (i := 0) (N := (some 8)) (v := ?_) (a' := ?_) #[true, false, false, false, false, false] rfl rfl (by kernel_rfl) (fun _ _ _ h => h) (Or.inl ⟨by rfl, ?_⟩) hHeld ?_ ?_
    rotate_left
    · intro w' s0
      go_simp
      with_reducible rfl
    rotate_left
    · simp only [Act.put, List.setIfInBounds_toArray, List.set_cons_zero, List.set_cons_succ, i64_w, i32_w]
      rfl
    refine pure_ (i := 1) (N := (some 9)) (v := ?_) (a' := ?_) #[true, true, false, false, false, false] rfl rfl (by kernel_rfl) (fun _ _ _ h => h) (Or.inl ⟨by rfl, ?_⟩) ?_ ?_
    rotate_left
    · intro w'
      go_simp
      with_reducible rfl
    rotate_left
    · simp only [Act.put, List.setIfInBounds_toArray, List.set_cons_zero, List.set_cons_succ, i64_w, i32_w]
      rfl
    refine one_ (i := 2) (N := (some 10)) #[true, true, true, false, false, false] rfl rfl (by kernel_rfl) (by decide) (fun K hK => ?_)
    refine goes_ Tryz.func34 (by kernel_rfl) rfl #[.int .i64 (x : Nat)] (by rfl) rfl rfl (by (try simp only [List.map_toArray, List.map_cons, List.map_nil]); first | done | rfl) ?_
    (with_reducible refine (Sh.strconv_Itoa_small x hx64 _).mono ?_)
    rintro e w2 ⟨rfl, rfl⟩
    refine ⟨_, rfl, ?_⟩
    refine hK.out _ _ (hcd) (fun hHeld => ?_)
    clear hK K
    refine norm_ (a' := ?_) ?_ ?_
    rotate_left
    · show Act.put _ (some 10) _ = _
      simp only [Act.put, List.setIfInBounds_toArray, List.set_cons_zero, List.set_cons_succ, i64_w, i32_w]
      rfl
    refine one_ (i := 3) (N := (some 11)) #[true, true, true, true, false, false] rfl rfl (by kernel_rfl) (by decide) (fun K hK => ?_)
    refine event_step (v := .slice (some ⟨W.heap.size, 0, none⟩) 1 1) (w1 := (W.drew).alloc (.cells #[.string (dstr x)] 9)) (by rfl) ?_ ?_
    · go_simp
      rfl
    have hca : ((W.drew).alloc (.cells #[.string (dstr x)] 9)).cell? ⟨w.heap.size + 1, 0, none⟩ = some v := (hv.alloc _).cell
    refine hK.out _ _ (hca) (fun hHeld => ?_)
    clear hK K
    refine norm_ (a' := ?_) ?_ ?_
    rotate_left
    · show Act.put _ (some 11) _ = _
      simp only [Act.put, List.setIfInBounds_toArray, List.set_cons_zero, List.set_cons_succ, i64_w, i32_w]
      rfl
    refine one_ (i := 4) (N := (some 12)) #[true, true, true, true, true, false] rfl rfl (by kernel_rfl) (by decide) (fun K hK => ?_)
    obtain ⟨v', w1, hrun, hown', hgrow, _⟩ := run_append_own (P := Tryz.prog) (w := (W.drew).alloc (.cells #[.string (dstr x)] 9)) w.heap.size 49 49 9 i0 (.string ⟨#[]⟩) 1 16 Tryz.underlying49 hi hz0 hz1 hz2 rfl (by decide) v pre.length _ (show (W.drew.alloc (.cells #[.string (dstr x)] 9)).ownsRow w.heap.size 9 1 v pre.length (pre.map (fun x : Nat => Value.string (dstr x))) from World.ownsRow.alloc (w := W.drew) (show W.drew.ownsRow w.heap.size 9 1 v pre.length (pre.map (fun x : Nat => Value.string (dstr x))) from hrow) _) ⟨W.heap.size, 0, none⟩ 1 1 [.string (dstr x)] rfl (cell_one_new _ _ _) (by simp [Value.oneCell']) (by unfold maxLen; omega) (by omega) (by have := HB.out.size; simp; omega)
    obtain ⟨g', cap', rfl⟩ := ownsRow_succ hown'
    have hD : Boxed W.drew (w.heap.size + 1) 49 v := hv
    have hDS : Boxed W.drew (w.heap.size + 1 + 1) 56 (.int .u64 a) := HBS.out
    have hrowD : W.drew.ownsRow w.heap.size 9 1 v pre.length (pre.map (fun x : Nat => Value.string (dstr x))) := hrow
    have HS1 := Aside0.mk ((hDS.alloc _).kept hgrow (hDS.not_row (by decide) hrowD))
    obtain ⟨hv1, hv2, hr2, hk2, hb2⟩ := hD.appended (by decide) hrowD HB.out.size (by omega) hown' hgrow
    refine event_step (v := .slice (some ⟨g', 0, none⟩) (pre.length + 1) cap') (w1 := w1) (by rfl) ?_ ?_
    · unfold execOp; simp [resolve, invoke, builtin, Act.eval, hrun, Result.andThen]
    have hc1 := hv1.cell; have hf1 := hv1.frozen; have HV2 := Aside0.mk hv2; have HR2 := Aside0.mk hr2; have HK2 := Aside0.mk ((KeepsOthers.drew W).trans hk2); have HB2 := Aside0.mk ((below_drew (Below.refl w.heap.size W)).trans hb2); clear hv2 hr2 hk2 hb2 hv1 hD hDS hrowD hrun hown' hgrow hc hcd hca
    refine hK.out _ _ hc1 (fun hHeld => ?_)
    clear hK K
    refine norm_ (a' := ?_) ?_ ?_
    rotate_left
    · show Act.put _ (some 12) _ = _
      simp only [Act.put, List.setIfInBounds_toArray, List.set_cons_zero, List.set_cons_succ, i64_w, i32_w]
      rfl
    refine last_ (i := 5) (N := none) #[true, true, true, true, true, true] rfl rfl (by kernel_rfl) (by decide) (fun K hK => ?_)
    refine skip_ (w1 := w1.setCell ⟨w.heap.size + 1, 0, none⟩ (.slice (some ⟨g', 0, none⟩) (pre.length + 1) cap')) (by rfl) rfl ?_ ?_
    · go_simp
    refine hK.out _ _ ?_
    clear hK K
    refine done_ (by kernel_rfl) ?_
    have hS2 := HS1.out.other (B' := w.heap.size + 1) (by omega) (.slice (some ⟨g', 0, none⟩) (pre.length + 1) cap')
    refine ⟨HK2.out.from _, ⟨hS2.trans (show _ = _ from HBS.out).symm, fun ht => tab_low hg ht HB2.out, HK2.out.size⟩, ⟨_, HV2.out, by rw [List.length_append, List.map_append]; exact HR2.out, trivial⟩, hS2, HB.out.trans HB2.out⟩
  case done =>
    rintro D W hD ⟨⟨v, hv, hrow, _⟩, hS, hB⟩ hK
    have hc := hv.cell
    have hlt : ∀ x ∈ pl a 0, x < 64 := fun x hx => (mem_pl.1 hx).2.1
    have hjl := join_len (pl a 0) hlt
    have hpl := pl_len a 0
    have HK := Aside0.mk hK
    have HB := Aside0.mk hB
    have HLT := Aside0.mk hlt
    clear hK hB hS bL bS hB0 hlt
    have JN : Calls Tryz.prog 35 #[v, .string ⟨#[44]⟩] W fun e w' => e = .returned (.string ⟨(Lib.join ((pl a 0).map decDigits) [44]).toArray⟩) ∧ Below W.heap.size W w' := by
      obtain ⟨hn, hz⟩ := hrow
      rcases hz with ⟨rfl, h0⟩ | ⟨g, cap, cur, rfl, hb, hgb, hc1, hc2, hc3, hc4⟩
      · have hp0 : pl a 0 = [] := List.eq_nil_of_length_eq_zero h0
        rw [hp0]
        exact (Sh.strings_Join_none none 0 ⟨#[44]⟩ W).mono fun e w' ⟨he, hw⟩ => ⟨he, by rw [hw]; exact Below.refl _ _⟩
      · rw [Nat.mul_one] at hc3 hc4
        have hml : ((pl a 0).map dstr).length = (pl a 0).length := List.length_map _
        have hmm : ((pl a 0).map dstr).map (·.data.toList) = (pl a 0).map decDigits := by rw [List.map_map]; rfl
        have J := Sh.strings_Join g 0 cap ((pl a 0).map dstr) ⟨#[44]⟩ W (fun j x hj => by
          have hjl : j < (pl a 0).length := by
            rcases Nat.lt_or_ge j (pl a 0).length with h | h
            · exact h
            · rw [List.getElem?_eq_none (by omega)] at hj; cases hj
          rw [Nat.zero_add]
          have h1 : (cur.toList.take (pl a 0).length)[j]? = some (.string x) := by
            rw [hc4, List.getElem?_map]
            rw [List.getElem?_map] at hj
            cases hp : (pl a 0)[j]? with
            | none => rw [hp] at hj; cases hj
            | some y => rw [hp] at hj; injection hj with hj; rw [← hj]; rfl
          rw [List.getElem?_take_of_lt hjl] at h1
          have h2 : cur[j]? = some (.string x) := by rw [← Array.getElem?_toList]; exact h1
          exact (cell_of_row W g j cur _ _ hgb).trans h2) (blk_lt hgb) (by omega) (by omega) (by rw [hmm]; show (Lib.join ((pl a 0).map decDigits) [44]).length ≤ _; omega)
        rw [hml, hmm] at J
        exact J
    have HJN := Aside0.mk JN
    clear JN hrow
    go_wp2_with (go_at_call 35; (with_reducible refine HJN.out.mono ?_); rintro e w2 ⟨rfl, hb2⟩; have hK2 := (hb2.block D (Array.getElem?_eq_some_iff.1 HK.out).1).trans HK.out; have HB2 := Aside0.mk hb2; clear hb2)
    refine ⟨by simp, .inl ⟨_, _, rfl, run_takeDeferred hK2, ?_⟩⟩
    refine ⟨_, results_tmp rfl _ _ _, ?_, (HB.out.trans (HB2.out.mono HB.out.size)).trans (belowK_b (w := w) (Nat.le_refl _) w2 D _ _ (by omega) hK2 rfl rfl)⟩
    show Ending.returned (.string _) = _
    congr 2
  case stop =>
    rintro D c pre W _ _ h _
    exact h.elim
def bits_Set_uint64_Text.f (a0 : Int) : Option ByteArray := if 0 ≤ a0 ∧ a0 < 18446744073709551616 then some (textF a0.toNat) else none
theorem bits_Set_uint64_Text.calls (a0 : Int) (r : ByteArray) (w : World) (h : bits_Set_uint64_Text.f a0 = some r) (HTAB_ : Aside0 (TabW w)) :
    Calls Tryz.prog 57 #[.agg #[.int .u64 a0]] w fun e w' => e = .returned (.string r) ∧ Below w.heap.size w w' := by
  unfold bits_Set_uint64_Text.f at h
  split at h
  next hb =>
    obtain ⟨x, rfl⟩ := Int.eq_ofNat_of_zero_le hb.1
    injection h with h
    subst h
    exact bits_Set_uint64_Text.walk x (by omega) w HTAB_.out
  next => cases h
end


/-! ### provostlaw01_one64: function 25 -/
section
open Go Go.Lib Go.Proofs.YtfgmapnanaahaaaGreatDoorW.Rng Go.Proofs.YtfgmapnanaahaaaGreatDoorW.BitsM Go.Proofs.YtfgmapnanaahaaaGreatDoorW.Tab
/-- what stands while one64 runs -/
def One64Sit (w0 : World) (g8 g9 a : Nat) (tw : Int) (W : World) : Prop := Boxed W g8 56 (.int .u64 a) ∧ Boxed W g9 56 (.int .u64 tw) ∧ TabW W ∧ Below w0.heap.size w0 W
section
variable {w0 : World} {g8 g9 a : Nat} {tw : Int} {W : World}
theorem One64Sit.below {W' : World} (h : One64Sit w0 g8 g9 a tw W) (hw : Below W.heap.size W W') : One64Sit w0 g8 g9 a tw W' := by
  obtain ⟨h4, h5, hT, hB⟩ := h
  exact ⟨(hw.block _ h4.lt).trans h4, (hw.block _ h5.lt).trans h5, tab_below hT hw, hB.trans (hw.mono hB.size)⟩
theorem One64Sit.drew (h : One64Sit w0 g8 g9 a tw W) : One64Sit w0 g8 g9 a tw W.drew := ⟨h.1, h.2.1, h.2.2.1, below_drew h.2.2.2⟩
theorem One64Sit.drewN (h : One64Sit w0 g8 g9 a tw W) (nd : Nat) : One64Sit w0 g8 g9 a tw (W.drewN nd) := ⟨h.1, h.2.1, h.2.2.1, pw_below_drewN h.2.2.2 nd⟩
theorem One64Sit.drawn {W' : World} (h : One64Sit w0 g8 g9 a tw W) (hd : Drawn0 W W') : One64Sit w0 g8 g9 a tw W' := by
  obtain ⟨⟨nd, rfl⟩⟩ := hd
  exact h.drewN nd
theorem One64Sit.c8 (h : One64Sit w0 g8 g9 a tw W) : W.cell? ⟨g8, 0, none⟩ = some (.int .u64 a) := h.1.cell
theorem One64Sit.c9 (h : One64Sit w0 g8 g9 a tw W) : W.cell? ⟨g9, 0, none⟩ = some (.int .u64 tw) := h.2.1.cell
theorem One64Sit.tab (h : One64Sit w0 g8 g9 a tw W) : TabW W := h.2.2.1
theorem One64Sit.bel (h : One64Sit w0 g8 g9 a tw W) : Below w0.heap.size w0 W := h.2.2.2
end
set_option maxRecDepth 100000 in
set_option maxHeartbeats 8000000 in
theorem provostlaw01_one64.has (a : Nat) (i k : Int) (K : Nat) (uw l lo hi nx_ rk nt : Int) (L : List Int) (t : ByteArray) (tw : Int) (HWi : Aside0 (bits_Set_uint64_With.f (a : Int) i = some (tw, 0))) (HWo : Aside0 (bits_Set_uint64_Without.f (a : Int) i = some uw)) (HHa : Aside0 (bits_Set_uint64_Has.f (a : Int) i = some true)) (HHr : Aside0 (provostref01_Has.f (a : Int) 64 i = some true)) (HLena : Aside0 (bits_Set_uint64_Len.f (a : Int) = some l)) (HLenr : Aside0 (provostref01_Len.f K (a : Int) = some l)) (HLowa : Aside0 (bits_Set_uint64_Low.f K (a : Int) = some lo)) (HLowr : Aside0 (provostref01_Low.f K (a : Int) = some lo)) (HHigha : Aside0 (bits_Set_uint64_High.f (a : Int) = some hi)) (HHighr : Aside0 (provostref01_High.f K (a : Int) = some hi)) (HNexta : Aside0 (bits_Set_uint64_Next.f K (a : Int) i = some nx_)) (HNextr : Aside0 (provostref01_Next.f K (a : Int) i = some nx_)) (HRanka : Aside0 (bits_Set_uint64_Rank.f (a : Int) i = some rk)) (HRankr : Aside0 (provostref01_Rank.f K (a : Int) i = some rk)) (HNtha : Aside0 (bits_Set_uint64_Nth.f (a : Int) k = some nt)) (HNthr : Aside0 (provostref01_Nth.f K (a : Int) k = some nt)) (HPa : Aside0 (bits_Set_uint64_Places.f (a : Int) = some L)) (HPr : Aside0 (provostref01_Places.f K (a : Int) 64 = some L)) (HIn : Aside0 (provostkeep_Ints.f K L L = some true)) (HXa : Aside0 (bits_Set_uint64_Text.f (a : Int) = some t)) (HXr : Aside0 (provostref01_Text.f K (a : Int) = some t)) (HDa : Aside0 (bits_Set_uint64_Width.f (a : Int) = some 64)) (o1 : Int) (HO1 : Aside0 (provostref01_One.f i = some o1)) (hor : Go.bits .or .u64 (a : Int) o1 = tw) (hi0 : 0 ≤ i) (hi1 : i < 64) (hsub : IntKind.u64.wrap ((a : Int) - o1) = uw)  (w : World) (hT : TabW w) :
    Calls Tryz.prog 25 #[.int .u64 a, .int .i64 i, .int .i64 k] w fun e W' => e = .returned (.bool true) ∧ Below w.heap.size w W' := by
  have HOA := Aside0.mk (show bits_Set_uint64_Of.f 0 (a : Int) = some (a : Int) from rfl)
  have HTW := Aside0.mk hT
  clear hT
  go_enter Tryz.func25, Tryz.ntmps25
  have d0 : decide (0 ≤ i) = true := decide_eq_true hi0; have d0' : decide (i ≥ 0) = true := d0; have d1 : decide (i < 64) = true := decide_eq_true hi1; clear hi0 hi1
  go_wp2_with (first | (go_at_call 39; (with_reducible refine (bits_Set_uint64_Of.calls 0 a a _ HOA.out).mono ?_); rintro e w1 ⟨rfl, hb1⟩; have yB : Below w.heap.size w (w.alloc (.cells #[.int .u64 0] 56)) := (Below.refl _ w).alloc (Nat.le_refl _) _; have HB1 := Aside0.mk (yB.trans (hb1.mono yB.size)); have HT1 := Aside0.mk (tab_below HTW.out (yB.trans (hb1.mono yB.size))); clear yB hb1) | (go_at_call 40; (with_reducible refine (bits_Set_uint64_With.calls a i tw 0 _ HWi.out).mono ?_); rintro e w2 ⟨rfl, hb2⟩; have y4 := Boxed.new w1 56 (.int .u64 a); have yB := HB1.out.alloc HB1.out.size (.cells #[.int .u64 a] 56); have yT := tab_below HT1.out ((Below.refl _ w1).alloc (Nat.le_refl _) (.cells #[.int .u64 a] 56)); have ST := Aside0.mk (show One64Sit w w1.heap.size w2.heap.size a tw (w2.alloc (.cells #[.int .u64 tw] 56)) from ⟨Boxed.alloc (show Boxed w2 w1.heap.size 56 (.int .u64 a) from (hb2.block _ y4.lt).trans y4) _, Boxed.new _ _ _, tab_below (tab_below yT hb2) ((Below.refl _ w2).alloc (Nat.le_refl _) _), (yB.trans (hb2.mono yB.size)).alloc (yB.trans (hb2.mono yB.size)).size _⟩); have q8 := ST.out.c8; have q9 := ST.out.c9; clear y4 yB yT hb2 HB1 HT1 HTW) | (go_at_call 41; (with_reducible refine (bits_Set_uint64_Word.calls a a _ rfl).mono ?_); rintro e wn ⟨rfl, hbn⟩; replace ST := Aside0.mk (ST.out.below hbn); clear hbn; replace q8 := ST.out.c8; replace q9 := ST.out.c9) | (go_at_call 41; (with_reducible refine (bits_Set_uint64_Word.calls tw tw _ rfl).mono ?_); rintro e wn ⟨rfl, hbn⟩; replace ST := Aside0.mk (ST.out.below hbn); clear hbn; replace q8 := ST.out.c8; replace q9 := ST.out.c9) | (go_at_call 38; (with_reducible refine (provostref01_One.calls i o1 _ HO1.out).mono ?_); rintro e wn ⟨rfl, hdn⟩; replace ST := Aside0.mk (ST.out.drawn hdn); clear hdn; replace q8 := ST.out.c8; replace q9 := ST.out.c9) | (go_at_call 41; (with_reducible refine (bits_Set_uint64_Word.calls uw uw _ rfl).mono ?_); rintro e wn ⟨rfl, hbn⟩; replace ST := Aside0.mk (ST.out.below hbn); clear hbn; replace q8 := ST.out.c8; replace q9 := ST.out.c9) | (go_at_call 42; (with_reducible refine (bits_Set_uint64_Without.calls a i uw _ HWo.out).mono ?_); rintro e wn ⟨rfl, hbn⟩; replace ST := Aside0.mk (ST.out.below hbn); clear hbn; replace q8 := ST.out.c8; replace q9 := ST.out.c9) | (go_at_call 15; (with_reducible refine (provostref01_Has.calls a 64 i true _ HHr.out).mono ?_); rintro e wn ⟨rfl, hdn⟩; replace ST := Aside0.mk (ST.out.drawn hdn); clear hdn; replace q8 := ST.out.c8; replace q9 := ST.out.c9) | (go_at_call 44; (with_reducible refine (bits_Set_uint64_Has.calls a i true _ HHa.out).mono ?_); rintro e wn ⟨rfl, hbn⟩; replace ST := Aside0.mk (ST.out.below hbn); clear hbn; replace q8 := ST.out.c8; replace q9 := ST.out.c9) | (go_at_call 43; (with_reducible refine (bits_Set_uint64_Width.calls a 64 _ HDa.out).mono ?_); rintro e wn ⟨rfl, hbn⟩; replace ST := Aside0.mk (ST.out.below hbn); clear hbn; replace q8 := ST.out.c8; replace q9 := ST.out.c9) | (go_at_call 45; (with_reducible refine (bits_Set_uint64_Len.calls a l _ HLena.out).mono ?_); rintro e wn ⟨rfl, hbn⟩; replace ST := Aside0.mk (ST.out.below hbn); clear hbn; replace q8 := ST.out.c8; replace q9 := ST.out.c9) | (go_at_call 9; (with_reducible refine (provostref01_Len.calls K a l _ HLenr.out).mono ?_); rintro e wn ⟨rfl, hbn⟩; replace ST := Aside0.mk (ST.out.below hbn); clear hbn; replace q8 := ST.out.c8; replace q9 := ST.out.c9) | (go_at_call 46; (with_reducible refine (bits_Set_uint64_Low.calls K a lo _ HLowa.out ⟨ST.out.tab⟩).mono ?_); rintro e wn ⟨rfl, hbn⟩; replace ST := Aside0.mk (ST.out.below hbn); clear hbn; replace q8 := ST.out.c8; replace q9 := ST.out.c9) | (go_at_call 47; (with_reducible refine (provostref01_Low.calls K a lo _ HLowr.out).mono ?_); rintro e wn ⟨rfl, hbn⟩; replace ST := Aside0.mk (ST.out.below hbn); clear hbn; replace q8 := ST.out.c8; replace q9 := ST.out.c9) | (go_at_call 48; (with_reducible refine (bits_Set_uint64_High.calls a hi _ HHigha.out).mono ?_); rintro e wn ⟨rfl, hbn⟩; replace ST := Aside0.mk (ST.out.below hbn); clear hbn; replace q8 := ST.out.c8; replace q9 := ST.out.c9) | (go_at_call 12; (with_reducible refine (provostref01_High.calls K a hi _ HHighr.out).mono ?_); rintro e wn ⟨rfl, hbn⟩; replace ST := Aside0.mk (ST.out.below hbn); clear hbn; replace q8 := ST.out.c8; replace q9 := ST.out.c9) | (go_at_call 49; (with_reducible refine (bits_Set_uint64_Next.calls K a i nx_ _ HNexta.out ⟨ST.out.tab⟩).mono ?_); rintro e wn ⟨rfl, hbn⟩; replace ST := Aside0.mk (ST.out.below hbn); clear hbn; replace q8 := ST.out.c8; replace q9 := ST.out.c9) | (go_at_call 50; (with_reducible refine (provostref01_Next.calls K a i nx_ _ HNextr.out).mono ?_); rintro e wn ⟨rfl, hbn⟩; replace ST := Aside0.mk (ST.out.below hbn); clear hbn; replace q8 := ST.out.c8; replace q9 := ST.out.c9) | (go_at_call 51; (with_reducible refine (bits_Set_uint64_Rank.calls a i rk _ HRanka.out).mono ?_); rintro e wn ⟨rfl, hbn⟩; replace ST := Aside0.mk (ST.out.below hbn); clear hbn; replace q8 := ST.out.c8; replace q9 := ST.out.c9) | (go_at_call 52; (with_reducible refine (provostref01_Rank.calls K a i rk _ HRankr.out).mono ?_); rintro e wn ⟨rfl, hbn⟩; replace ST := Aside0.mk (ST.out.below hbn); clear hbn; replace q8 := ST.out.c8; replace q9 := ST.out.c9) | (go_at_call 53; (with_reducible refine (bits_Set_uint64_Nth.calls a k nt _ HNtha.out ⟨ST.out.tab⟩).mono ?_); rintro e wn ⟨rfl, hbn⟩; replace ST := Aside0.mk (ST.out.below hbn); clear hbn; replace q8 := ST.out.c8; replace q9 := ST.out.c9) | (go_at_call 54; (with_reducible refine (provostref01_Nth.calls K a k nt _ HNthr.out).mono ?_); rintro e wn ⟨rfl, hbn⟩; replace ST := Aside0.mk (ST.out.below hbn); clear hbn; replace q8 := ST.out.c8; replace q9 := ST.out.c9) | (go_at_call 56; (with_reducible refine (bits_Set_uint64_Places.calls a L _ HPa.out ⟨ST.out.tab⟩).mono ?_); rintro e wn ⟨v1, rfl, hr1, hbn⟩; obtain ⟨A1, c1, rfl, hc1, hC1⟩ := Kd.R_reads hr1; have HC1 := Aside0.mk hC1; have HC1c := Aside0.mk hc1; clear hr1 hC1 hc1; replace ST := Aside0.mk (ST.out.below hbn); clear hbn; replace q8 := ST.out.c8; replace q9 := ST.out.c9) | (go_at_call 29; (with_reducible refine (provostref01_Places.calls K a 64 L _ HPr.out).mono ?_); rintro e wn ⟨v2, rfl, hr2, hbn⟩; obtain ⟨A2, c2, rfl, hc2, hC2⟩ := Kd.R_reads hr2; have HC2 := Aside0.mk hC2; have HC2c := Aside0.mk hc2; clear hr2 hC2 hc2; replace HC1 := Aside0.mk (Kd.C_below HC1.out hbn); replace ST := Aside0.mk (ST.out.below hbn); clear hbn; replace q8 := ST.out.c8; replace q9 := ST.out.c9) | (go_at_call 55; (with_reducible refine (provostkeep_Ints.calls K A1 c1 L A2 c2 L true _ HC1.out HC1c.out HC2.out HC2c.out HIn.out).mono ?_); rintro e wn ⟨rfl, hdn⟩; replace ST := Aside0.mk (ST.out.drawn hdn); clear hdn; replace q8 := ST.out.c8; replace q9 := ST.out.c9) | (go_at_call 57; (with_reducible refine (bits_Set_uint64_Text.calls a t _ HXa.out ⟨ST.out.tab⟩).mono ?_); rintro e wn ⟨rfl, hbn⟩; replace ST := Aside0.mk (ST.out.below hbn); clear hbn; replace q8 := ST.out.c8; replace q9 := ST.out.c9) | (go_at_call 18; (with_reducible refine (provostref01_Text.calls K a t _ HXr.out).mono ?_); rintro e wn ⟨rfl, hbn⟩; replace ST := Aside0.mk (ST.out.below hbn); clear hbn; replace q8 := ST.out.c8; replace q9 := ST.out.c9))
  go_ret
  exact ⟨rfl, ST.out.bel⟩
set_option maxRecDepth 100000 in
set_option maxHeartbeats 8000000 in
theorem provostlaw01_one64.no (a : Nat) (i k : Int) (K : Nat) (l lo hi nx_ rk nt : Int) (L : List Int) (t : ByteArray) (tw : Int) (HWi : Aside0 (bits_Set_uint64_With.f (a : Int) i = some (tw, 0))) (HWo : Aside0 (bits_Set_uint64_Without.f (a : Int) i = some (a : Int))) (HHa : Aside0 (bits_Set_uint64_Has.f (a : Int) i = some false)) (HHr : Aside0 (provostref01_Has.f (a : Int) 64 i = some false)) (HLena : Aside0 (bits_Set_uint64_Len.f (a : Int) = some l)) (HLenr : Aside0 (provostref01_Len.f K (a : Int) = some l)) (HLowa : Aside0 (bits_Set_uint64_Low.f K (a : Int) = some lo)) (HLowr : Aside0 (provostref01_Low.f K (a : Int) = some lo)) (HHigha : Aside0 (bits_Set_uint64_High.f (a : Int) = some hi)) (HHighr : Aside0 (provostref01_High.f K (a : Int) = some hi)) (HNexta : Aside0 (bits_Set_uint64_Next.f K (a : Int) i = some nx_)) (HNextr : Aside0 (provostref01_Next.f K (a : Int) i = some nx_)) (HRanka : Aside0 (bits_Set_uint64_Rank.f (a : Int) i = some rk)) (HRankr : Aside0 (provostref01_Rank.f K (a : Int) i = some rk)) (HNtha : Aside0 (bits_Set_uint64_Nth.f (a : Int) k = some nt)) (HNthr : Aside0 (provostref01_Nth.f K (a : Int) k = some nt)) (HPa : Aside0 (bits_Set_uint64_Places.f (a : Int) = some L)) (HPr : Aside0 (provostref01_Places.f K (a : Int) 64 = some L)) (HIn : Aside0 (provostkeep_Ints.f K L L = some true)) (HXa : Aside0 (bits_Set_uint64_Text.f (a : Int) = some t)) (HXr : Aside0 (provostref01_Text.f K (a : Int) = some t)) (HDa : Aside0 (bits_Set_uint64_Width.f (a : Int) = some 64)) (o1 : Int) (HO1 : Aside0 (provostref01_One.f i = some o1)) (hor : Go.bits .or .u64 (a : Int) o1 = tw) (hi0 : 0 ≤ i) (hi1 : i < 64)  (w : World) (hT : TabW w) :
    Calls Tryz.prog 25 #[.int .u64 a, .int .i64 i, .int .i64 k] w fun e W' => e = .returned (.bool true) ∧ Below w.heap.size w W' := by
  have HOA := Aside0.mk (show bits_Set_uint64_Of.f 0 (a : Int) = some (a : Int) from rfl)
  have HTW := Aside0.mk hT
  clear hT
  go_enter Tryz.func25, Tryz.ntmps25
  have d0 : decide (0 ≤ i) = true := decide_eq_true hi0; have d0' : decide (i ≥ 0) = true := d0; have d1 : decide (i < 64) = true := decide_eq_true hi1; clear hi0 hi1
  go_wp2_with (first | (go_at_call 39; (with_reducible refine (bits_Set_uint64_Of.calls 0 a a _ HOA.out).mono ?_); rintro e w1 ⟨rfl, hb1⟩; have yB : Below w.heap.size w (w.alloc (.cells #[.int .u64 0] 56)) := (Below.refl _ w).alloc (Nat.le_refl _) _; have HB1 := Aside0.mk (yB.trans (hb1.mono yB.size)); have HT1 := Aside0.mk (tab_below HTW.out (yB.trans (hb1.mono yB.size))); clear yB hb1) | (go_at_call 40; (with_reducible refine (bits_Set_uint64_With.calls a i tw 0 _ HWi.out).mono ?_); rintro e w2 ⟨rfl, hb2⟩; have y4 := Boxed.new w1 56 (.int .u64 a); have yB := HB1.out.alloc HB1.out.size (.cells #[.int .u64 a] 56); have yT := tab_below HT1.out ((Below.refl _ w1).alloc (Nat.le_refl _) (.cells #[.int .u64 a] 56)); have ST := Aside0.mk (show One64Sit w w1.heap.size w2.heap.size a tw (w2.alloc (.cells #[.int .u64 tw] 56)) from ⟨Boxed.alloc (show Boxed w2 w1.heap.size 56 (.int .u64 a) from (hb2.block _ y4.lt).trans y4) _, Boxed.new _ _ _, tab_below (tab_below yT hb2) ((Below.refl _ w2).alloc (Nat.le_refl _) _), (yB.trans (hb2.mono yB.size)).alloc (yB.trans (hb2.mono yB.size)).size _⟩); have q8 := ST.out.c8; have q9 := ST.out.c9; clear y4 yB yT hb2 HB1 HT1 HTW) | (go_at_call 41; (with_reducible refine (bits_Set_uint64_Word.calls a a _ rfl).mono ?_); rintro e wn ⟨rfl, hbn⟩; replace ST := Aside0.mk (ST.out.below hbn); clear hbn; replace q8 := ST.out.c8; replace q9 := ST.out.c9) | (go_at_call 41; (with_reducible refine (bits_Set_uint64_Word.calls tw tw _ rfl).mono ?_); rintro e wn ⟨rfl, hbn⟩; replace ST := Aside0.mk (ST.out.below hbn); clear hbn; replace q8 := ST.out.c8; replace q9 := ST.out.c9) | (go_at_call 38; (with_reducible refine (provostref01_One.calls i o1 _ HO1.out).mono ?_); rintro e wn ⟨rfl, hdn⟩; replace ST := Aside0.mk (ST.out.drawn hdn); clear hdn; replace q8 := ST.out.c8; replace q9 := ST.out.c9) | (go_at_call 42; (with_reducible refine (bits_Set_uint64_Without.calls a i a _ HWo.out).mono ?_); rintro e wn ⟨rfl, hbn⟩; replace ST := Aside0.mk (ST.out.below hbn); clear hbn; replace q8 := ST.out.c8; replace q9 := ST.out.c9) | (go_at_call 15; (with_reducible refine (provostref01_Has.calls a 64 i false _ HHr.out).mono ?_); rintro e wn ⟨rfl, hdn⟩; replace ST := Aside0.mk (ST.out.drawn hdn); clear hdn; replace q8 := ST.out.c8; replace q9 := ST.out.c9) | (go_at_call 44; (with_reducible refine (bits_Set_uint64_Has.calls a i false _ HHa.out).mono ?_); rintro e wn ⟨rfl, hbn⟩; replace ST := Aside0.mk (ST.out.below hbn); clear hbn; replace q8 := ST.out.c8; replace q9 := ST.out.c9) | (go_at_call 43; (with_reducible refine (bits_Set_uint64_Width.calls a 64 _ HDa.out).mono ?_); rintro e wn ⟨rfl, hbn⟩; replace ST := Aside0.mk (ST.out.below hbn); clear hbn; replace q8 := ST.out.c8; replace q9 := ST.out.c9) | (go_at_call 45; (with_reducible refine (bits_Set_uint64_Len.calls a l _ HLena.out).mono ?_); rintro e wn ⟨rfl, hbn⟩; replace ST := Aside0.mk (ST.out.below hbn); clear hbn; replace q8 := ST.out.c8; replace q9 := ST.out.c9) | (go_at_call 9; (with_reducible refine (provostref01_Len.calls K a l _ HLenr.out).mono ?_); rintro e wn ⟨rfl, hbn⟩; replace ST := Aside0.mk (ST.out.below hbn); clear hbn; replace q8 := ST.out.c8; replace q9 := ST.out.c9) | (go_at_call 46; (with_reducible refine (bits_Set_uint64_Low.calls K a lo _ HLowa.out ⟨ST.out.tab⟩).mono ?_); rintro e wn ⟨rfl, hbn⟩; replace ST := Aside0.mk (ST.out.below hbn); clear hbn; replace q8 := ST.out.c8; replace q9 := ST.out.c9) | (go_at_call 47; (with_reducible refine (provostref01_Low.calls K a lo _ HLowr.out).mono ?_); rintro e wn ⟨rfl, hbn⟩; replace ST := Aside0.mk (ST.out.below hbn); clear hbn; replace q8 := ST.out.c8; replace q9 := ST.out.c9) | (go_at_call 48; (with_reducible refine (bits_Set_uint64_High.calls a hi _ HHigha.out).mono ?_); rintro e wn ⟨rfl, hbn⟩; replace ST := Aside0.mk (ST.out.below hbn); clear hbn; replace q8 := ST.out.c8; replace q9 := ST.out.c9) | (go_at_call 12; (with_reducible refine (provostref01_High.calls K a hi _ HHighr.out).mono ?_); rintro e wn ⟨rfl, hbn⟩; replace ST := Aside0.mk (ST.out.below hbn); clear hbn; replace q8 := ST.out.c8; replace q9 := ST.out.c9) | (go_at_call 49; (with_reducible refine (bits_Set_uint64_Next.calls K a i nx_ _ HNexta.out ⟨ST.out.tab⟩).mono ?_); rintro e wn ⟨rfl, hbn⟩; replace ST := Aside0.mk (ST.out.below hbn); clear hbn; replace q8 := ST.out.c8; replace q9 := ST.out.c9) | (go_at_call 50; (with_reducible refine (provostref01_Next.calls K a i nx_ _ HNextr.out).mono ?_); rintro e wn ⟨rfl, hbn⟩; replace ST := Aside0.mk (ST.out.below hbn); clear hbn; replace q8 := ST.out.c8; replace q9 := ST.out.c9) | (go_at_call 51; (with_reducible refine (bits_Set_uint64_Rank.calls a i rk _ HRanka.out).mono ?_); rintro e wn ⟨rfl, hbn⟩; replace ST := Aside0.mk (ST.out.below hbn); clear hbn; replace q8 := ST.out.c8; replace q9 := ST.out.c9) | (go_at_call 52; (with_reducible refine (provostref01_Rank.calls K a i rk _ HRankr.out).mono ?_); rintro e wn ⟨rfl, hbn⟩; replace ST := Aside0.mk (ST.out.below hbn); clear hbn; replace q8 := ST.out.c8; replace q9 := ST.out.c9) | (go_at_call 53; (with_reducible refine (bits_Set_uint64_Nth.calls a k nt _ HNtha.out ⟨ST.out.tab⟩).mono ?_); rintro e wn ⟨rfl, hbn⟩; replace ST := Aside0.mk (ST.out.below hbn); clear hbn; replace q8 := ST.out.c8; replace q9 := ST.out.c9) | (go_at_call 54; (with_reducible refine (provostref01_Nth.calls K a k nt _ HNthr.out).mono ?_); rintro e wn ⟨rfl, hbn⟩; replace ST := Aside0.mk (ST.out.below hbn); clear hbn; replace q8 := ST.out.c8; replace q9 := ST.out.c9) | (go_at_call 56; (with_reducible refine (bits_Set_uint64_Places.calls a L _ HPa.out ⟨ST.out.tab⟩).mono ?_); rintro e wn ⟨v1, rfl, hr1, hbn⟩; obtain ⟨A1, c1, rfl, hc1, hC1⟩ := Kd.R_reads hr1; have HC1 := Aside0.mk hC1; have HC1c := Aside0.mk hc1; clear hr1 hC1 hc1; replace ST := Aside0.mk (ST.out.below hbn); clear hbn; replace q8 := ST.out.c8; replace q9 := ST.out.c9) | (go_at_call 29; (with_reducible refine (provostref01_Places.calls K a 64 L _ HPr.out).mono ?_); rintro e wn ⟨v2, rfl, hr2, hbn⟩; obtain ⟨A2, c2, rfl, hc2, hC2⟩ := Kd.R_reads hr2; have HC2 := Aside0.mk hC2; have HC2c := Aside0.mk hc2; clear hr2 hC2 hc2; replace HC1 := Aside0.mk (Kd.C_below HC1.out hbn); replace ST := Aside0.mk (ST.out.below hbn); clear hbn; replace q8 := ST.out.c8; replace q9 := ST.out.c9) | (go_at_call 55; (with_reducible refine (provostkeep_Ints.calls K A1 c1 L A2 c2 L true _ HC1.out HC1c.out HC2.out HC2c.out HIn.out).mono ?_); rintro e wn ⟨rfl, hdn⟩; replace ST := Aside0.mk (ST.out.drawn hdn); clear hdn; replace q8 := ST.out.c8; replace q9 := ST.out.c9) | (go_at_call 57; (with_reducible refine (bits_Set_uint64_Text.calls a t _ HXa.out ⟨ST.out.tab⟩).mono ?_); rintro e wn ⟨rfl, hbn⟩; replace ST := Aside0.mk (ST.out.below hbn); clear hbn; replace q8 := ST.out.c8; replace q9 := ST.out.c9) | (go_at_call 18; (with_reducible refine (provostref01_Text.calls K a t _ HXr.out).mono ?_); rintro e wn ⟨rfl, hbn⟩; replace ST := Aside0.mk (ST.out.below hbn); clear hbn; replace q8 := ST.out.c8; replace q9 := ST.out.c9))
  go_ret
  exact ⟨rfl, ST.out.bel⟩
set_option maxRecDepth 100000 in
set_option maxHeartbeats 8000000 in
theorem provostlaw01_one64.out (a : Nat) (i k : Int) (K : Nat) (l lo hi nx_ rk nt : Int) (L : List Int) (t : ByteArray) (HWi : Aside0 (bits_Set_uint64_With.f (a : Int) i = some (0, 1))) (HWo : Aside0 (bits_Set_uint64_Without.f (a : Int) i = some (a : Int))) (HHa : Aside0 (bits_Set_uint64_Has.f (a : Int) i = some false)) (HHr : Aside0 (provostref01_Has.f (a : Int) 64 i = some false)) (HLena : Aside0 (bits_Set_uint64_Len.f (a : Int) = some l)) (HLenr : Aside0 (provostref01_Len.f K (a : Int) = some l)) (HLowa : Aside0 (bits_Set_uint64_Low.f K (a : Int) = some lo)) (HLowr : Aside0 (provostref01_Low.f K (a : Int) = some lo)) (HHigha : Aside0 (bits_Set_uint64_High.f (a : Int) = some hi)) (HHighr : Aside0 (provostref01_High.f K (a : Int) = some hi)) (HNexta : Aside0 (bits_Set_uint64_Next.f K (a : Int) i = some nx_)) (HNextr : Aside0 (provostref01_Next.f K (a : Int) i = some nx_)) (HRanka : Aside0 (bits_Set_uint64_Rank.f (a : Int) i = some rk)) (HRankr : Aside0 (provostref01_Rank.f K (a : Int) i = some rk)) (HNtha : Aside0 (bits_Set_uint64_Nth.f (a : Int) k = some nt)) (HNthr : Aside0 (provostref01_Nth.f K (a : Int) k = some nt)) (HPa : Aside0 (bits_Set_uint64_Places.f (a : Int) = some L)) (HPr : Aside0 (provostref01_Places.f K (a : Int) 64 = some L)) (HIn : Aside0 (provostkeep_Ints.f K L L = some true)) (HXa : Aside0 (bits_Set_uint64_Text.f (a : Int) = some t)) (HXr : Aside0 (provostref01_Text.f K (a : Int) = some t)) (HDa : Aside0 (bits_Set_uint64_Width.f (a : Int) = some 64)) (hout : ¬ (0 ≤ i ∧ i < 64))  (w : World) (hT : TabW w) :
    Calls Tryz.prog 25 #[.int .u64 a, .int .i64 i, .int .i64 k] w fun e W' => e = .returned (.bool true) ∧ Below w.heap.size w W' := by
  have HOA := Aside0.mk (show bits_Set_uint64_Of.f 0 (a : Int) = some (a : Int) from rfl)
  have HTW := Aside0.mk hT
  clear hT
  go_enter Tryz.func25, Tryz.ntmps25
  by_cases h0 : 0 ≤ i
  · have d0 : decide (0 ≤ i) = true := decide_eq_true h0; have d0' : decide (i ≥ 0) = true := d0; have d1 : decide (i < 64) = false := decide_eq_false (fun h => hout ⟨h0, h⟩); clear h0 hout
    go_wp2_with (first | (go_at_call 39; (with_reducible refine (bits_Set_uint64_Of.calls 0 a a _ HOA.out).mono ?_); rintro e w1 ⟨rfl, hb1⟩; have yB : Below w.heap.size w (w.alloc (.cells #[.int .u64 0] 56)) := (Below.refl _ w).alloc (Nat.le_refl _) _; have HB1 := Aside0.mk (yB.trans (hb1.mono yB.size)); have HT1 := Aside0.mk (tab_below HTW.out (yB.trans (hb1.mono yB.size))); clear yB hb1) | (go_at_call 40; (with_reducible refine (bits_Set_uint64_With.calls a i 0 1 _ HWi.out).mono ?_); rintro e w2 ⟨rfl, hb2⟩; have y4 := Boxed.new w1 56 (.int .u64 a); have yB := HB1.out.alloc HB1.out.size (.cells #[.int .u64 a] 56); have yT := tab_below HT1.out ((Below.refl _ w1).alloc (Nat.le_refl _) (.cells #[.int .u64 a] 56)); have ST := Aside0.mk (show One64Sit w w1.heap.size w2.heap.size a 0 (w2.alloc (.cells #[.int .u64 0] 56)) from ⟨Boxed.alloc (show Boxed w2 w1.heap.size 56 (.int .u64 a) from (hb2.block _ y4.lt).trans y4) _, Boxed.new _ _ _, tab_below (tab_below yT hb2) ((Below.refl _ w2).alloc (Nat.le_refl _) _), (yB.trans (hb2.mono yB.size)).alloc (yB.trans (hb2.mono yB.size)).size _⟩); have q8 := ST.out.c8; have q9 := ST.out.c9; clear y4 yB yT hb2 HB1 HT1 HTW) | (go_at_call 41; (with_reducible refine (bits_Set_uint64_Word.calls a a _ rfl).mono ?_); rintro e wn ⟨rfl, hbn⟩; replace ST := Aside0.mk (ST.out.below hbn); clear hbn; replace q8 := ST.out.c8; replace q9 := ST.out.c9) | (go_at_call 41; (with_reducible refine (bits_Set_uint64_Word.calls 0 0 _ rfl).mono ?_); rintro e wn ⟨rfl, hbn⟩; replace ST := Aside0.mk (ST.out.below hbn); clear hbn; replace q8 := ST.out.c8; replace q9 := ST.out.c9) | (go_at_call 42; (with_reducible refine (bits_Set_uint64_Without.calls a i a _ HWo.out).mono ?_); rintro e wn ⟨rfl, hbn⟩; replace ST := Aside0.mk (ST.out.below hbn); clear hbn; replace q8 := ST.out.c8; replace q9 := ST.out.c9) | (go_at_call 15; (with_reducible refine (provostref01_Has.calls a 64 i false _ HHr.out).mono ?_); rintro e wn ⟨rfl, hdn⟩; replace ST := Aside0.mk (ST.out.drawn hdn); clear hdn; replace q8 := ST.out.c8; replace q9 := ST.out.c9) | (go_at_call 44; (with_reducible refine (bits_Set_uint64_Has.calls a i false _ HHa.out).mono ?_); rintro e wn ⟨rfl, hbn⟩; replace ST := Aside0.mk (ST.out.below hbn); clear hbn; replace q8 := ST.out.c8; replace q9 := ST.out.c9) | (go_at_call 43; (with_reducible refine (bits_Set_uint64_Width.calls a 64 _ HDa.out).mono ?_); rintro e wn ⟨rfl, hbn⟩; replace ST := Aside0.mk (ST.out.below hbn); clear hbn; replace q8 := ST.out.c8; replace q9 := ST.out.c9) | (go_at_call 45; (with_reducible refine (bits_Set_uint64_Len.calls a l _ HLena.out).mono ?_); rintro e wn ⟨rfl, hbn⟩; replace ST := Aside0.mk (ST.out.below hbn); clear hbn; replace q8 := ST.out.c8; replace q9 := ST.out.c9) | (go_at_call 9; (with_reducible refine (provostref01_Len.calls K a l _ HLenr.out).mono ?_); rintro e wn ⟨rfl, hbn⟩; replace ST := Aside0.mk (ST.out.below hbn); clear hbn; replace q8 := ST.out.c8; replace q9 := ST.out.c9) | (go_at_call 46; (with_reducible refine (bits_Set_uint64_Low.calls K a lo _ HLowa.out ⟨ST.out.tab⟩).mono ?_); rintro e wn ⟨rfl, hbn⟩; replace ST := Aside0.mk (ST.out.below hbn); clear hbn; replace q8 := ST.out.c8; replace q9 := ST.out.c9) | (go_at_call 47; (with_reducible refine (provostref01_Low.calls K a lo _ HLowr.out).mono ?_); rintro e wn ⟨rfl, hbn⟩; replace ST := Aside0.mk (ST.out.below hbn); clear hbn; replace q8 := ST.out.c8; replace q9 := ST.out.c9) | (go_at_call 48; (with_reducible refine (bits_Set_uint64_High.calls a hi _ HHigha.out).mono ?_); rintro e wn ⟨rfl, hbn⟩; replace ST := Aside0.mk (ST.out.below hbn); clear hbn; replace q8 := ST.out.c8; replace q9 := ST.out.c9) | (go_at_call 12; (with_reducible refine (provostref01_High.calls K a hi _ HHighr.out).mono ?_); rintro e wn ⟨rfl, hbn⟩; replace ST := Aside0.mk (ST.out.below hbn); clear hbn; replace q8 := ST.out.c8; replace q9 := ST.out.c9) | (go_at_call 49; (with_reducible refine (bits_Set_uint64_Next.calls K a i nx_ _ HNexta.out ⟨ST.out.tab⟩).mono ?_); rintro e wn ⟨rfl, hbn⟩; replace ST := Aside0.mk (ST.out.below hbn); clear hbn; replace q8 := ST.out.c8; replace q9 := ST.out.c9) | (go_at_call 50; (with_reducible refine (provostref01_Next.calls K a i nx_ _ HNextr.out).mono ?_); rintro e wn ⟨rfl, hbn⟩; replace ST := Aside0.mk (ST.out.below hbn); clear hbn; replace q8 := ST.out.c8; replace q9 := ST.out.c9) | (go_at_call 51; (with_reducible refine (bits_Set_uint64_Rank.calls a i rk _ HRanka.out).mono ?_); rintro e wn ⟨rfl, hbn⟩; replace ST := Aside0.mk (ST.out.below hbn); clear hbn; replace q8 := ST.out.c8; replace q9 := ST.out.c9) | (go_at_call 52; (with_reducible refine (provostref01_Rank.calls K a i rk _ HRankr.out).mono ?_); rintro e wn ⟨rfl, hbn⟩; replace ST := Aside0.mk (ST.out.below hbn); clear hbn; replace q8 := ST.out.c8; replace q9 := ST.out.c9) | (go_at_call 53; (with_reducible refine (bits_Set_uint64_Nth.calls a k nt _ HNtha.out ⟨ST.out.tab⟩).mono ?_); rintro e wn ⟨rfl, hbn⟩; replace ST := Aside0.mk (ST.out.below hbn); clear hbn; replace q8 := ST.out.c8; replace q9 := ST.out.c9) | (go_at_call 54; (with_reducible refine (provostref01_Nth.calls K a k nt _ HNthr.out).mono ?_); rintro e wn ⟨rfl, hbn⟩; replace ST := Aside0.mk (ST.out.below hbn); clear hbn; replace q8 := ST.out.c8; replace q9 := ST.out.c9) | (go_at_call 56; (with_reducible refine (bits_Set_uint64_Places.calls a L _ HPa.out ⟨ST.out.tab⟩).mono ?_); rintro e wn ⟨v1, rfl, hr1, hbn⟩; obtain ⟨A1, c1, rfl, hc1, hC1⟩ := Kd.R_reads hr1; have HC1 := Aside0.mk hC1; have HC1c := Aside0.mk hc1; clear hr1 hC1 hc1; replace ST := Aside0.mk (ST.out.below hbn); clear hbn; replace q8 := ST.out.c8; replace q9 := ST.out.c9) | (go_at_call 29; (with_reducible refine (provostref01_Places.calls K a 64 L _ HPr.out).mono ?_); rintro e wn ⟨v2, rfl, hr2, hbn⟩; obtain ⟨A2, c2, rfl, hc2, hC2⟩ := Kd.R_reads hr2; have HC2 := Aside0.mk hC2; have HC2c := Aside0.mk hc2; clear hr2 hC2 hc2; replace HC1 := Aside0.mk (Kd.C_below HC1.out hbn); replace ST := Aside0.mk (ST.out.below hbn); clear hbn; replace q8 := ST.out.c8; replace q9 := ST.out.c9) | (go_at_call 55; (with_reducible refine (provostkeep_Ints.calls K A1 c1 L A2 c2 L true _ HC1.out HC1c.out HC2.out HC2c.out HIn.out).mono ?_); rintro e wn ⟨rfl, hdn⟩; replace ST := Aside0.mk (ST.out.drawn hdn); clear hdn; replace q8 := ST.out.c8; replace q9 := ST.out.c9) | (go_at_call 57; (with_reducible refine (bits_Set_uint64_Text.calls a t _ HXa.out ⟨ST.out.tab⟩).mono ?_); rintro e wn ⟨rfl, hbn⟩; replace ST := Aside0.mk (ST.out.below hbn); clear hbn; replace q8 := ST.out.c8; replace q9 := ST.out.c9) | (go_at_call 18; (with_reducible refine (provostref01_Text.calls K a t _ HXr.out).mono ?_); rintro e wn ⟨rfl, hbn⟩; replace ST := Aside0.mk (ST.out.below hbn); clear hbn; replace q8 := ST.out.c8; replace q9 := ST.out.c9))
    go_ret
    exact ⟨rfl, ST.out.bel⟩
  · have d0 : decide (0 ≤ i) = false := decide_eq_false h0; have d0' : decide (i ≥ 0) = false := d0; clear h0 hout
    go_wp2_with (first | (go_at_call 39; (with_reducible refine (bits_Set_uint64_Of.calls 0 a a _ HOA.out).mono ?_); rintro e w1 ⟨rfl, hb1⟩; have yB : Below w.heap.size w (w.alloc (.cells #[.int .u64 0] 56)) := (Below.refl _ w).alloc (Nat.le_refl _) _; have HB1 := Aside0.mk (yB.trans (hb1.mono yB.size)); have HT1 := Aside0.mk (tab_below HTW.out (yB.trans (hb1.mono yB.size))); clear yB hb1) | (go_at_call 40; (with_reducible refine (bits_Set_uint64_With.calls a i 0 1 _ HWi.out).mono ?_); rintro e w2 ⟨rfl, hb2⟩; have y4 := Boxed.new w1 56 (.int .u64 a); have yB := HB1.out.alloc HB1.out.size (.cells #[.int .u64 a] 56); have yT := tab_below HT1.out ((Below.refl _ w1).alloc (Nat.le_refl _) (.cells #[.int .u64 a] 56)); have ST := Aside0.mk (show One64Sit w w1.heap.size w2.heap.size a 0 (w2.alloc (.cells #[.int .u64 0] 56)) from ⟨Boxed.alloc (show Boxed w2 w1.heap.size 56 (.int .u64 a) from (hb2.block _ y4.lt).trans y4) _, Boxed.new _ _ _, tab_below (tab_below yT hb2) ((Below.refl _ w2).alloc (Nat.le_refl _) _), (yB.trans (hb2.mono yB.size)).alloc (yB.trans (hb2.mono yB.size)).size _⟩); have q8 := ST.out.c8; have q9 := ST.out.c9; clear y4 yB yT hb2 HB1 HT1 HTW) | (go_at_call 41; (with_reducible refine (bits_Set_uint64_Word.calls a a _ rfl).mono ?_); rintro e wn ⟨rfl, hbn⟩; replace ST := Aside0.mk (ST.out.below hbn); clear hbn; replace q8 := ST.out.c8; replace q9 := ST.out.c9) | (go_at_call 41; (with_reducible refine (bits_Set_uint64_Word.calls 0 0 _ rfl).mono ?_); rintro e wn ⟨rfl, hbn⟩; replace ST := Aside0.mk (ST.out.below hbn); clear hbn; replace q8 := ST.out.c8; replace q9 := ST.out.c9) | (go_at_call 42; (with_reducible refine (bits_Set_uint64_Without.calls a i a _ HWo.out).mono ?_); rintro e wn ⟨rfl, hbn⟩; replace ST := Aside0.mk (ST.out.below hbn); clear hbn; replace q8 := ST.out.c8; replace q9 := ST.out.c9) | (go_at_call 15; (with_reducible refine (provostref01_Has.calls a 64 i false _ HHr.out).mono ?_); rintro e wn ⟨rfl, hdn⟩; replace ST := Aside0.mk (ST.out.drawn hdn); clear hdn; replace q8 := ST.out.c8; replace q9 := ST.out.c9) | (go_at_call 44; (with_reducible refine (bits_Set_uint64_Has.calls a i false _ HHa.out).mono ?_); rintro e wn ⟨rfl, hbn⟩; replace ST := Aside0.mk (ST.out.below hbn); clear hbn; replace q8 := ST.out.c8; replace q9 := ST.out.c9) | (go_at_call 43; (with_reducible refine (bits_Set_uint64_Width.calls a 64 _ HDa.out).mono ?_); rintro e wn ⟨rfl, hbn⟩; replace ST := Aside0.mk (ST.out.below hbn); clear hbn; replace q8 := ST.out.c8; replace q9 := ST.out.c9) | (go_at_call 45; (with_reducible refine (bits_Set_uint64_Len.calls a l _ HLena.out).mono ?_); rintro e wn ⟨rfl, hbn⟩; replace ST := Aside0.mk (ST.out.below hbn); clear hbn; replace q8 := ST.out.c8; replace q9 := ST.out.c9) | (go_at_call 9; (with_reducible refine (provostref01_Len.calls K a l _ HLenr.out).mono ?_); rintro e wn ⟨rfl, hbn⟩; replace ST := Aside0.mk (ST.out.below hbn); clear hbn; replace q8 := ST.out.c8; replace q9 := ST.out.c9) | (go_at_call 46; (with_reducible refine (bits_Set_uint64_Low.calls K a lo _ HLowa.out ⟨ST.out.tab⟩).mono ?_); rintro e wn ⟨rfl, hbn⟩; replace ST := Aside0.mk (ST.out.below hbn); clear hbn; replace q8 := ST.out.c8; replace q9 := ST.out.c9) | (go_at_call 47; (with_reducible refine (provostref01_Low.calls K a lo _ HLowr.out).mono ?_); rintro e wn ⟨rfl, hbn⟩; replace ST := Aside0.mk (ST.out.below hbn); clear hbn; replace q8 := ST.out.c8; replace q9 := ST.out.c9) | (go_at_call 48; (with_reducible refine (bits_Set_uint64_High.calls a hi _ HHigha.out).mono ?_); rintro e wn ⟨rfl, hbn⟩; replace ST := Aside0.mk (ST.out.below hbn); clear hbn; replace q8 := ST.out.c8; replace q9 := ST.out.c9) | (go_at_call 12; (with_reducible refine (provostref01_High.calls K a hi _ HHighr.out).mono ?_); rintro e wn ⟨rfl, hbn⟩; replace ST := Aside0.mk (ST.out.below hbn); clear hbn; replace q8 := ST.out.c8; replace q9 := ST.out.c9) | (go_at_call 49; (with_reducible refine (bits_Set_uint64_Next.calls K a i nx_ _ HNexta.out ⟨ST.out.tab⟩).mono ?_); rintro e wn ⟨rfl, hbn⟩; replace ST := Aside0.mk (ST.out.below hbn); clear hbn; replace q8 := ST.out.c8; replace q9 := ST.out.c9) | (go_at_call 50; (with_reducible refine (provostref01_Next.calls K a i nx_ _ HNextr.out).mono ?_); rintro e wn ⟨rfl, hbn⟩; replace ST := Aside0.mk (ST.out.below hbn); clear hbn; replace q8 := ST.out.c8; replace q9 := ST.out.c9) | (go_at_call 51; (with_reducible refine (bits_Set_uint64_Rank.calls a i rk _ HRanka.out).mono ?_); rintro e wn ⟨rfl, hbn⟩; replace ST := Aside0.mk (ST.out.below hbn); clear hbn; replace q8 := ST.out.c8; replace q9 := ST.out.c9) | (go_at_call 52; (with_reducible refine (provostref01_Rank.calls K a i rk _ HRankr.out).mono ?_); rintro e wn ⟨rfl, hbn⟩; replace ST := Aside0.mk (ST.out.below hbn); clear hbn; replace q8 := ST.out.c8; replace q9 := ST.out.c9) | (go_at_call 53; (with_reducible refine (bits_Set_uint64_Nth.calls a k nt _ HNtha.out ⟨ST.out.tab⟩).mono ?_); rintro e wn ⟨rfl, hbn⟩; replace ST := Aside0.mk (ST.out.below hbn); clear hbn; replace q8 := ST.out.c8; replace q9 := ST.out.c9) | (go_at_call 54; (with_reducible refine (provostref01_Nth.calls K a k nt _ HNthr.out).mono ?_); rintro e wn ⟨rfl, hbn⟩; replace ST := Aside0.mk (ST.out.below hbn); clear hbn; replace q8 := ST.out.c8; replace q9 := ST.out.c9) | (go_at_call 56; (with_reducible refine (bits_Set_uint64_Places.calls a L _ HPa.out ⟨ST.out.tab⟩).mono ?_); rintro e wn ⟨v1, rfl, hr1, hbn⟩; obtain ⟨A1, c1, rfl, hc1, hC1⟩ := Kd.R_reads hr1; have HC1 := Aside0.mk hC1; have HC1c := Aside0.mk hc1; clear hr1 hC1 hc1; replace ST := Aside0.mk (ST.out.below hbn); clear hbn; replace q8 := ST.out.c8; replace q9 := ST.out.c9) | (go_at_call 29; (with_reducible refine (provostref01_Places.calls K a 64 L _ HPr.out).mono ?_); rintro e wn ⟨v2, rfl, hr2, hbn⟩; obtain ⟨A2, c2, rfl, hc2, hC2⟩ := Kd.R_reads hr2; have HC2 := Aside0.mk hC2; have HC2c := Aside0.mk hc2; clear hr2 hC2 hc2; replace HC1 := Aside0.mk (Kd.C_below HC1.out hbn); replace ST := Aside0.mk (ST.out.below hbn); clear hbn; replace q8 := ST.out.c8; replace q9 := ST.out.c9) | (go_at_call 55; (with_reducible refine (provostkeep_Ints.calls K A1 c1 L A2 c2 L true _ HC1.out HC1c.out HC2.out HC2c.out HIn.out).mono ?_); rintro e wn ⟨rfl, hdn⟩; replace ST := Aside0.mk (ST.out.drawn hdn); clear hdn; replace q8 := ST.out.c8; replace q9 := ST.out.c9) | (go_at_call 57; (with_reducible refine (bits_Set_uint64_Text.calls a t _ HXa.out ⟨ST.out.tab⟩).mono ?_); rintro e wn ⟨rfl, hbn⟩; replace ST := Aside0.mk (ST.out.below hbn); clear hbn; replace q8 := ST.out.c8; replace q9 := ST.out.c9) | (go_at_call 18; (with_reducible refine (provostref01_Text.calls K a t _ HXr.out).mono ?_); rintro e wn ⟨rfl, hbn⟩; replace ST := Aside0.mk (ST.out.below hbn); clear hbn; replace q8 := ST.out.c8; replace q9 := ST.out.c9))
    go_ret
    exact ⟨rfl, ST.out.bel⟩
end


/-! ### bits_Set_uint8_Of: function 58 -/
def bits_Set_uint8_Of.f (a0_0 : Int) (a1 : Int) : Option (Int) := some a1
set_option maxHeartbeats 8000000 in
set_option maxRecDepth 100000 in
theorem bits_Set_uint8_Of.calls (a0_0 : Int) (a1 : Int) (r : Int) (w : World) (h : bits_Set_uint8_Of.f a0_0 a1 = some r) :
    Calls Tryz.prog 58 #[.agg #[.int .u8 a0_0], .int .u8 a1] w fun e w' => e = .returned (.agg #[.int .u8 r]) ∧ Below w.heap.size w w' := by
  have hu68 := Tryz.underlying68
  have HB := Aside0.mk (Below.refl w.heap.size w)
  have H : (some a1) = some r := h
  clear h
  obtain rfl := Option.some.inj H
  go_enter Tryz.func58, Tryz.ntmps58
  go_wp2_with (first | ((with_reducible refine gate_dst (N := 2) rfl ?_); refine box_event ?hg (N := 2) ?hd (cs := #[.int .u8 a0_0]) (t := 68) ?hr ?_; (case hd => rfl); (case hg => rfl); (case hr => first | (go_simp; done) | (go_simp; rfl)); intro gb211 hg w3 hbox hb; have n0_ := Aside0.mk (below_step (by repeat (first | (with_reducible first | exact HB.out | apply below_alloc | apply pw_below_drewN | apply below_drew1) | exact HB.out)) hb); have n1_ := Aside0.mk (hbox); have n2_ := Aside0.mk ((by rw [hg]; exact (below_size (by repeat (first | (with_reducible first | exact HB.out | apply below_alloc | apply pw_below_drewN | apply below_drew1) | exact HB.out))) : w.heap.size ≤ gb211)); have n3_ := Aside0.mk ((by rw [hg]; exact (below_size (by repeat (first | (with_reducible first | exact HB.out | apply below_alloc | apply pw_below_drewN | apply below_drew1) | exact HB.out))) : w.heap.size ≤ gb211)); clear HB; have HB := n0_; have BK211 := n1_; have GW211 := n2_; have GE211 := n3_; clear n0_ n1_ n2_ n3_; clear hb hbox hg) | ((with_reducible refine gate_dst (N := 4) rfl ?_); refine box_event ?hg (N := 4) ?hd (cs := #[.int .u8 0]) (t := 68) ?hr ?_; (case hd => rfl); (case hg => rfl); (case hr => first | (go_simp; done) | (go_simp; rfl)); intro gb212 hg w4 hbox hb; have n0_ := Aside0.mk (blk_below (g := gb211) (o := .cells #[.int .u8 a0_0] 68 (0, 0)) (by (with_reducible repeat (first | refine blk_drewN ?_ _ | refine blk_drew ?_ | refine blk_alloc ?_ _)); exact BK211.out) hb); have n1_ := Aside0.mk (below_step (by repeat (first | (with_reducible first | exact HB.out | apply below_alloc | apply pw_below_drewN | apply below_drew1 | refine below_set ?_ GE211.out) | exact HB.out)) hb); have n2_ := Aside0.mk (hbox); have n3_ := Aside0.mk ((by rw [hg]; exact (below_size (by repeat (first | (with_reducible first | exact HB.out | apply below_alloc | apply pw_below_drewN | apply below_drew1 | refine below_set ?_ GE211.out) | exact HB.out))) : w.heap.size ≤ gb212)); have n4_ := Aside0.mk ((by rw [hg]; exact (below_size (by repeat (first | (with_reducible first | exact HB.out | apply below_alloc | apply pw_below_drewN | apply below_drew1 | refine below_set ?_ GE211.out) | exact HB.out))) : w.heap.size ≤ gb212)); have n5_ := Aside0.mk ((by rw [hg]; exact Nat.ne_of_lt (blk_lt (g := gb211) (o := .cells #[.int .u8 a0_0] 68 (0, 0)) (by (with_reducible repeat (first | refine blk_drewN ?_ _ | refine blk_drew ?_ | refine blk_alloc ?_ _)); exact BK211.out)) : gb211 ≠ gb212)); have n6_ := Aside0.mk ((by rw [hg]; exact Nat.ne_of_gt (blk_lt (g := gb211) (o := .cells #[.int .u8 a0_0] 68 (0, 0)) (by (with_reducible repeat (first | refine blk_drewN ?_ _ | refine blk_drew ?_ | refine blk_alloc ?_ _)); exact BK211.out)) : gb212 ≠ gb211)); clear BK211; clear HB; have BK211 := n0_; have HB := n1_; have BK212 := n2_; have GW212 := n3_; have GE212 := n4_; have NB211_212 := n5_; have NB212_211 := n6_; clear n0_ n1_ n2_ n3_ n4_ n5_ n6_; clear hb hbox hg; have hnb5 := NB212_211.out; have hnc5 := NB211_212.out; have hcz6_0 : w4.cell? ⟨gb212, 0, none⟩ = some (.int .u8 0) := (blk_cell BK212.out 0).trans rfl; have hfz6_0 := blk_frozen BK212.out 0))
  refine bodyPost_ret (results_cell_row rfl _ _ gb212 68 #[.int .u8 a1] (0, 0) _ rfl (by (with_reducible repeat (first | refine blk_drewN ?_ _ | refine blk_drew ?_ | refine blk_alloc ?_ _)); refine blk_put (cs := #[.int .u8 0]) ?_ 0 _ rfl; (with_reducible repeat (first | refine blk_drewN ?_ _ | refine blk_drew ?_ | refine blk_alloc ?_ _)); exact BK212.out) Tryz.underlying68 rfl (by kernel_rfl)) rfl ?_
  exact ⟨by first | rfl | (simp [errW_none, errW_some] <;> rfl) | (simp [*, errW_none, errW_some] <;> rfl), by repeat (first | (with_reducible first | exact HB.out | apply below_alloc | apply pw_below_drewN | apply below_drew1 | refine below_set ?_ GE211.out | refine below_set ?_ GE212.out) | exact HB.out)⟩

/-! ### bits_Set_uint8_Width: function 62 -/
def bits_Set_uint8_Width.f (a0_0 : Int) : Option (Int) := (bits_OnesCount64.f (IntKind.u64.wrap (Go.bits .xor .u8 255 0))).bind fun t214 => (some t214)
set_option maxHeartbeats 8000000 in
set_option maxRecDepth 100000 in
theorem bits_Set_uint8_Width.calls (a0_0 : Int) (r : Int) (w : World) (h : bits_Set_uint8_Width.f a0_0 = some r) :
    Calls Tryz.prog 62 #[.agg #[.int .u8 a0_0]] w fun e w' => e = .returned (.int .i64 r) ∧ Below w.heap.size w w' := by
  have hu68 := Tryz.underlying68
  have HB := Aside0.mk (Below.refl w.heap.size w)
  have H : ((bits_OnesCount64.f (IntKind.u64.wrap (Go.bits .xor .u8 255 0))).bind fun t214 => (some t214)) = some r := h
  clear h
  replace H := Option.bind_eq_some_iff.mp H
  obtain ⟨t214, A20, H⟩ := H
  replace H : (some t214) = some r := H
  have A2 := Aside0.mk A20
  clear A20
  obtain rfl := Option.some.inj H
  go_enter Tryz.func62, Tryz.ntmps62
  go_wp2_with (first | ((with_reducible refine gate_dst (N := 1) rfl ?_); refine box_event ?hg (N := 1) ?hd (cs := #[.int .u8 a0_0]) (t := 68) ?hr ?_; (case hd => rfl); (case hg => rfl); (case hr => first | (go_simp; done) | (go_simp; rfl)); intro gb213 hg w3 hbox hb; have n0_ := Aside0.mk (below_step (by repeat (first | (with_reducible first | exact HB.out | apply below_alloc | apply pw_below_drewN | apply below_drew1) | exact HB.out)) hb); have n1_ := Aside0.mk (hbox); have n2_ := Aside0.mk ((by rw [hg]; exact (below_size (by repeat (first | (with_reducible first | exact HB.out | apply below_alloc | apply pw_below_drewN | apply below_drew1) | exact HB.out))) : w.heap.size ≤ gb213)); have n3_ := Aside0.mk ((by rw [hg]; exact (below_size (by repeat (first | (with_reducible first | exact HB.out | apply below_alloc | apply pw_below_drewN | apply below_drew1) | exact HB.out))) : w.heap.size ≤ gb213)); clear HB; have HB := n0_; have BK213 := n1_; have GW213 := n2_; have GE213 := n3_; clear n0_ n1_ n2_ n3_; clear hb hbox hg) | ((with_reducible refine gate_callee (f := 28) rfl ?_); refine goesL_ (some 6) rfl rfl Tryz.func28 (by kernel_rfl) rfl #[.int .u64 (IntKind.u64.wrap (Go.bits .xor .u8 255 0))] rfl (by (try simp only [List.map_toArray, List.map_cons, List.map_nil]); first | done | rfl | (simp only [List.length_drop, List.length_take]; rfl)) ?_; (with_reducible refine (bits_OnesCount64.calls (IntKind.u64.wrap (Go.bits .xor .u8 255 0)) t214 _ A2.out).mono ?_); rintro e w' ⟨rfl, ⟨nd, rfl⟩⟩; refine ⟨_, rfl, ?_⟩))
  go_ret
  exact ⟨by first | rfl | (simp [errW_none, errW_some] <;> rfl) | (simp [*, errW_none, errW_some] <;> rfl), by repeat (first | (with_reducible first | exact HB.out | apply below_alloc | apply pw_below_drewN | apply below_drew1 | refine below_set ?_ GE213.out) | exact HB.out)⟩
section
open Go Go.Lib Go.Proofs.YtfgmapnanaahaaaGreatDoorW.BitsM Go.Proofs.YtfgmapnanaahaaaGreatDoorW.PrintMore
theorem width8_eq (x : Int) : bits_Set_uint8_Width.f x = some 8 := by
  unfold bits_Set_uint8_Width.f
  have c : IntKind.u64.wrap (Go.bits .xor .u8 255 0) = ((255 : Nat) : Int) := by decide +kernel
  have l : (pl 255 0).length = 8 := by decide +kernel
  rw [c, ones_eq _ (by decide), l]; rfl
end


end Go.Proofs.YtfgmapnanaahaaaGreatDoor.PBon
