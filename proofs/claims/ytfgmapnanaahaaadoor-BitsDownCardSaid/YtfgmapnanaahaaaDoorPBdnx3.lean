/- A text written by my program wip/gen/p2.py out of the translation and of my foreign texts; not trusted: Lean checks it. -/
import Derived.Test.YtfgmapnanaahaaaDoorPBdnx0
import Derived.Test.YtfgmapnanaahaaaDoorPBdnx1
import Derived.Test.YtfgmapnanaahaaaDoorPBdnx2
namespace Go.Proofs.YtfgmapnanaahaaaDoor.PBdn
open Go.RowKit Go.Proofs.YtfgmapnanaahaaaDoorW.PrintWords Go.Proofs.YtfgmapnanaahaaaDoorW.PrintLast Go.Proofs.YtfgmapnanaahaaaDoorW.PrintMore
attribute [local go_sem] max2_int min2_int max_two min_two max_three min_three max_four min_four   -- for this text's walks alone
set_option linter.unusedVariables false
set_option linter.unusedSimpArgs false

/-! ### provostlaw01_BitsDown: function 7 -/
section
open Go Go.Lib Go.Proofs.YtfgmapnanaahaaaDoorW.Rng Go.Proofs.YtfgmapnanaahaaaDoorW.BitsM Go.Proofs.YtfgmapnanaahaaaDoorW.Tab
attribute [local go_sem] Oper.semAt_some
theorem fn_nilIn (d t : Nat) (f : Fn) (a c : Array Value) (w : World) {S R V} (h : Tryd.prog.underlying t = some (.func S R V)) : (Op.equalIn (d + 1) t (.func f a c) .nilFunc).run Tryd.prog w = .ok false w := by
  simp [Op.equalIn, run_underlying h]
@[local go_sem] theorem fn_nil (f : Fn) (a c : Array Value) (w : World) : (binOp .eql 29 (.func f a c) .nilFunc).run Tryd.prog w = .ok (.bool false) w := by
  have e : (Op.equal 29 (.func f a c) .nilFunc).run Tryd.prog w = .ok false w := fn_nilIn 9999 _ f a c w Tryd.underlying29
  simp only [binOp]
  simp [e]
theorem own_blkF {β : Type} (B b : Nat) (cs : Array Value) (t : TypeId) : OwnFrom B (fun (_ : β) W => W.heap[b]? = some (.cells cs t (0, 0))) := fun _ W W' row hs hg hr => by
  refine (hg.block b (Array.getElem?_eq_some_iff.1 hs).1 (fun e => ?_)).trans hs
  obtain ⟨_, o, ho, hw⟩ := hr b e.symm
  rw [hs] at ho
  injection ho with ho
  subst ho
  cases hw
theorem own_tabF {β : Type} (B : Nat) : OwnFrom B (fun (_ : β) W => TabW W) := fun _ W W' row hs hg hr => by
  have hlt := tab_lt hs
  intro j hj
  have h0 := hs j hj
  have hb : W'.heap[0]? = W.heap[0]? := by
    refine hg.block _ hlt (fun e => ?_)
    obtain ⟨_, o, ho, hw⟩ := hr _ e.symm
    simp only [World.cell?, ho] at h0
    cases o <;> simp_all [Obj.isCells]
  simp only [World.cell?] at h0 ⊢
  rw [hb]
  exact h0
theorem row_at {W : World} {n₀ e : Nat} {A : Option Addr} {n c : Nat} {xs : List Value} (h : W.ownsRow n₀ e 1 (.slice A n c) n xs) {i : Nat} {x : Value} (hi : xs[i]? = some x) : ∃ g, A = some ⟨g, 0, none⟩ ∧ n₀ ≤ g ∧ W.cell? ⟨g, i, none⟩ = some x := by
  obtain ⟨hl, h⟩ := h
  have hin := (List.getElem?_eq_some_iff.1 hi).1
  rcases h with ⟨_, h0⟩ | ⟨g, cap, cur, hv, hg, hh, _, _, hs, ht⟩
  · omega
  · injection hv with h1 h2 h3
    refine ⟨g, h1, hg, ?_⟩
    simp only [World.cell?, hh]
    rw [← ht] at hi
    rw [List.getElem?_take_of_lt (by omega)] at hi
    simpa using hi
theorem rev_at {l pre : List Nat} {x : Nat} (h : pre ++ [x] <+: l.reverse) : pre.length < l.length ∧ l[l.length - 1 - pre.length]? = some x := by
  obtain ⟨t, ht⟩ := h
  have e : l = t.reverse ++ x :: pre.reverse := by
    have := congrArg List.reverse ht
    simpa using this.symm
  subst e
  refine ⟨by simp; omega, ?_⟩
  have e2 : (t.reverse ++ x :: pre.reverse).length - 1 - pre.length = t.reverse.length := by simp
  rw [e2, List.getElem?_append_right (Nat.le_refl _), Nat.sub_self]
  rfl
/-- the row that 'want' is, in a block below b -/
def RowAt (m : Nat) (S : Option Addr) (b : Nat) (W : World) : Prop := ∀ j x, (pl m 0)[j]? = some x → ∃ g, S = some ⟨g, 0, none⟩ ∧ g < b ∧ W.cell? ⟨g, j, none⟩ = some (.int .i64 (x : Nat))
theorem own_rowF {β : Type} (B m : Nat) (S : Option Addr) (b : Nat) : OwnFrom B (fun (_ : β) W => RowAt m S b W) := fun _ W W' row hs hg hr j x h => by
  obtain ⟨g, e, hl, hc⟩ := hs j x h
  exact ⟨g, e, hl, cell_kept hc hg (fun r e => (hr r e).2)⟩
theorem RowAt.set {m b B : Nat} {S : Option Addr} {W : World} (h : RowAt m S b W) (hB : b ≤ B) (v : Value) : RowAt m S b (W.setCell ⟨B, 0, none⟩ v) := fun j x hj => by
  obtain ⟨g, e, hl, hc⟩ := h j x hj
  exact ⟨g, e, hl, (World.cell?_of_block (a := ⟨g, j, none⟩) ((grownBy_setCell' W B v).block g (World.block_lt_of_cell? W _ hc) (fun e => by injection e; omega))).trans hc⟩
set_option maxRecDepth 100000 in
set_option maxHeartbeats 4000000 in
theorem provostlaw01_BitsDown.walk (A : Int) (b i k : Int) (w : World) (hT : TabW w) :
    Calls Tryd.prog 7 #[.agg #[.int .u64 A, .int .u64 b, .int .i64 i, .int .i64 k]] w fun e W' => e = .returned (.bool true) ∧ Below w.heap.size w W' := by
  obtain ⟨m, hm⟩ : ∃ m : Nat, IntKind.u32.wrap A = (m : Int) := Int.eq_ofNat_of_zero_le (by rw [IntKind.wrap_u32']; omega)
  have hm32 : m < 4294967296 := by rw [IntKind.wrap_u32'] at hm; omega
  have hm64 : IntKind.u64.wrap (m : Int) = (m : Int) := by rw [IntKind.wrap_u64]; omega
  have HO := Aside0.mk (show bits_Set_uint32_Of.f 0 (m : Int) = some (m : Int) from rfl)
  have HPL := Aside0.mk (show provostref01_Places.f 33 (m : Int) 32 = some ((pl m 0).map (fun x : Nat => (x : Int))) from refPlaces_eq m (by omega) 32 (by decide) (fun x h1 h2 => lt_of_bits (W := 32) hm32 h1) 0)
  have HW := Aside0.mk (show provostlaw01_wakes.f = some true from by decide +kernel)
  have hg := tab_lt hT
  have hTW := Aside0.mk hT
  clear hT
  refine calls_marks Tryd.func7 rfl ?_
  simp only [Tryd.ntmps7, List.size_toArray, List.length_cons, List.length_nil, Nat.reduceAdd, Nat.reduceSub, Array.replicate_succ, Array.replicate_zero, List.push_toArray, List.append_toArray, List.nil_append, List.cons_append]
  go_wp2_with (first | (go_at_call 30; refine (bits_Set_uint32_Of.calls 0 m m _ HO.out).mono ?_; rintro e w1 ⟨rfl, hb1⟩; have y1 : (((w.alloc (.cells #[.int .u64 A, .int .u64 b, .int .i64 i, .int .i64 k] 24)).alloc (.cells #[.bool false] 4)).alloc (.cells #[.int .u32 0] 55)).heap[w.heap.size]? = some (.cells #[.int .u64 A, .int .u64 b, .int .i64 i, .int .i64 k] 24) := blk_alloc (blk_alloc (World.alloc_heap_new w _) _) _; have y2 : Boxed (((w.alloc (.cells #[.int .u64 A, .int .u64 b, .int .i64 i, .int .i64 k] 24)).alloc (.cells #[.bool false] 4)).alloc (.cells #[.int .u32 0] 55)) (w.heap.size + 1) 4 (.bool false) := (by have := (Boxed.new (w.alloc (.cells #[.int .u64 A, .int .u64 b, .int .i64 i, .int .i64 k] 24)) 4 (.bool false)).alloc (.cells #[.int .u32 0] 55); rw [World.size_alloc] at this; exact this); have y3 : Below w.heap.size w (((w.alloc (.cells #[.int .u64 A, .int .u64 b, .int .i64 i, .int .i64 k] 24)).alloc (.cells #[.bool false] 4)).alloc (.cells #[.int .u32 0] 55)) := (((Below.refl _ w).alloc (Nat.le_refl _) _).alloc (by simp) _).alloc (by simp <;> omega) _; have X1 := Aside0.mk ((hb1.block _ (blk_lt y1)).trans y1); have X2 := Aside0.mk (show Boxed w1 (w.heap.size + 1) 4 (.bool false) from (hb1.block _ y2.lt).trans y2); have HT1 := Aside0.mk (tab_below hTW.out (y3.trans (hb1.mono y3.size))); have HB1 := Aside0.mk (y3.trans (hb1.mono y3.size)); have hA1 : w1.cell? ⟨w.heap.size, 0, none⟩ = some (.int .u64 A) := (blk_cell X1.out 0).trans rfl; have hA1b : (w1.alloc (.cells #[.int .u32 m] 55)).cell? ⟨w.heap.size, 0, none⟩ = some (.int .u64 A) := (blk_cell (blk_alloc X1.out _) 0).trans rfl; clear y1 y2 y3 hb1 hTW) | (go_at_call 13; refine (provostref01_Places.calls 33 m 32 _ _ HPL.out).mono ?_; rintro e w2 ⟨v, rfl, hr2, hb2⟩; obtain ⟨S5, c5, rfl⟩ := Kd.R_slice hr2; have ho2 := Kd.own_of_R hr2; rw [List.length_map] at ho2; obtain ⟨n0, ho2⟩ : ∃ n0, w2.ownsRow n0 3 1 (.slice S5 (pl m 0).length c5) (pl m 0).length (encs (Value.int .i64) ((pl m 0).map (fun x : Nat => (x : Int)))) := ⟨_, ho2⟩; have y1 := blk_alloc X1.out (.cells #[.int .u32 m] 55); have y2 := X2.out.alloc (.cells #[.int .u32 m] 55); have y3 := HB1.out.alloc HB1.out.size (.cells #[.int .u32 m] 55); have y4 := Boxed.new w1 55 (.int .u32 m); have X1b := Aside0.mk ((hb2.block _ (blk_lt y1)).trans y1); have X2b := Aside0.mk (show Boxed w2 (w.heap.size + 1) 4 (.bool false) from (hb2.block _ y2.lt).trans y2); have HT2 := Aside0.mk (tab_below HT1.out (((Below.refl _ w1).alloc (Nat.le_refl _) _).trans (hb2.mono (by simp)))); have HB2 := Aside0.mk (y3.trans (hb2.mono y3.size)); have X4 := Aside0.mk (show Boxed w2 w1.heap.size 55 (.int .u32 m) from (hb2.block _ y4.lt).trans y4); have XO := Aside0.mk ho2; have hs2 : w1.heap.size < w2.heap.size := X4.out.lt; have h4 := X4.out.cell; have h4b : (w2.alloc (.cells #[.slice S5 (pl m 0).length c5] 31)).cell? ⟨w1.heap.size, 0, none⟩ = some (.int .u32 m) := (X4.out.alloc _).cell; clear y1 y2 y3 y4 hb2 X1 X2 HB1 HT1 hA1 hA1b hr2 ho2) | (go_at_call 31; refine (down32_made m _).mono ?_; rintro e w' ⟨rfl, rfl⟩))
  have x1 := blk_alloc (blk_alloc (blk_alloc X1b.out (.cells #[.slice S5 (pl m 0).length c5] 31)) (.cells #[.int .u32 m] 55)) (.cells #[.int .i64 (pl m 0).length] 3)
  have x2 := ((X2b.out.alloc (.cells #[.slice S5 (pl m 0).length c5] 31)).alloc (.cells #[.int .u32 m] 55)).alloc (.cells #[.int .i64 (pl m 0).length] 3)
  have x5 := ((Boxed.new w2 31 (.slice S5 (pl m 0).length c5)).alloc (.cells #[.int .u32 m] 55)).alloc (.cells #[.int .i64 (pl m 0).length] 3)
  have x6 := (Boxed.new (w2.alloc (.cells #[.slice S5 (pl m 0).length c5] 31)) 55 (.int .u32 m)).alloc (.cells #[.int .i64 (pl m 0).length] 3)
  have x7 := Boxed.new ((w2.alloc (.cells #[.slice S5 (pl m 0).length c5] 31)).alloc (.cells #[.int .u32 m] 55)) 3 (.int .i64 (pl m 0).length)
  have bl : Below w2.heap.size w2 (((w2.alloc (.cells #[.slice S5 (pl m 0).length c5] 31)).alloc (.cells #[.int .u32 m] 55)).alloc (.cells #[.int .i64 (pl m 0).length] 3)) := (((Below.refl _ w2).alloc (Nat.le_refl _) _).alloc (by simp) _).alloc (by simp <;> omega) _
  have xr : RowAt m S5 w2.heap.size (((w2.alloc (.cells #[.slice S5 (pl m 0).length c5] 31)).alloc (.cells #[.int .u32 m] 55)).alloc (.cells #[.int .i64 (pl m 0).length] 3)) := fun j x hj => by
    obtain ⟨g, e, _, hc⟩ := row_at XO.out (i := j) (x := .int .i64 (x : Nat)) (by unfold encs; simp [hj])
    exact ⟨g, e, World.block_lt_of_cell? w2 _ hc, pw_cell_below bl hc⟩
  have hs0 : (((w2.alloc (.cells #[.slice S5 (pl m 0).length c5] 31)).alloc (.cells #[.int .u32 m] 55)).alloc (.cells #[.int .i64 (pl m 0).length] 3)).heap.size = w2.heap.size + 3 := by simp
  simp only [World.size_alloc] at x6 x7
  generalize ((w2.alloc (.cells #[.slice S5 (pl m 0).length c5] 31)).alloc (.cells #[.int .u32 m] 55)).alloc (.cells #[.int .i64 (pl m 0).length] 3) = W0 at *
  have hT0 := tab_below HT2.out bl
  have hB0 := HB2.out.trans (bl.mono HB2.out.size)
  have hsz := HB2.out.size
  refine wp_range (gf := 66) (lb := #[.pointer (some ⟨w2.heap.size + 1, 0, none⟩)]) rfl (enters_of Tryd.func66 (by kernel_rfl) rfl)
    (down32_told m hm32 (w2.heap.size + 1) W0 x6) (fun h k => h.trans k)
    (fun W l o o' hl h hc _ => KeptFrom.put h hc) (Below.refl _ _) (fun x vs W h => by rw [h]; rfl)
    (fun (pre : List Nat) W => W.heap[w.heap.size]? = some (.cells #[.int .u64 A, .int .u64 b, .int .i64 i, .int .i64 k] 24 (0, 0)) ∧ Boxed W (w.heap.size + 1) 4 (.bool false) ∧ Boxed W w2.heap.size 31 (.slice S5 (pl m 0).length c5) ∧ RowAt m S5 w2.heap.size W ∧ Boxed W (w2.heap.size + 1 + 1) 3 (.int .i64 (((pl m 0).length : Int) - (pre.length : Int))) ∧ TabW W ∧ Below w.heap.size w W)
    (fun c (_ : List Nat) W => c = .ret ∧ Boxed W (w.heap.size + 1) 4 (.bool true) ∧ Below w.heap.size w W)
    (OwnFrom.and (own_blkF _ _ _ _) (OwnFrom.and (Own.from (boxed_own _ _ (fun _ => _)) _) (OwnFrom.and (Own.from (boxed_own _ _ (fun _ => _)) _) (OwnFrom.and (own_rowF _ _ _ _) (OwnFrom.and (Own.from (boxed_own _ _ (fun (pre : List Nat) => _)) _) (OwnFrom.and (own_tabF _) (ownFrom_below (Nat.le_refl _) (by omega))))))))
    (fun c => OwnFrom.and (ownFrom_pure _ _) (OwnFrom.and (Own.from (boxed_own _ _ (fun _ => _)) _) (ownFrom_below (Nat.le_refl _) (by omega))))
    ⟨x1, x2, x5, xr, by simpa using x7, hT0, hB0⟩
    (fun x a' _ => a' = { tmps := #[.agg #[.int .u64 A, .int .u64 b, .int .i64 i, .int .i64 k], .pointer (some ⟨w.heap.size, 0, none⟩), .pointer (some ⟨w.heap.size + 1, 0, none⟩), .pointer (some ⟨w.heap.size + 1 + 1, 0, none⟩), .pointer (some ⟨w1.heap.size, 0, none⟩), .pointer (some ⟨w2.heap.size, 0, none⟩), .func (.func 66) #[] #[.pointer (some ⟨w2.heap.size + 1, 0, none⟩)], .pointer (some ⟨w2.heap.size + 1 + 1, 0, none⟩), .int .i64 (x : Nat), .agg #[.int .u32 0], .pointer (some ⟨w.heap.size, 0, none⟩), .int .u64 A, .int .u32 m, .agg #[.int .u32 m], .pointer (some ⟨w.heap.size, 0, none⟩), .int .u64 A, .int .u32 m, .int .u64 m, .slice S5 (pl m 0).length c5, .agg #[.int .u32 m], .func (.func 66) #[] #[.pointer (some ⟨w2.heap.size + 1, 0, none⟩)], .func (.func 66) #[] #[.pointer (some ⟨w2.heap.size + 1, 0, none⟩)], .bool false, .slice S5 (pl m 0).length c5, .int .i64 (pl m 0).length, .func (.func 66) #[] #[.pointer (some ⟨w2.heap.size + 1, 0, none⟩)], .int .i64 (x : Nat), undef, undef, undef, undef, undef, undef, undef, undef, undef, undef, undef, undef, undef, undef, undef, undef, undef, undef, undef, undef, undef, undef], defers := [] })
    (fun _ _ _ _ _ _ hs _ _ => hs) ?assign ?body ?done ?stop
  case assign =>
    rintro l pre x vs W K hI rfl hK
    gi_wp2
    exact hK _ _ (KeepsFrom.refl _ _) (KeptFrom.refl _ _) hI rfl
  case body =>
    rintro l pre x a' W hl _ ⟨h1, h2, h5, hR, h7, hT, hB⟩ rfl hpre
    obtain ⟨hlt, hx⟩ := rev_at hpre
    obtain ⟨j, hj⟩ : ∃ j, j = (pl m 0).length - 1 - pre.length := ⟨_, rfl⟩
    rw [← hj] at hx
    obtain ⟨g, rfl, hgl, hcx⟩ := hR j x hx
    have hlen := pl_len m 0
    have e1 : ((pl m 0).length : Int) - (pre.length : Int) - 1 = (j : Int) := by omega
    have hw : wrap64 (((pl m 0).length : Int) - (pre.length : Int) - 1) = (j : Int) := by rw [e1]; unfold wrap64; omega
    have e2 : ((pl m 0).length : Int) - ((pre ++ [x]).length : Int) = (j : Int) := by rw [List.length_append, List.length_singleton]; omega
    have hneg : decide ((j : Int) < 0) = false := decide_eq_false (by omega)
    have hin : 0 ≤ (j : Int) ∧ (j : Int) < (((pl m 0).length : Nat) : Int) := ⟨by omega, by omega⟩
    have hxx : ((x : Int) != (x : Int)) = false := by simp
    have hc7 := h7.cell
    have hf7 := h7.frozen
    have hRs := hR.set (B := w2.heap.size + 1 + 1) (by omega) (.int .i64 (j : Int))
    obtain ⟨g', eg, _, hcs⟩ := hRs j x hx
    injection eg with eg
    injection eg with eg
    subst eg
    have hcK : (W.setCell ⟨w2.heap.size + 1 + 1, 0, none⟩ (.int .i64 (j : Int))).cell? ⟨w.heap.size, 3, none⟩ = some (.int .i64 k) := (World.cell?_of_block (a := ⟨w.heap.size, 3, none⟩) ((grownBy_setCell' W (w2.heap.size + 1 + 1) (.int .i64 (j : Int))).block w.heap.size (blk_lt h1) (fun e => by injection e; omega))).trans ((blk_cell h1 3).trans rfl)
    have hc5s := (h5.other (B' := w2.heap.size + 1 + 1) (by omega) (.int .i64 (j : Int))).cell
    have b1 : Below w.heap.size W (W.setCell ⟨w2.heap.size + 1 + 1, 0, none⟩ (.int .i64 (j : Int))) := (Below.refl _ W).setCell (p := ⟨w2.heap.size + 1 + 1, 0, none⟩) (by show w.heap.size ≤ w2.heap.size + 1 + 1; omega) _
    have hTs := Aside0.mk (tab_low hg hT b1)
    have h2s := Aside0.mk (h2.other (B' := w2.heap.size + 1 + 1) (by omega) (.int .i64 (j : Int)))
    have H1 := Aside0.mk h1
    have H5 := Aside0.mk h5
    have H7 := Aside0.mk h7
    have HBs := Aside0.mk (hB.trans b1)
    have HPRE := Aside0.mk hpre
    have HRS := Aside0.mk hRs
    have E2 := Aside0.mk e2
    clear h1 h2 h5 h7 hR hRs hT hB b1 hcx hpre x1 x2 x5 x6 x7 xr bl hT0 hB0 hj e1 e2 hx hlen hlt
    by_cases hk : k = (x : Int)
    · have hkx : (k == (x : Int)) = true := by simp [hk]
      subst hk
      gi_wp2_with (refine ⟨trivial, ?_⟩; gi_at_call 14; refine (CallsIn.inRound l ((callsIn_wide (n := 6)).2 (provostlaw01_wakes.calls true _ HW.out hTs))).mono ?_; rintro e W4 ⟨rfl, hb4⟩; have h2w : Boxed W4 (w.heap.size + 1) 4 (.bool false) := (hb4.block _ h2s.out.lt).trans h2s.out; have hc2 := h2w.cell; have hf2 := h2w.frozen)
      refine ⟨((KeepsOthers.setCell _ _ _).from _).trans ((KeepsFrom.of_grownBy (grown_of_below hb4 none) (fun r e => by cases e)).trans ((KeepsOthers.setCell _ _ _).from _)), rfl, h2w.set _, ?_⟩
      exact (HBs.out.trans (hb4.mono HBs.out.size)).setCell (p := ⟨w.heap.size + 1, 0, none⟩) (by show w.heap.size ≤ w.heap.size + 1; omega) _
    · have hkx : (k == (x : Int)) = false := by simp [hk]
      have hkd : decide (k = (x : Int)) = false := decide_eq_false hk
      gi_wp2
      have h1n := ((grownBy_setCell' W (w2.heap.size + 1 + 1) (.int .i64 (j : Int))).block w.heap.size (blk_lt H1.out) (fun e => by injection e; omega)).trans H1.out
      refine ⟨(KeepsOthers.setCell _ _ _).from _, KeptFrom.setCell (by omega) _, h1n, h2s.out, H5.out.other (by omega) _, HRS.out, ?_, hTs.out, HBs.out⟩
      rw [E2.out]
      exact H7.out.set _
  case done =>
    rintro D W hD ⟨h1, h2, h5, hR, h7, hT, hB⟩ hK
    rw [List.length_reverse, Int.sub_self] at h7
    have hc7 := h7.cell
    have HTd := Aside0.mk hT
    have H2 := Aside0.mk h2
    have HBd := Aside0.mk hB
    have HKd := Aside0.mk hK
    clear h1 h2 h5 hR hT hB hK x1 x2 x5 x6 x7 xr bl hT0 hB0
    go_wp2_with (go_at_call 14; refine (provostlaw01_wakes.calls true _ HW.out HTd).mono ?_; rintro e W4 ⟨rfl, hb4⟩; have h2w : Boxed W4 (w.heap.size + 1) 4 (.bool false) := (hb4.block _ H2.out.lt).trans H2.out; have hc2 := h2w.cell; have hf2 := h2w.frozen)
    have hK4 := (hb4.block D (Array.getElem?_eq_some_iff.1 HKd.out).1).trans HKd.out
    have hK5 := (KeepsOthers.setCell W4 ⟨w.heap.size + 1, 0, none⟩ (.bool true)).same D _ hK4 rfl
    refine ⟨by simp, .inl ⟨_, _, rfl, run_takeDeferred hK5, ?_⟩⟩
    have hcr := cell_kept (h2w.set (.bool true)).cell (grownBy_putObj' _ D (.deferred none)) (fun r e => by cases e; exact ⟨_, hK5, rfl⟩)
    have hbf := (HBd.out.trans (hb4.mono HBd.out.size)).setCell (p := ⟨w.heap.size + 1, 0, none⟩) (by show w.heap.size ≤ w.heap.size + 1; omega) (.bool true)
    refine ⟨.bool true, ?_, rfl, hbf.trans (belowK_b (w := w) (Nat.le_refl _) _ D _ _ (by omega) hK5 rfl rfl)⟩
    simp [results, Tryd.f7, go_sem, hcr]
  case stop =>
    rintro D c pre W hD _ ⟨rfl, h2, hB⟩ hK
    go_wp2
    refine ⟨by simp, .inl ⟨_, _, rfl, run_takeDeferred hK, ?_⟩⟩
    have hcr := cell_kept h2.cell (grownBy_putObj' _ D (.deferred none)) (fun r e => by cases e; exact ⟨_, hK, rfl⟩)
    refine ⟨.bool true, ?_, rfl, hB.trans (belowK_b (w := w) (Nat.le_refl _) _ D _ _ (by omega) hK rfl rfl)⟩
    simp [results, Tryd.f7, go_sem, hcr]
end


end Go.Proofs.YtfgmapnanaahaaaDoor.PBdn
