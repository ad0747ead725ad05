/- A text written by my program wip/gen/p2.py out of the translation and of my foreign texts; not trusted: Lean checks it. -/
import Derived.Test.YtfgmapnanaahaaaDoorPBallx0
import Derived.Test.YtfgmapnanaahaaaDoorPBallx1
import Derived.Test.YtfgmapnanaahaaaDoorPBallx2
namespace Go.Proofs.YtfgmapnanaahaaaDoor.PBall
open Go.RowKit Go.Proofs.YtfgmapnanaahaaaDoorW.PrintWords Go.Proofs.YtfgmapnanaahaaaDoorW.PrintLast Go.Proofs.YtfgmapnanaahaaaDoorW.PrintMore
attribute [local go_sem] max2_int min2_int max_two min_two max_three min_three max_four min_four   -- for this text's walks alone
set_option linter.unusedVariables false
set_option linter.unusedSimpArgs false

/-! ### provostlaw01_BitsAll: function 3 -/
section
open Go Go.Lib Go.Proofs.YtfgmapnanaahaaaDoorW.Rng Go.Proofs.YtfgmapnanaahaaaDoorW.BitsM Go.Proofs.YtfgmapnanaahaaaDoorW.Tab
attribute [local go_sem] Oper.semAt_some
theorem fn_nilIn (d t : Nat) (f : Fn) (a c : Array Value) (w : World) {S R V} (h : Tryd.prog.underlying t = some (.func S R V)) : (Op.equalIn (d + 1) t (.func f a c) .nilFunc).run Tryd.prog w = .ok false w := by
  simp [Op.equalIn, run_underlying h]
@[local go_sem] theorem fn_nil (f : Fn) (a c : Array Value) (w : World) : (binOp .eql 29 (.func f a c) .nilFunc).run Tryd.prog w = .ok (.bool false) w := by
  have e : (Op.equal 29 (.func f a c) .nilFunc).run Tryd.prog w = .ok false w := fn_nilIn 9999 _ f a c w Tryd.underlying29
  simp only [binOp]
  simp [e]
theorem own_blkF {β : Type} (B b : Nat) (cs : Array Value) (t : TypeId) : OwnFrom B (fun (_ : β) W => W.heap[b]? = some (.cells cs t (0, 0))) := fun _ W W' row hs hg hr => by
  refine (hg.block b (Array.getElem?_eq_some_iff.1 hs).1 (fun e => ?_)).trans hs
  obtain ⟨_, o, ho, hw⟩ := hr b e.symm
  rw [hs] at ho
  injection ho with ho
  subst ho
  cases hw
theorem own_tabF {β : Type} (B : Nat) : OwnFrom B (fun (_ : β) W => TabW W) := fun _ W W' row hs hg hr => by
  have hlt := tab_lt hs
  intro j hj
  have h0 := hs j hj
  have hb : W'.heap[0]? = W.heap[0]? := by
    refine hg.block _ hlt (fun e => ?_)
    obtain ⟨_, o, ho, hw⟩ := hr _ e.symm
    simp only [World.cell?, ho] at h0
    cases o <;> simp_all [Obj.isCells]
  simp only [World.cell?] at h0 ⊢
  rw [hb]
  exact h0
theorem row_at {W : World} {n₀ e : Nat} {A : Option Addr} {n c : Nat} {xs : List Value} (h : W.ownsRow n₀ e 1 (.slice A n c) n xs) {i : Nat} {x : Value} (hi : xs[i]? = some x) : ∃ g, A = some ⟨g, 0, none⟩ ∧ n₀ ≤ g ∧ W.cell? ⟨g, i, none⟩ = some x := by
  obtain ⟨hl, h⟩ := h
  have hin := (List.getElem?_eq_some_iff.1 hi).1
  rcases h with ⟨_, h0⟩ | ⟨g, cap, cur, hv, hg, hh, _, _, hs, ht⟩
  · omega
  · injection hv with h1 h2 h3
    refine ⟨g, h1, hg, ?_⟩
    simp only [World.cell?, hh]
    rw [← ht] at hi
    rw [List.getElem?_take_of_lt (by omega)] at hi
    simpa using hi
/-- the row that 'want' is, in a block below b -/
def RowAt (m : Nat) (S : Option Addr) (b : Nat) (W : World) : Prop := ∀ j x, (pl m 0)[j]? = some x → ∃ g, S = some ⟨g, 0, none⟩ ∧ g < b ∧ W.cell? ⟨g, j, none⟩ = some (.int .i64 (x : Nat))
theorem own_rowF {β : Type} (B m : Nat) (S : Option Addr) (b : Nat) : OwnFrom B (fun (_ : β) W => RowAt m S b W) := fun _ W W' row hs hg hr j x h => by
  obtain ⟨g, e, hl, hc⟩ := hs j x h
  exact ⟨g, e, hl, cell_kept hc hg (fun r e => (hr r e).2)⟩
theorem RowAt.set {m b B : Nat} {S : Option Addr} {W : World} (h : RowAt m S b W) (hB : b ≤ B) (v : Value) : RowAt m S b (W.setCell ⟨B, 0, none⟩ v) := fun j x hj => by
  obtain ⟨g, e, hl, hc⟩ := h j x hj
  exact ⟨g, e, hl, (World.cell?_of_block (a := ⟨g, j, none⟩) ((grownBy_setCell' W B v).block g (World.block_lt_of_cell? W _ hc) (fun e => by injection e; omega))).trans hc⟩
theorem own_objF {β : Type} (B b : Nat) (o : Obj) (h : b < B) : OwnFrom B (fun (_ : β) W => W.heap[b]? = some o) := fun _ W W' row hs hg hr => (hg.block b (Array.getElem?_eq_some_iff.1 hs).1 (fun e => by have := (hr b e.symm).1; omega)).trans hs
theorem step_le {n : Nat} {k : Int} (h : (n : Int) ≤ k) (hne : ¬ (n : Int) = k) : (n : Int) + 1 ≤ k := by omega
theorem wr64s (n : Nat) (h : n < 64) : wrap64 ((n : Int) + 1) = (n : Int) + 1 ∧ wrap64 ((n : Int) + 1 - 1) = (n : Int) ∧ wrap64 (n : Int) = (n : Int) := by
  unfold wrap64
  omega
theorem ne_neg1 (n : Nat) : ((n : Int) == -1) = false ∧ decide ((n : Int) = -1) = false := ⟨by simp, decide_eq_false (by omega)⟩
theorem in_row {n l : Nat} (h : n < l) : decide ((l : Int) ≤ (n : Int)) = false ∧ decide (l ≤ n) = false ∧ (0 ≤ (n : Int) ∧ (n : Int) < (l : Int)) := ⟨decide_eq_false (by omega), decide_eq_false (by omega), by omega, by omega⟩
theorem wp_three {P : Program} {Q : Exit → Act → World → Prop} {a : Act} {w : World} {c : Code} (J J' : Act → World → Prop) (h1 : c.wp P (Exit.then J Q) a w) (h2 : ∀ a w, J a w → c.wp P (Exit.then J' Q) a w)
    (h3 : ∀ a w, J' a w → c.wp P (Exit.then (fun _ _ => False) Q) a w) : (Code.loop c).wp P Q a w := by
  refine wp_loop_rounds 3 ?_
  rw [rounds_succ]
  refine Code.wp_mono (fun e a w q => ?_) h1
  cases e with
  | normal =>
    show Code.rounds P c Q 2 a w
    rw [rounds_succ]
    refine Code.wp_mono (fun e a w q => ?_) (h2 _ _ q)
    cases e with
    | normal =>
      show Code.rounds P c Q 1 a w
      rw [rounds_succ]
      exact Code.wp_mono (fun e a w q => by cases e <;> first | exact q | exact q.elim) (h3 _ _ q)
    | _ => exact q
  | _ => exact q
set_option maxRecDepth 100000 in
set_option maxHeartbeats 8000000 in
theorem provostlaw01_BitsAll.walk (a : Nat) (ha : a < 18446744073709551616) (b i k : Int) (hk9 : k ≤ 9223372036854775807) (w : World) (hT : TabW w) :
    Calls Tryd.prog 3 #[.agg #[.int .u64 a, .int .u64 b, .int .i64 i, .int .i64 k]] w fun e W' => e = .returned (.bool true) ∧ Below w.heap.size w W' := by
  have HO := Aside0.mk (show bits_Set_uint64_Of.f 0 (a : Int) = some (a : Int) from rfl)
  have HPL := Aside0.mk (show provostref01_Places.f 65 (a : Int) 64 = some ((pl a 0).map (fun x : Nat => (x : Int))) from refPlaces_eq a ha 64 (by decide) (fun x h1 h2 => absurd h1 (by omega)) 0)
  have HW := Aside0.mk (show provostlaw01_wakes.f = some true from by decide +kernel)
  have hg := tab_lt hT
  have hTW := Aside0.mk hT
  clear hT
  refine calls_marks Tryd.func3 rfl ?_
  simp only [Tryd.ntmps3, List.size_toArray, List.length_cons, List.length_nil, Nat.reduceAdd, Nat.reduceSub, Array.replicate_succ, Array.replicate_zero, List.push_toArray, List.append_toArray, List.nil_append, List.cons_append]
  go_wp2_with (first | (go_at_call 11; refine (bits_Set_uint64_Of.calls 0 a a _ HO.out).mono ?_; rintro e w1 ⟨rfl, hb1⟩; have y1 : (((w.alloc (.cells #[.int .u64 a, .int .u64 b, .int .i64 i, .int .i64 k] 24)).alloc (.cells #[.bool false] 4)).alloc (.cells #[.int .u64 0] 26)).heap[w.heap.size]? = some (.cells #[.int .u64 a, .int .u64 b, .int .i64 i, .int .i64 k] 24) := blk_alloc (blk_alloc (World.alloc_heap_new w _) _) _; have y2 : Boxed (((w.alloc (.cells #[.int .u64 a, .int .u64 b, .int .i64 i, .int .i64 k] 24)).alloc (.cells #[.bool false] 4)).alloc (.cells #[.int .u64 0] 26)) (w.heap.size + 1) 4 (.bool false) := (by have := (Boxed.new (w.alloc (.cells #[.int .u64 a, .int .u64 b, .int .i64 i, .int .i64 k] 24)) 4 (.bool false)).alloc (.cells #[.int .u64 0] 26); rw [World.size_alloc] at this; exact this); have y3 : Below w.heap.size w (((w.alloc (.cells #[.int .u64 a, .int .u64 b, .int .i64 i, .int .i64 k] 24)).alloc (.cells #[.bool false] 4)).alloc (.cells #[.int .u64 0] 26)) := (((Below.refl _ w).alloc (Nat.le_refl _) _).alloc (by simp) _).alloc (by simp <;> omega) _; have X1 := Aside0.mk ((hb1.block _ (blk_lt y1)).trans y1); have X2 := Aside0.mk (show Boxed w1 (w.heap.size + 1) 4 (.bool false) from (hb1.block _ y2.lt).trans y2); have HT1 := Aside0.mk (tab_below hTW.out (y3.trans (hb1.mono y3.size))); have HB1 := Aside0.mk (y3.trans (hb1.mono y3.size)); clear y1 y2 y3 hb1 hTW) | (go_at_call 12; refine (all64_made a _).mono ?_; rintro e w' ⟨rfl, rfl⟩))
  have x1 := blk_alloc (blk_alloc X1.out (.cells #[.int .u64 a] 26)) (.cells #[.int .u64 a] 26)
  have x2 := (X2.out.alloc (.cells #[.int .u64 a] 26)).alloc (.cells #[.int .u64 a] 26)
  have x6 := Boxed.new (w1.alloc (.cells #[.int .u64 a] 26)) 26 (.int .u64 a)
  have bl : Below w1.heap.size w1 ((w1.alloc (.cells #[.int .u64 a] 26)).alloc (.cells #[.int .u64 a] 26)) := ((Below.refl _ w1).alloc (Nat.le_refl _) _).alloc (by simp) _
  simp only [World.size_alloc] at x6
  generalize (w1.alloc (.cells #[.int .u64 a] 26)).alloc (.cells #[.int .u64 a] 26) = W0 at *
  have hT0 := tab_below HT1.out bl
  have hB0 := HB1.out.trans (bl.mono HB1.out.size)
  have hsz := HB1.out.size
  have hs1 : w.heap.size + 1 < w1.heap.size := X2.out.lt
  refine wp_three (fun A W => ∃ (T : Nat → Value) (D1 : Nat), T = (fun n => A.tmps.getD n undef) ∧ A = { tmps := #[.agg #[.int .u64 a, .int .u64 b, .int .i64 i, .int .i64 k], .pointer (some ⟨w.heap.size, 0, none⟩), .pointer (some ⟨w.heap.size + 1, 0, none⟩), .pointer (some ⟨w.heap.size + 1 + 1, 0, none⟩), .pointer (some ⟨w1.heap.size, 0, none⟩), .func (.func 49) #[] #[.pointer (some ⟨w1.heap.size + 1, 0, none⟩)], .int .i64 1, T 7, T 8, T 9, T 10, .agg #[.int .u64 0], .pointer (some ⟨w.heap.size, 0, none⟩), .int .u64 a, .agg #[.int .u64 a], .agg #[.int .u64 a], .func (.func 49) #[] #[.pointer (some ⟨w1.heap.size + 1, 0, none⟩)], .func (.func 49) #[] #[.pointer (some ⟨w1.heap.size + 1, 0, none⟩)], .bool false, T 19, T 20, T 21, T 22, T 23, T 24, T 25, T 26, T 27, T 28, T 29, T 30, T 31, T 32, T 33, T 34, T 35, T 36, T 37, T 38, T 39, T 40, T 41, T 42, T 43, T 44, T 45, T 46, T 47, T 48, T 49, T 50, T 51, T 52, T 53, T 54, T 55, T 56, T 57, T 58, T 59, T 60, T 61, T 62, T 63, T 64, T 65, T 66, T 67, T 68, T 69, T 70, T 71, T 72, T 73, T 74, T 75, T 76, T 77, T 78], defers := [{ target := .collected D1, args := #[] }] } ∧ w.heap.size ≤ D1 ∧ W.heap[D1]? = some (.deferred (some [])) ∧ W.heap[w.heap.size]? = some (.cells #[.int .u64 a, .int .u64 b, .int .i64 i, .int .i64 k] 24 (0, 0)) ∧ Boxed W (w.heap.size + 1) 4 (.bool false) ∧ Boxed W (w1.heap.size + 1) 26 (.int .u64 a) ∧ TabW W ∧ Below w.heap.size w W) (fun A W => ∃ (T : Nat → Value) (D1 D2 : Nat), T = (fun n => A.tmps.getD n undef) ∧ A = { tmps := #[.agg #[.int .u64 a, .int .u64 b, .int .i64 i, .int .i64 k], .pointer (some ⟨w.heap.size, 0, none⟩), .pointer (some ⟨w.heap.size + 1, 0, none⟩), .pointer (some ⟨w.heap.size + 1 + 1, 0, none⟩), .pointer (some ⟨w1.heap.size, 0, none⟩), .func (.func 49) #[] #[.pointer (some ⟨w1.heap.size + 1, 0, none⟩)], .int .i64 2, T 7, T 8, T 9, T 10, .agg #[.int .u64 0], .pointer (some ⟨w.heap.size, 0, none⟩), .int .u64 a, .agg #[.int .u64 a], .agg #[.int .u64 a], .func (.func 49) #[] #[.pointer (some ⟨w1.heap.size + 1, 0, none⟩)], .func (.func 49) #[] #[.pointer (some ⟨w1.heap.size + 1, 0, none⟩)], .bool false, T 19, T 20, T 21, T 22, T 23, T 24, T 25, T 26, T 27, T 28, T 29, T 30, T 31, T 32, T 33, T 34, T 35, T 36, T 37, T 38, T 39, T 40, T 41, T 42, T 43, T 44, T 45, T 46, T 47, T 48, T 49, T 50, T 51, T 52, T 53, T 54, T 55, T 56, T 57, T 58, T 59, T 60, T 61, T 62, T 63, T 64, T 65, T 66, T 67, T 68, T 69, T 70, T 71, T 72, T 73, T 74, T 75, T 76, T 77, T 78], defers := [{ target := .collected D2, args := #[] }, { target := .collected D1, args := #[] }] } ∧ w.heap.size ≤ D1 ∧ W.heap[D1]? = some (.deferred (some [])) ∧ w.heap.size ≤ D2 ∧ W.heap[D2]? = some (.deferred (some [])) ∧ D1 ≠ D2 ∧ W.heap[w.heap.size]? = some (.cells #[.int .u64 a, .int .u64 b, .int .i64 i, .int .i64 k] 24 (0, 0)) ∧ Boxed W (w.heap.size + 1) 4 (.bool false) ∧ Boxed W (w1.heap.size + 1) 26 (.int .u64 a) ∧ TabW W ∧ Below w.heap.size w W) ?one ?two ?three
  case one =>
    have h1 := x1
    have h2 := x2
    have h6 := x6
    have hT := hT0
    have hB := hB0
    clear x1 x2 x6 hT0 hB0 bl
    by_cases hk0 : 0 ≤ k
    · have hge : decide (0 ≤ k) = true := decide_eq_true hk0
      have hge2 : decide (k ≥ 0) = true := decide_eq_true hk0
      have hlt0 : decide (k < 0) = false := decide_eq_false (by omega)
      have Y1 := Aside0.mk h1; have Y2 := Aside0.mk h2; have Y6 := Aside0.mk h6; have YT := Aside0.mk hT; have YB := Aside0.mk hB
      have hcA : W0.cell? ⟨w.heap.size, 0, none⟩ = some (.int .u64 a) := (blk_cell h1 0).trans rfl
      clear h1 h2 h6 hT hB
      go_wp2_with (go_at_call 13; refine (provostref01_Places.calls 65 a 64 _ _ HPL.out).mono ?_; rintro e w2 ⟨v, rfl, hr2, hb2⟩; obtain ⟨S5, c5, rfl⟩ := Kd.R_slice hr2; have ho2 := Kd.own_of_R hr2; rw [List.length_map] at ho2; obtain ⟨n0, ho2⟩ : ∃ n0, w2.ownsRow n0 3 1 (.slice S5 (pl a 0).length c5) (pl a 0).length (encs (Value.int .i64) ((pl a 0).map (fun x : Nat => (x : Int)))) := ⟨_, ho2⟩; have XO := Aside0.mk ho2; have Z1 := Aside0.mk ((hb2.block _ (blk_lt Y1.out)).trans Y1.out); have Z2 := Aside0.mk (show Boxed w2 (w.heap.size + 1) 4 (.bool false) from (hb2.block _ Y2.out.lt).trans Y2.out); have Z6 := Aside0.mk (show Boxed w2 (w1.heap.size + 1) 26 (.int .u64 a) from (hb2.block _ Y6.out.lt).trans Y6.out); have ZT := Aside0.mk (tab_below YT.out hb2); have ZB := Aside0.mk (YB.out.trans (hb2.mono YB.out.size)); have hK2 : (((w2.alloc (.cells #[.slice S5 (pl a 0).length c5] 31)).alloc (.cells #[.int .i64 0] 3)).alloc (.cells #[.int .i64 (-1)] 3)).cell? ⟨w.heap.size, 3, none⟩ = some (.int .i64 k) := (blk_cell (blk_alloc (blk_alloc (blk_alloc Z1.out _) _) _) 3).trans rfl; clear hr2 ho2 hb2)
      have x1 := blk_alloc (blk_alloc (blk_alloc Z1.out (.cells #[.slice S5 (pl a 0).length c5] 31)) (.cells #[.int .i64 0] 3)) (.cells #[.int .i64 k] 3)
      have x2 := ((Z2.out.alloc (.cells #[.slice S5 (pl a 0).length c5] 31)).alloc (.cells #[.int .i64 0] 3)).alloc (.cells #[.int .i64 k] 3)
      have x6 := ((Z6.out.alloc (.cells #[.slice S5 (pl a 0).length c5] 31)).alloc (.cells #[.int .i64 0] 3)).alloc (.cells #[.int .i64 k] 3)
      have x5 := ((Boxed.new w2 31 (.slice S5 (pl a 0).length c5)).alloc (.cells #[.int .i64 0] 3)).alloc (.cells #[.int .i64 k] 3)
      have x8 := (Boxed.new (w2.alloc (.cells #[.slice S5 (pl a 0).length c5] 31)) 3 (.int .i64 0)).alloc (.cells #[.int .i64 k] 3)
      have x9 := Boxed.new ((w2.alloc (.cells #[.slice S5 (pl a 0).length c5] 31)).alloc (.cells #[.int .i64 0] 3)) 3 (.int .i64 k)
      have bl : Below w2.heap.size w2 (((w2.alloc (.cells #[.slice S5 (pl a 0).length c5] 31)).alloc (.cells #[.int .i64 0] 3)).alloc (.cells #[.int .i64 k] 3)) := (((Below.refl _ w2).alloc (Nat.le_refl _) _).alloc (by simp) _).alloc (by simp <;> omega) _
      have xr : RowAt a S5 w2.heap.size (((w2.alloc (.cells #[.slice S5 (pl a 0).length c5] 31)).alloc (.cells #[.int .i64 0] 3)).alloc (.cells #[.int .i64 k] 3)) := fun j x hj => by
        obtain ⟨g, e, _, hc⟩ := row_at XO.out (i := j) (x := .int .i64 (x : Nat)) (by unfold encs; simp [hj])
        exact ⟨g, e, World.block_lt_of_cell? w2 _ hc, pw_cell_below bl hc⟩
      have hs0 : (((w2.alloc (.cells #[.slice S5 (pl a 0).length c5] 31)).alloc (.cells #[.int .i64 0] 3)).alloc (.cells #[.int .i64 k] 3)).heap.size = w2.heap.size + 3 := by simp
      simp only [World.size_alloc] at x8 x9
      clear hK2
      generalize (((w2.alloc (.cells #[.slice S5 (pl a 0).length c5] 31)).alloc (.cells #[.int .i64 0] 3)).alloc (.cells #[.int .i64 k] 3)) = W1 at *
      have hT0 := tab_below ZT.out bl
      have hB0 := ZB.out.trans (bl.mono ZB.out.size)
      have hsz := ZB.out.size
      have hl6 := Z6.out.lt
      have hl2 := Z2.out.lt
      refine wp_range (gf := 49) (lb := #[.pointer (some ⟨w1.heap.size + 1, 0, none⟩)]) rfl (enters_of Tryd.func49 (by kernel_rfl) rfl)
        (all64_told a ha (w1.heap.size + 1) W1 x6 hT0) (fun h k => h.trans k)
        (fun W l o o' hl h hc _ => KeptAt.put (tab_put hc) (by omega) h) (Below.refl _ _) (fun x vs W h => by rw [h]; rfl)
        (fun (pre : List Nat) W => ((pre.length : Int) ≤ k) ∧ W.heap[w.heap.size]? = some (.cells #[.int .u64 a, .int .u64 b, .int .i64 i, .int .i64 k] 24 (0, 0)) ∧ Boxed W (w.heap.size + 1) 4 (.bool false) ∧ Boxed W (w1.heap.size + 1) 26 (.int .u64 a) ∧ Boxed W w2.heap.size 31 (.slice S5 (pl a 0).length c5) ∧ RowAt a S5 w2.heap.size W ∧ Boxed W (w2.heap.size + 1) 3 (.int .i64 (pre.length : Int)) ∧ Boxed W (w2.heap.size + 1 + 1) 3 (.int .i64 k) ∧ TabW W ∧ Below w.heap.size w W)
        (fun c (pre : List Nat) W => (c = .exit 2 ∧ (pre.length : Int) = k + 1) ∧ W.heap[w.heap.size]? = some (.cells #[.int .u64 a, .int .u64 b, .int .i64 i, .int .i64 k] 24 (0, 0)) ∧ Boxed W (w.heap.size + 1) 4 (.bool false) ∧ Boxed W (w1.heap.size + 1) 26 (.int .u64 a) ∧ Boxed W w2.heap.size 31 (.slice S5 (pl a 0).length c5) ∧ RowAt a S5 w2.heap.size W ∧ Boxed W (w2.heap.size + 1) 3 (.int .i64 (pre.length : Int)) ∧ Boxed W (w2.heap.size + 1 + 1) 3 (.int .i64 k) ∧ TabW W ∧ Below w.heap.size w W)
        (OwnFrom.and (ownFrom_pure _ _) (OwnFrom.and (own_blkF _ _ _ _) (OwnFrom.and (Own.from (boxed_own _ _ (fun _ => _)) _) (OwnFrom.and (Own.from (boxed_own _ _ (fun _ => _)) _) (OwnFrom.and (Own.from (boxed_own _ _ (fun _ => _)) _) (OwnFrom.and (own_rowF _ _ _ _) (OwnFrom.and (Own.from (boxed_own _ _ (fun (pre : List Nat) => _)) _) (OwnFrom.and (Own.from (boxed_own _ _ (fun _ => _)) _) (OwnFrom.and (own_tabF _) (ownFrom_below (Nat.le_refl _) (by omega)))))))))))
        (fun c => OwnFrom.and (ownFrom_pure _ _) (OwnFrom.and (own_blkF _ _ _ _) (OwnFrom.and (Own.from (boxed_own _ _ (fun _ => _)) _) (OwnFrom.and (Own.from (boxed_own _ _ (fun _ => _)) _) (OwnFrom.and (Own.from (boxed_own _ _ (fun _ => _)) _) (OwnFrom.and (own_rowF _ _ _ _) (OwnFrom.and (Own.from (boxed_own _ _ (fun (pre : List Nat) => _)) _) (OwnFrom.and (Own.from (boxed_own _ _ (fun _ => _)) _) (OwnFrom.and (own_tabF _) (ownFrom_below (Nat.le_refl _) (by omega)))))))))))
        ⟨by simpa using hk0, x1, x2, x6, x5, xr, x8, x9, hT0, hB0⟩
        (fun x a' _ => a' = { tmps := #[.agg #[.int .u64 a, .int .u64 b, .int .i64 i, .int .i64 k], .pointer (some ⟨w.heap.size, 0, none⟩), .pointer (some ⟨w.heap.size + 1, 0, none⟩), .pointer (some ⟨w.heap.size + 1 + 1, 0, none⟩), .pointer (some ⟨w1.heap.size, 0, none⟩), .func (.func 49) #[] #[.pointer (some ⟨w1.heap.size + 1, 0, none⟩)], .int .i64 0, .pointer (some ⟨w2.heap.size, 0, none⟩), .pointer (some ⟨w2.heap.size + 1, 0, none⟩), .pointer (some ⟨w2.heap.size + 1 + 1, 0, none⟩), .int .i64 (x : Nat), .agg #[.int .u64 0], .pointer (some ⟨w.heap.size, 0, none⟩), .int .u64 a, .agg #[.int .u64 a], .agg #[.int .u64 a], .func (.func 49) #[] #[.pointer (some ⟨w1.heap.size + 1, 0, none⟩)], .func (.func 49) #[] #[.pointer (some ⟨w1.heap.size + 1, 0, none⟩)], .bool false, .int .i64 0, .bool true, undef, undef, .pointer (some ⟨w.heap.size, 0, none⟩), .int .u64 a, .slice S5 (pl a 0).length c5, .int .i64 0, .bool true, .bool true, .pointer (some ⟨w.heap.size, 3, none⟩), .int .i64 k, .bool true, .bool true, .pointer (some ⟨w.heap.size, 3, none⟩), .int .i64 k, .func (.func 49) #[] #[.pointer (some ⟨w1.heap.size + 1, 0, none⟩)], .int .i64 (x : Nat), undef, undef, undef, undef, undef, undef, undef, undef, undef, undef, undef, undef, undef, undef, undef, undef, undef, undef, undef, undef, undef, undef, undef, undef, undef, undef, undef, undef, undef, undef, undef, undef, undef, undef, undef, undef, undef, undef, undef, undef, undef, undef], defers := [] })
        (fun _ _ _ _ _ _ hs _ _ => hs) ?assign ?body ?done ?stop
      case assign =>
        rintro l pre x vs W K hI rfl hK
        gi_wp2
        exact hK _ _ (KeepsFrom.refl _ _) (KeptAt.refl _ _ _) hI rfl
      case body =>
        rintro l pre x a' W hl _ ⟨hle, h1, h2, h6, h5, hR, h8, h9, hT, hB⟩ rfl hpre
        have hc8 := h8.cell
        have hf8 := h8.frozen
        have hc9 := h9.cell
        have hc5 := h5.cell
        have b1 : Below w.heap.size W (W.setCell ⟨w2.heap.size + 1, 0, none⟩ (.int .i64 ((pre.length : Int) + 1))) := (Below.refl _ W).setCell (p := ⟨w2.heap.size + 1, 0, none⟩) (by show w.heap.size ≤ w2.heap.size + 1; omega) _
        have H1 := Aside0.mk (((grownBy_setCell' W (w2.heap.size + 1) (.int .i64 ((pre.length : Int) + 1))).block w.heap.size (blk_lt h1) (fun e => by injection e; omega)).trans h1)
        have H2 := Aside0.mk (h2.other (B' := w2.heap.size + 1) (by omega) (.int .i64 ((pre.length : Int) + 1)))
        have H6 := Aside0.mk (h6.other (B' := w2.heap.size + 1) (by omega) (.int .i64 ((pre.length : Int) + 1)))
        have H5 := Aside0.mk (h5.other (B' := w2.heap.size + 1) (by omega) (.int .i64 ((pre.length : Int) + 1)))
        have HR := Aside0.mk (hR.set (B := w2.heap.size + 1) (by omega) (.int .i64 ((pre.length : Int) + 1)))
        have H8 := Aside0.mk (h8.set (.int .i64 ((pre.length : Int) + 1)))
        have H9 := Aside0.mk (h9.other (B' := w2.heap.size + 1) (by omega) (.int .i64 ((pre.length : Int) + 1)))
        have hc9s := H9.out.cell
        have HT := Aside0.mk (tab_low hg hT b1)
        have HB := Aside0.mk (hB.trans b1)
        have HK : Aside0 ((W.setCell ⟨w2.heap.size + 1, 0, none⟩ (.int .i64 ((pre.length : Int) + 1))).heap[w1.heap.size + 1]? = W.heap[w1.heap.size + 1]?) := ⟨(grownBy_setCell' W (w2.heap.size + 1) (.int .i64 ((pre.length : Int) + 1))).block _ h6.lt (fun e => by injection e; omega)⟩
        have HTT := Aside0.mk (fun ht : TabW W => tab_low hg ht b1)
        have HSZ := Aside0.mk b1.size
        have E2 : Aside0 (((pre ++ [x]).length : Int) = (pre.length : Int) + 1) := ⟨by simp⟩
        have hgt : decide (k < (pre.length : Int)) = false := decide_eq_false (by omega)
        have hgt2 : decide ((pre.length : Int) > k) = false := decide_eq_false (by omega)
        have hx := nth_at hpre
        have hlen := pre_len hpre
        have hin2 : pre.length < (pl a 0).length := (List.getElem?_eq_some_iff.1 hx).1
        obtain ⟨g, rfl, hgl, hcx⟩ := hR pre.length x hx
        obtain ⟨hge1, hge3, hin⟩ := in_row hin2
        obtain ⟨hw1, hw2, hw3⟩ := wr64s pre.length hlen
        have hxx : ((x : Int) != (x : Int)) = false := by simp
        clear h1 h2 h6 h5 h9 h8 hR hT hB b1 hpre hx hlen hin2 x1 x2 x6 x5 x8 x9 xr hT0 hB0 bl
        by_cases hek : (pre.length : Int) = k
        · have hq : ((pre.length : Int) == k) = true := by simp [hek]
          have hqd : decide ((pre.length : Int) = k) = true := decide_eq_true hek
          have HEK := Aside0.mk hek
          clear hek hle
          gi_wp2
          exact ⟨(KeepsOthers.setCell _ _ _).from _, ⟨rfl, by rw [E2.out, HEK.out]⟩, by have := H1.out; exact this, H2.out, H6.out, H5.out, HR.out, by rw [E2.out]; exact H8.out, H9.out, HT.out, HB.out⟩
        · have hq : ((pre.length : Int) == k) = false := by simp [hek]
          have hqd : decide ((pre.length : Int) = k) = false := decide_eq_false hek
          have HLE : Aside0 ((pre.length : Int) + 1 ≤ k) := ⟨step_le hle hek⟩
          clear hek hle
          gi_wp2
          exact ⟨(KeepsOthers.setCell _ _ _).from _, ⟨HK.out, HTT.out, HSZ.out⟩, by rw [E2.out]; exact HLE.out, by have := H1.out; exact this, H2.out, H6.out, H5.out, HR.out, by rw [E2.out]; exact H8.out, H9.out, HT.out, HB.out⟩
      case done =>
        rintro D W hD ⟨hle, h1, h2, h6, h5, hR, h8, h9, hT, hB⟩ hKD
        have hc8 := h8.cell
        have hc9 := h9.cell
        have hc5 := h5.cell
        have hnn : (((pl a 0).length : Int) != ((pl a 0).length : Int)) = false := by simp
        have H1 := Aside0.mk h1; have H2 := Aside0.mk h2; have H6 := Aside0.mk h6; have HT := Aside0.mk hT; have HB := Aside0.mk hB; have HK := Aside0.mk hKD
        have HDl : w.heap.size ≤ D := by omega
        clear h1 h2 h6 h5 hR h8 h9 hT hB hKD x1 x2 x6 x5 x8 x9 xr hT0 hB0 bl
        go_wp2
        exact ⟨_, D, rfl, rfl, HDl, HK.out, H1.out, H2.out, H6.out, HT.out, HB.out⟩
      case stop =>
        rintro D c pre W hD hpre ⟨⟨rfl, hln⟩, h1, h2, h6, h5, hR, h8, h9, hT, hB⟩ hKD
        have hl64 := pl_len a 0
        have hl2 := hpre.length_le
        rw [hln] at h8
        have hwk : wrap64 (k + 1) = k + 1 := by unfold wrap64; omega
        have hc8 := h8.cell
        have hc9 := h9.cell
        have hc5 := h5.cell
        have hne0 : (k + 1 != k + 1) = false := by simp
        have H1 := Aside0.mk h1; have H2 := Aside0.mk h2; have H6 := Aside0.mk h6; have HT := Aside0.mk hT; have HB := Aside0.mk hB; have HK := Aside0.mk hKD
        have HDl : w.heap.size ≤ D := by omega
        clear h1 h2 h6 h5 hR h8 h9 hT hB hKD x1 x2 x6 x5 x8 x9 xr hT0 hB0 bl hpre hln hl64 hl2
        by_cases heq : k + 1 = ((pl a 0).length : Int)
        · have hnn : (k + 1 != ((pl a 0).length : Int)) = false := by simp [heq]
          have hnd : decide (k + 1 = ((pl a 0).length : Int)) = true := decide_eq_true heq
          clear heq
          go_wp2
          exact ⟨_, D, rfl, rfl, HDl, HK.out, H1.out, H2.out, H6.out, HT.out, HB.out⟩
        · have hnn : (k + 1 != ((pl a 0).length : Int)) = true := by simp [heq]
          have hnd : decide (k + 1 = ((pl a 0).length : Int)) = false := decide_eq_false heq
          clear heq
          go_wp2
          exact ⟨_, D, rfl, rfl, HDl, HK.out, H1.out, H2.out, H6.out, HT.out, HB.out⟩
    · have hge : decide (0 ≤ k) = false := decide_eq_false hk0
      have hge2 : decide (k ≥ 0) = false := decide_eq_false hk0
      have Y1 := Aside0.mk h1; have Y2 := Aside0.mk h2; have Y6 := Aside0.mk h6; have YT := Aside0.mk hT; have YB := Aside0.mk hB
      have hcA : W0.cell? ⟨w.heap.size, 0, none⟩ = some (.int .u64 a) := (blk_cell h1 0).trans rfl
      clear h1 h2 h6 hT hB
      go_wp2_with (go_at_call 13; refine (provostref01_Places.calls 65 a 64 _ _ HPL.out).mono ?_; rintro e w2 ⟨v, rfl, hr2, hb2⟩; obtain ⟨S5, c5, rfl⟩ := Kd.R_slice hr2; have ho2 := Kd.own_of_R hr2; rw [List.length_map] at ho2; obtain ⟨n0, ho2⟩ : ∃ n0, w2.ownsRow n0 3 1 (.slice S5 (pl a 0).length c5) (pl a 0).length (encs (Value.int .i64) ((pl a 0).map (fun x : Nat => (x : Int)))) := ⟨_, ho2⟩; have XO := Aside0.mk ho2; have Z1 := Aside0.mk ((hb2.block _ (blk_lt Y1.out)).trans Y1.out); have Z2 := Aside0.mk (show Boxed w2 (w.heap.size + 1) 4 (.bool false) from (hb2.block _ Y2.out.lt).trans Y2.out); have Z6 := Aside0.mk (show Boxed w2 (w1.heap.size + 1) 26 (.int .u64 a) from (hb2.block _ Y6.out.lt).trans Y6.out); have ZT := Aside0.mk (tab_below YT.out hb2); have ZB := Aside0.mk (YB.out.trans (hb2.mono YB.out.size)); have hK2 : (((w2.alloc (.cells #[.slice S5 (pl a 0).length c5] 31)).alloc (.cells #[.int .i64 0] 3)).alloc (.cells #[.int .i64 (-1)] 3)).cell? ⟨w.heap.size, 3, none⟩ = some (.int .i64 k) := (blk_cell (blk_alloc (blk_alloc (blk_alloc Z1.out _) _) _) 3).trans rfl; clear hr2 ho2 hb2)
      have x1 := blk_alloc (blk_alloc (blk_alloc Z1.out (.cells #[.slice S5 (pl a 0).length c5] 31)) (.cells #[.int .i64 0] 3)) (.cells #[.int .i64 (-1)] 3)
      have x2 := ((Z2.out.alloc (.cells #[.slice S5 (pl a 0).length c5] 31)).alloc (.cells #[.int .i64 0] 3)).alloc (.cells #[.int .i64 (-1)] 3)
      have x6 := ((Z6.out.alloc (.cells #[.slice S5 (pl a 0).length c5] 31)).alloc (.cells #[.int .i64 0] 3)).alloc (.cells #[.int .i64 (-1)] 3)
      have x5 := ((Boxed.new w2 31 (.slice S5 (pl a 0).length c5)).alloc (.cells #[.int .i64 0] 3)).alloc (.cells #[.int .i64 (-1)] 3)
      have x8 := (Boxed.new (w2.alloc (.cells #[.slice S5 (pl a 0).length c5] 31)) 3 (.int .i64 0)).alloc (.cells #[.int .i64 (-1)] 3)
      have x9 := Boxed.new ((w2.alloc (.cells #[.slice S5 (pl a 0).length c5] 31)).alloc (.cells #[.int .i64 0] 3)) 3 (.int .i64 (-1))
      have bl : Below w2.heap.size w2 (((w2.alloc (.cells #[.slice S5 (pl a 0).length c5] 31)).alloc (.cells #[.int .i64 0] 3)).alloc (.cells #[.int .i64 (-1)] 3)) := (((Below.refl _ w2).alloc (Nat.le_refl _) _).alloc (by simp) _).alloc (by simp <;> omega) _
      have xr : RowAt a S5 w2.heap.size (((w2.alloc (.cells #[.slice S5 (pl a 0).length c5] 31)).alloc (.cells #[.int .i64 0] 3)).alloc (.cells #[.int .i64 (-1)] 3)) := fun j x hj => by
        obtain ⟨g, e, _, hc⟩ := row_at XO.out (i := j) (x := .int .i64 (x : Nat)) (by unfold encs; simp [hj])
        exact ⟨g, e, World.block_lt_of_cell? w2 _ hc, pw_cell_below bl hc⟩
      have hs0 : (((w2.alloc (.cells #[.slice S5 (pl a 0).length c5] 31)).alloc (.cells #[.int .i64 0] 3)).alloc (.cells #[.int .i64 (-1)] 3)).heap.size = w2.heap.size + 3 := by simp
      simp only [World.size_alloc] at x8 x9
      clear hK2
      generalize (((w2.alloc (.cells #[.slice S5 (pl a 0).length c5] 31)).alloc (.cells #[.int .i64 0] 3)).alloc (.cells #[.int .i64 (-1)] 3)) = W1 at *
      have hT0 := tab_below ZT.out bl
      have hB0 := ZB.out.trans (bl.mono ZB.out.size)
      have hsz := ZB.out.size
      have hl6 := Z6.out.lt
      have hl2 := Z2.out.lt
      refine wp_range (gf := 49) (lb := #[.pointer (some ⟨w1.heap.size + 1, 0, none⟩)]) rfl (enters_of Tryd.func49 (by kernel_rfl) rfl)
        (all64_told a ha (w1.heap.size + 1) W1 x6 hT0) (fun h k => h.trans k)
        (fun W l o o' hl h hc _ => KeptAt.put (tab_put hc) (by omega) h) (Below.refl _ _) (fun x vs W h => by rw [h]; rfl)
        (fun (pre : List Nat) W => W.heap[w.heap.size]? = some (.cells #[.int .u64 a, .int .u64 b, .int .i64 i, .int .i64 k] 24 (0, 0)) ∧ Boxed W (w.heap.size + 1) 4 (.bool false) ∧ Boxed W (w1.heap.size + 1) 26 (.int .u64 a) ∧ Boxed W w2.heap.size 31 (.slice S5 (pl a 0).length c5) ∧ RowAt a S5 w2.heap.size W ∧ Boxed W (w2.heap.size + 1) 3 (.int .i64 (pre.length : Int)) ∧ Boxed W (w2.heap.size + 1 + 1) 3 (.int .i64 (-1)) ∧ TabW W ∧ Below w.heap.size w W)
        (fun _ _ _ => False)
        (OwnFrom.and (own_blkF _ _ _ _) (OwnFrom.and (Own.from (boxed_own _ _ (fun _ => _)) _) (OwnFrom.and (Own.from (boxed_own _ _ (fun _ => _)) _) (OwnFrom.and (Own.from (boxed_own _ _ (fun _ => _)) _) (OwnFrom.and (own_rowF _ _ _ _) (OwnFrom.and (Own.from (boxed_own _ _ (fun (pre : List Nat) => _)) _) (OwnFrom.and (Own.from (boxed_own _ _ (fun _ => _)) _) (OwnFrom.and (own_tabF _) (ownFrom_below (Nat.le_refl _) (by omega))))))))))
        (fun _ _ _ _ _ hs _ _ => hs)
        ⟨x1, x2, x6, x5, xr, x8, x9, hT0, hB0⟩
        (fun x a' _ => a' = { tmps := #[.agg #[.int .u64 a, .int .u64 b, .int .i64 i, .int .i64 k], .pointer (some ⟨w.heap.size, 0, none⟩), .pointer (some ⟨w.heap.size + 1, 0, none⟩), .pointer (some ⟨w.heap.size + 1 + 1, 0, none⟩), .pointer (some ⟨w1.heap.size, 0, none⟩), .func (.func 49) #[] #[.pointer (some ⟨w1.heap.size + 1, 0, none⟩)], .int .i64 0, .pointer (some ⟨w2.heap.size, 0, none⟩), .pointer (some ⟨w2.heap.size + 1, 0, none⟩), .pointer (some ⟨w2.heap.size + 1 + 1, 0, none⟩), .int .i64 (x : Nat), .agg #[.int .u64 0], .pointer (some ⟨w.heap.size, 0, none⟩), .int .u64 a, .agg #[.int .u64 a], .agg #[.int .u64 a], .func (.func 49) #[] #[.pointer (some ⟨w1.heap.size + 1, 0, none⟩)], .func (.func 49) #[] #[.pointer (some ⟨w1.heap.size + 1, 0, none⟩)], .bool false, .int .i64 0, .bool true, undef, undef, .pointer (some ⟨w.heap.size, 0, none⟩), .int .u64 a, .slice S5 (pl a 0).length c5, .int .i64 0, .bool true, .bool true, .pointer (some ⟨w.heap.size, 3, none⟩), .int .i64 k, .bool false, .bool false, undef, undef, .func (.func 49) #[] #[.pointer (some ⟨w1.heap.size + 1, 0, none⟩)], .int .i64 (x : Nat), undef, undef, undef, undef, undef, undef, undef, undef, undef, undef, undef, undef, undef, undef, undef, undef, undef, undef, undef, undef, undef, undef, undef, undef, undef, undef, undef, undef, undef, undef, undef, undef, undef, undef, undef, undef, undef, undef, undef, undef, undef, undef], defers := [] })
        (fun _ _ _ _ _ _ hs _ _ => hs) ?assign ?body ?done ?stop
      case assign =>
        rintro l pre x vs W K hI rfl hK
        gi_wp2
        exact hK _ _ (KeepsFrom.refl _ _) (KeptAt.refl _ _ _) hI rfl
      case body =>
        rintro l pre x a' W hl _ ⟨h1, h2, h6, h5, hR, h8, h9, hT, hB⟩ rfl hpre
        have hc8 := h8.cell
        have hf8 := h8.frozen
        have hc9 := h9.cell
        have hc5 := h5.cell
        have b1 : Below w.heap.size W (W.setCell ⟨w2.heap.size + 1, 0, none⟩ (.int .i64 ((pre.length : Int) + 1))) := (Below.refl _ W).setCell (p := ⟨w2.heap.size + 1, 0, none⟩) (by show w.heap.size ≤ w2.heap.size + 1; omega) _
        have H1 := Aside0.mk (((grownBy_setCell' W (w2.heap.size + 1) (.int .i64 ((pre.length : Int) + 1))).block w.heap.size (blk_lt h1) (fun e => by injection e; omega)).trans h1)
        have H2 := Aside0.mk (h2.other (B' := w2.heap.size + 1) (by omega) (.int .i64 ((pre.length : Int) + 1)))
        have H6 := Aside0.mk (h6.other (B' := w2.heap.size + 1) (by omega) (.int .i64 ((pre.length : Int) + 1)))
        have H5 := Aside0.mk (h5.other (B' := w2.heap.size + 1) (by omega) (.int .i64 ((pre.length : Int) + 1)))
        have HR := Aside0.mk (hR.set (B := w2.heap.size + 1) (by omega) (.int .i64 ((pre.length : Int) + 1)))
        have H8 := Aside0.mk (h8.set (.int .i64 ((pre.length : Int) + 1)))
        have H9 := Aside0.mk (h9.other (B' := w2.heap.size + 1) (by omega) (.int .i64 ((pre.length : Int) + 1)))
        have hc9s := H9.out.cell
        have HT := Aside0.mk (tab_low hg hT b1)
        have HB := Aside0.mk (hB.trans b1)
        have HK : Aside0 ((W.setCell ⟨w2.heap.size + 1, 0, none⟩ (.int .i64 ((pre.length : Int) + 1))).heap[w1.heap.size + 1]? = W.heap[w1.heap.size + 1]?) := ⟨(grownBy_setCell' W (w2.heap.size + 1) (.int .i64 ((pre.length : Int) + 1))).block _ h6.lt (fun e => by injection e; omega)⟩
        have HTT := Aside0.mk (fun ht : TabW W => tab_low hg ht b1)
        have HSZ := Aside0.mk b1.size
        have E2 : Aside0 (((pre ++ [x]).length : Int) = (pre.length : Int) + 1) := ⟨by simp⟩
        have hx := nth_at hpre
        have hlen := pre_len hpre
        have hin2 : pre.length < (pl a 0).length := (List.getElem?_eq_some_iff.1 hx).1
        obtain ⟨g, rfl, hgl, hcx⟩ := hR pre.length x hx
        obtain ⟨hge1, hge3, hin⟩ := in_row hin2
        obtain ⟨hw1, hw2, hw3⟩ := wr64s pre.length hlen
        have hxx : ((x : Int) != (x : Int)) = false := by simp
        clear h1 h2 h6 h5 h9 h8 hR hT hB b1 hpre hx hlen hin2 x1 x2 x6 x5 x8 x9 xr hT0 hB0 bl
        obtain ⟨hq, hqd⟩ := ne_neg1 pre.length
        gi_wp2
        exact ⟨(KeepsOthers.setCell _ _ _).from _, ⟨HK.out, HTT.out, HSZ.out⟩, by have := H1.out; exact this, H2.out, H6.out, H5.out, HR.out, by rw [E2.out]; exact H8.out, H9.out, HT.out, HB.out⟩
      case done =>
        rintro D W hD ⟨h1, h2, h6, h5, hR, h8, h9, hT, hB⟩ hKD
        have hc8 := h8.cell
        have hc9 := h9.cell
        have hc5 := h5.cell
        have hnn : (((pl a 0).length : Int) != ((pl a 0).length : Int)) = false := by simp
        have H1 := Aside0.mk h1; have H2 := Aside0.mk h2; have H6 := Aside0.mk h6; have HT := Aside0.mk hT; have HB := Aside0.mk hB; have HK := Aside0.mk hKD
        have HDl : w.heap.size ≤ D := by omega
        clear h1 h2 h6 h5 hR h8 h9 hT hB hKD x1 x2 x6 x5 x8 x9 xr hT0 hB0 bl
        go_wp2
        exact ⟨_, D, rfl, rfl, HDl, HK.out, H1.out, H2.out, H6.out, HT.out, HB.out⟩
      case stop =>
        rintro D c pre W _ _ h _
        exact h.elim
  case two =>
    rintro A W ⟨T, D1, hTT, rfl, hD1, hK1, h1, h2, h6, hT, hB⟩
    clear hTT
    have Y1 := Aside0.mk h1; have Y2 := Aside0.mk h2; have Y6 := Aside0.mk h6; have YT := Aside0.mk hT; have YB := Aside0.mk hB; have KD1 := Aside0.mk hK1
    have hcA : W.cell? ⟨w.heap.size, 0, none⟩ = some (.int .u64 a) := (blk_cell h1 0).trans rfl
    clear h1 h2 h6 hT hB hK1
    go_wp2_with (go_at_call 13; refine (provostref01_Places.calls 65 a 64 _ _ HPL.out).mono ?_; rintro e w2 ⟨v, rfl, hr2, hb2⟩; obtain ⟨S5, c5, rfl⟩ := Kd.R_slice hr2; have ho2 := Kd.own_of_R hr2; rw [List.length_map] at ho2; obtain ⟨n0, ho2⟩ : ∃ n0, w2.ownsRow n0 3 1 (.slice S5 (pl a 0).length c5) (pl a 0).length (encs (Value.int .i64) ((pl a 0).map (fun x : Nat => (x : Int)))) := ⟨_, ho2⟩; have XO := Aside0.mk ho2; have Z1 := Aside0.mk ((hb2.block _ (blk_lt Y1.out)).trans Y1.out); have Z2 := Aside0.mk (show Boxed w2 (w.heap.size + 1) 4 (.bool false) from (hb2.block _ Y2.out.lt).trans Y2.out); have Z6 := Aside0.mk (show Boxed w2 (w1.heap.size + 1) 26 (.int .u64 a) from (hb2.block _ Y6.out.lt).trans Y6.out); have ZT := Aside0.mk (tab_below YT.out hb2); have ZB := Aside0.mk (YB.out.trans (hb2.mono YB.out.size)); have ZDD1 := Aside0.mk ((hb2.block _ (Array.getElem?_eq_some_iff.1 KD1.out).1).trans KD1.out); clear hr2 ho2 hb2)
    have x1 := blk_alloc (blk_alloc (blk_alloc Z1.out (.cells #[.slice S5 (pl a 0).length c5] 31)) (.cells #[.int .i64 0] 3)) (.cells #[.int .i64 (-1)] 3)
    have x2 := ((Z2.out.alloc (.cells #[.slice S5 (pl a 0).length c5] 31)).alloc (.cells #[.int .i64 0] 3)).alloc (.cells #[.int .i64 (-1)] 3)
    have x6 := ((Z6.out.alloc (.cells #[.slice S5 (pl a 0).length c5] 31)).alloc (.cells #[.int .i64 0] 3)).alloc (.cells #[.int .i64 (-1)] 3)
    have xd := blk_alloc (blk_alloc (blk_alloc ZDD1.out (.cells #[.slice S5 (pl a 0).length c5] 31)) (.cells #[.int .i64 0] 3)) (.cells #[.int .i64 (-1)] 3)
    have x5 := ((Boxed.new w2 31 (.slice S5 (pl a 0).length c5)).alloc (.cells #[.int .i64 0] 3)).alloc (.cells #[.int .i64 (-1)] 3)
    have x8 := (Boxed.new (w2.alloc (.cells #[.slice S5 (pl a 0).length c5] 31)) 3 (.int .i64 0)).alloc (.cells #[.int .i64 (-1)] 3)
    have x9 := Boxed.new ((w2.alloc (.cells #[.slice S5 (pl a 0).length c5] 31)).alloc (.cells #[.int .i64 0] 3)) 3 (.int .i64 (-1))
    have bl : Below w2.heap.size w2 (((w2.alloc (.cells #[.slice S5 (pl a 0).length c5] 31)).alloc (.cells #[.int .i64 0] 3)).alloc (.cells #[.int .i64 (-1)] 3)) := (((Below.refl _ w2).alloc (Nat.le_refl _) _).alloc (by simp) _).alloc (by simp <;> omega) _
    have xr : RowAt a S5 w2.heap.size (((w2.alloc (.cells #[.slice S5 (pl a 0).length c5] 31)).alloc (.cells #[.int .i64 0] 3)).alloc (.cells #[.int .i64 (-1)] 3)) := fun j x hj => by
      obtain ⟨g, e, _, hc⟩ := row_at XO.out (i := j) (x := .int .i64 (x : Nat)) (by unfold encs; simp [hj])
      exact ⟨g, e, World.block_lt_of_cell? w2 _ hc, pw_cell_below bl hc⟩
    have hs0 : (((w2.alloc (.cells #[.slice S5 (pl a 0).length c5] 31)).alloc (.cells #[.int .i64 0] 3)).alloc (.cells #[.int .i64 (-1)] 3)).heap.size = w2.heap.size + 3 := by simp
    simp only [World.size_alloc] at x8 x9
    generalize (((w2.alloc (.cells #[.slice S5 (pl a 0).length c5] 31)).alloc (.cells #[.int .i64 0] 3)).alloc (.cells #[.int .i64 (-1)] 3)) = W1 at *
    have hT0 := tab_below ZT.out bl
    have hB0 := ZB.out.trans (bl.mono ZB.out.size)
    have hsz := ZB.out.size
    have hl6 := Z6.out.lt
    have hl2 := Z2.out.lt
    have hlD := (Array.getElem?_eq_some_iff.1 ZDD1.out).1
    refine wp_range (gf := 49) (lb := #[.pointer (some ⟨w1.heap.size + 1, 0, none⟩)]) rfl (enters_of Tryd.func49 (by kernel_rfl) rfl)
      (all64_told a ha (w1.heap.size + 1) W1 x6 hT0) (fun h k => h.trans k)
      (fun W l o o' hl h hc _ => KeptAt.put (tab_put hc) (by omega) h) (Below.refl _ _) (fun x vs W h => by rw [h]; rfl)
      (fun (pre : List Nat) W => W.heap[w.heap.size]? = some (.cells #[.int .u64 a, .int .u64 b, .int .i64 i, .int .i64 k] 24 (0, 0)) ∧ Boxed W (w.heap.size + 1) 4 (.bool false) ∧ Boxed W (w1.heap.size + 1) 26 (.int .u64 a) ∧ Boxed W w2.heap.size 31 (.slice S5 (pl a 0).length c5) ∧ RowAt a S5 w2.heap.size W ∧ Boxed W (w2.heap.size + 1) 3 (.int .i64 (pre.length : Int)) ∧ Boxed W (w2.heap.size + 1 + 1) 3 (.int .i64 (-1)) ∧ TabW W ∧ Below w.heap.size w W ∧ W.heap[D1]? = some (.deferred (some [])))
      (fun _ _ _ => False)
      (OwnFrom.and (own_blkF _ _ _ _) (OwnFrom.and (Own.from (boxed_own _ _ (fun _ => _)) _) (OwnFrom.and (Own.from (boxed_own _ _ (fun _ => _)) _) (OwnFrom.and (Own.from (boxed_own _ _ (fun _ => _)) _) (OwnFrom.and (own_rowF _ _ _ _) (OwnFrom.and (Own.from (boxed_own _ _ (fun (pre : List Nat) => _)) _) (OwnFrom.and (Own.from (boxed_own _ _ (fun _ => _)) _) (OwnFrom.and (own_tabF _) (OwnFrom.and (ownFrom_below (Nat.le_refl _) (by omega)) (own_objF _ _ _ (by omega)))))))))))
      (fun _ _ _ _ _ hs _ _ => hs)
      ⟨x1, x2, x6, x5, xr, x8, x9, hT0, hB0, xd⟩
      (fun x a' _ => a' = { tmps := #[.agg #[.int .u64 a, .int .u64 b, .int .i64 i, .int .i64 k], .pointer (some ⟨w.heap.size, 0, none⟩), .pointer (some ⟨w.heap.size + 1, 0, none⟩), .pointer (some ⟨w.heap.size + 1 + 1, 0, none⟩), .pointer (some ⟨w1.heap.size, 0, none⟩), .func (.func 49) #[] #[.pointer (some ⟨w1.heap.size + 1, 0, none⟩)], .int .i64 1, .pointer (some ⟨w2.heap.size, 0, none⟩), .pointer (some ⟨w2.heap.size + 1, 0, none⟩), .pointer (some ⟨w2.heap.size + 1 + 1, 0, none⟩), .int .i64 (x : Nat), .agg #[.int .u64 0], .pointer (some ⟨w.heap.size, 0, none⟩), .int .u64 a, .agg #[.int .u64 a], .agg #[.int .u64 a], .func (.func 49) #[] #[.pointer (some ⟨w1.heap.size + 1, 0, none⟩)], .func (.func 49) #[] #[.pointer (some ⟨w1.heap.size + 1, 0, none⟩)], .bool false, .int .i64 1, .bool true, T 21, T 22, .pointer (some ⟨w.heap.size, 0, none⟩), .int .u64 a, .slice S5 (pl a 0).length c5, .int .i64 1, .bool false, .bool false, undef, undef, undef, .bool false, T 33, T 34, .func (.func 49) #[] #[.pointer (some ⟨w1.heap.size + 1, 0, none⟩)], .int .i64 (x : Nat), T 37, T 38, T 39, T 40, T 41, T 42, T 43, T 44, T 45, T 46, T 47, T 48, T 49, T 50, T 51, T 52, T 53, T 54, T 55, T 56, T 57, T 58, T 59, T 60, T 61, T 62, T 63, T 64, T 65, T 66, T 67, T 68, T 69, T 70, T 71, T 72, T 73, T 74, T 75, T 76, T 77, T 78], defers := [] })
      (fun _ _ _ _ _ _ hs _ _ => hs) ?assign ?body ?done ?stop
    case assign =>
      rintro l pre x vs W K hI rfl hK
      gi_wp2
      exact hK _ _ (KeepsFrom.refl _ _) (KeptAt.refl _ _ _) hI rfl
    case body =>
      rintro l pre x a' W hl _ ⟨h1, h2, h6, h5, hR, h8, h9, hT, hB, hd⟩ rfl hpre
      have hc8 := h8.cell
      have hf8 := h8.frozen
      have hc9 := h9.cell
      have hc5 := h5.cell
      have b1 : Below w.heap.size W (W.setCell ⟨w2.heap.size + 1, 0, none⟩ (.int .i64 ((pre.length : Int) + 1))) := (Below.refl _ W).setCell (p := ⟨w2.heap.size + 1, 0, none⟩) (by show w.heap.size ≤ w2.heap.size + 1; omega) _
      have H1 := Aside0.mk (((grownBy_setCell' W (w2.heap.size + 1) (.int .i64 ((pre.length : Int) + 1))).block w.heap.size (blk_lt h1) (fun e => by injection e; omega)).trans h1)
      have H2 := Aside0.mk (h2.other (B' := w2.heap.size + 1) (by omega) (.int .i64 ((pre.length : Int) + 1)))
      have H6 := Aside0.mk (h6.other (B' := w2.heap.size + 1) (by omega) (.int .i64 ((pre.length : Int) + 1)))
      have H5 := Aside0.mk (h5.other (B' := w2.heap.size + 1) (by omega) (.int .i64 ((pre.length : Int) + 1)))
      have HR := Aside0.mk (hR.set (B := w2.heap.size + 1) (by omega) (.int .i64 ((pre.length : Int) + 1)))
      have H8 := Aside0.mk (h8.set (.int .i64 ((pre.length : Int) + 1)))
      have H9 := Aside0.mk (h9.other (B' := w2.heap.size + 1) (by omega) (.int .i64 ((pre.length : Int) + 1)))
      have hc9s := H9.out.cell
      have HT := Aside0.mk (tab_low hg hT b1)
      have HB := Aside0.mk (hB.trans b1)
      have HK : Aside0 ((W.setCell ⟨w2.heap.size + 1, 0, none⟩ (.int .i64 ((pre.length : Int) + 1))).heap[w1.heap.size + 1]? = W.heap[w1.heap.size + 1]?) := ⟨(grownBy_setCell' W (w2.heap.size + 1) (.int .i64 ((pre.length : Int) + 1))).block _ h6.lt (fun e => by injection e; omega)⟩
      have HTT := Aside0.mk (fun ht : TabW W => tab_low hg ht b1)
      have HSZ := Aside0.mk b1.size
      have HD := Aside0.mk (((grownBy_setCell' W (w2.heap.size + 1) (.int .i64 ((pre.length : Int) + 1))).block D1 (Array.getElem?_eq_some_iff.1 hd).1 (fun e => by injection e; omega)).trans hd)
      have E2 : Aside0 (((pre ++ [x]).length : Int) = (pre.length : Int) + 1) := ⟨by simp⟩
      have hx := nth_at hpre
      have hlen := pre_len hpre
      have hin2 : pre.length < (pl a 0).length := (List.getElem?_eq_some_iff.1 hx).1
      obtain ⟨g, rfl, hgl, hcx⟩ := hR pre.length x hx
      obtain ⟨hge1, hge3, hin⟩ := in_row hin2
      obtain ⟨hw1, hw2, hw3⟩ := wr64s pre.length hlen
      have hxx : ((x : Int) != (x : Int)) = false := by simp
      clear h1 h2 h6 h5 h9 h8 hR hT hB b1 hpre hx hlen hin2 x1 x2 x6 x5 x8 x9 xr hT0 hB0 bl hd xd
      obtain ⟨hq, hqd⟩ := ne_neg1 pre.length
      gi_wp2
      exact ⟨(KeepsOthers.setCell _ _ _).from _, ⟨HK.out, HTT.out, HSZ.out⟩, by have := H1.out; exact this, H2.out, H6.out, H5.out, HR.out, by rw [E2.out]; exact H8.out, H9.out, HT.out, HB.out, HD.out⟩
    case done =>
      rintro D W hD ⟨h1, h2, h6, h5, hR, h8, h9, hT, hB, hd⟩ hKD
      have hc8 := h8.cell
      have hc9 := h9.cell
      have hc5 := h5.cell
      have hnn : (((pl a 0).length : Int) != ((pl a 0).length : Int)) = false := by simp
      have H1 := Aside0.mk h1; have H2 := Aside0.mk h2; have H6 := Aside0.mk h6; have HT := Aside0.mk hT; have HB := Aside0.mk hB; have HK := Aside0.mk hKD; have H_D := Aside0.mk hd
      have HDl : w.heap.size ≤ D := by omega
      clear h1 h2 h6 h5 hR h8 h9 hT hB hKD x1 x2 x6 x5 x8 x9 xr hT0 hB0 bl hd xd
      go_wp2
      exact ⟨_, D1, D, rfl, rfl, by omega, H_D.out, HDl, HK.out, by omega, H1.out, H2.out, H6.out, HT.out, HB.out⟩
    case stop =>
      rintro D c pre W _ _ h _
      exact h.elim
  case three =>
    rintro A W ⟨T, D1, D2, hTT, rfl, hD1, hK1, hD2, hK2, hne, h1, h2, h6, hT, hB⟩
    have HTd := Aside0.mk hT
    have H2 := Aside0.mk h2
    have HBd := Aside0.mk hB
    have HK1 := Aside0.mk hK1
    have HK2 := Aside0.mk hK2
    clear h1 h2 h6 hT hB hK1 hK2 hTT x1 x2 x6 bl hT0 hB0
    go_wp2_with (go_at_call 14; refine (provostlaw01_wakes.calls true _ HW.out HTd).mono ?_; rintro e W4 ⟨rfl, hb4⟩; have h2w : Boxed W4 (w.heap.size + 1) 4 (.bool false) := (hb4.block _ H2.out.lt).trans H2.out; have hc2 := h2w.cell; have hf2 := h2w.frozen)
    have k1 := (KeepsOthers.setCell W4 ⟨w.heap.size + 1, 0, none⟩ (.bool true)).same D1 _ ((hb4.block D1 (Array.getElem?_eq_some_iff.1 HK1.out).1).trans HK1.out) rfl
    have k2 := (KeepsOthers.setCell W4 ⟨w.heap.size + 1, 0, none⟩ (.bool true)).same D2 _ ((hb4.block D2 (Array.getElem?_eq_some_iff.1 HK2.out).1).trans HK2.out) rfl
    have k3 := (World.putObj_heap_other (o := .deferred none) hne).trans k1
    refine ⟨by simp, .inl ⟨_, _, rfl, run_takeDeferred k2, ⟨by simp, .inl ⟨_, _, rfl, run_takeDeferred k3, ?_⟩⟩⟩⟩
    have c1 := cell_kept (h2w.set (.bool true)).cell (grownBy_putObj' _ D2 (.deferred none)) (fun r e => by cases e; exact ⟨_, k2, rfl⟩)
    have hcr := cell_kept c1 (grownBy_putObj' _ D1 (.deferred none)) (fun r e => by cases e; exact ⟨_, k3, rfl⟩)
    have hbf := (HBd.out.trans (hb4.mono HBd.out.size)).setCell (p := ⟨w.heap.size + 1, 0, none⟩) (by show w.heap.size ≤ w.heap.size + 1; omega) (.bool true)
    have hbg := hbf.trans (belowK_b (w := w) (Nat.le_refl _) _ D2 _ (.deferred none) (by omega) k2 rfl rfl)
    refine ⟨.bool true, ?_, rfl, hbg.trans (belowK_b (w := w) (Nat.le_refl _) _ D1 _ (.deferred none) (by omega) k3 rfl rfl)⟩
    simp [results, Tryd.f3, go_sem, hcr]
end


end Go.Proofs.YtfgmapnanaahaaaDoor.PBall
