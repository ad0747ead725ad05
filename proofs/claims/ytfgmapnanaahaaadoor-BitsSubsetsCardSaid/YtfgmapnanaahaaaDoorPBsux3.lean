/- A text written by my program wip/gen/p2.py out of the translation and of my foreign texts; not trusted: Lean checks it. -/
import Derived.Test.YtfgmapnanaahaaaDoorPBsux0
import Derived.Test.YtfgmapnanaahaaaDoorPBsux1
import Derived.Test.YtfgmapnanaahaaaDoorPBsux2
namespace Go.Proofs.YtfgmapnanaahaaaDoor.PBsu
open Go.RowKit Go.Proofs.YtfgmapnanaahaaaDoorW.PrintWords Go.Proofs.YtfgmapnanaahaaaDoorW.PrintLast Go.Proofs.YtfgmapnanaahaaaDoorW.PrintMore
attribute [local go_sem] max2_int min2_int max_two min_two max_three min_three max_four min_four   -- for this text's walks alone
set_option linter.unusedVariables false
set_option linter.unusedSimpArgs false

/-! ### provostlaw01_BitsSubsets: function 5 -/
section
open Go Go.Lib Go.Proofs.YtfgmapnanaahaaaDoorW.Rng Go.Proofs.YtfgmapnanaahaaaDoorW.BitsM Go.Proofs.YtfgmapnanaahaaaDoorW.Tab
attribute [local go_sem] Oper.semAt_some
theorem fn_nilInS (d t : Nat) (f : Fn) (a c : Array Value) (w : World) {S R V} (h : Tryd.prog.underlying t = some (.func S R V)) : (Op.equalIn (d + 1) t (.func f a c) .nilFunc).run Tryd.prog w = .ok false w := by
  simp [Op.equalIn, run_underlying h]
@[local go_sem] theorem fn_nilS (f : Fn) (a c : Array Value) (w : World) : (binOp .eql 45 (.func f a c) .nilFunc).run Tryd.prog w = .ok (.bool false) w := by
  have e : (Op.equal 45 (.func f a c) .nilFunc).run Tryd.prog w = .ok false w := fn_nilInS 9999 _ f a c w Tryd.underlying45
  simp only [binOp]
  simp [e]
theorem own_blkF {β : Type} (B b : Nat) (cs : Array Value) (t : TypeId) : OwnFrom B (fun (_ : β) W => W.heap[b]? = some (.cells cs t (0, 0))) := fun _ W W' row hs hg hr => by
  refine (hg.block b (Array.getElem?_eq_some_iff.1 hs).1 (fun e => ?_)).trans hs
  obtain ⟨_, o, ho, hw⟩ := hr b e.symm
  rw [hs] at ho
  injection ho with ho
  subst ho
  cases hw
theorem own_tabF {β : Type} (B : Nat) : OwnFrom B (fun (_ : β) W => TabW W) := fun _ W W' row hs hg hr => by
  have hlt := tab_lt hs
  intro j hj
  have h0 := hs j hj
  have hb : W'.heap[0]? = W.heap[0]? := by
    refine hg.block _ hlt (fun e => ?_)
    obtain ⟨_, o, ho, hw⟩ := hr _ e.symm
    simp only [World.cell?, ho] at h0
    cases o <;> simp_all [Obj.isCells]
  simp only [World.cell?] at h0 ⊢
  rw [hb]
  exact h0
/-- the last that was told -/
def subsLast (pre : List Nat) : Nat := pre.getLast?.getD 0
theorem subsLast_snoc (pre : List Nat) (x : Nat) : subsLast (pre ++ [x]) = x := by unfold subsLast; simp
/-- a subset has nothing beside -/
theorem subs_of {a x : Nat} (ha : a < 18446744073709551616) (h : x &&& a = x) : bits_Set_uint64_Sub.f (x : Int) (a : Int) = some true := by
  have hx := subs_le h
  unfold bits_Set_uint64_Sub.f
  rw [u64_andNot_nat x a (by omega) ha]
  have e : x &&& (18446744073709551615 - a) = 0 := by
    apply Nat.eq_of_testBit_eq
    intro j
    have e : (18446744073709551615 - a) = 2 ^ 64 - (a + 1) := by
      have : (2 : Nat) ^ 64 = 18446744073709551616 := rfl
      omega
    rw [Nat.testBit_and, e, Nat.testBit_two_pow_sub_succ (show a < 2 ^ 64 from ha), Nat.zero_testBit]
    have hb := congrArg (fun z => Nat.testBit z j) h
    simp only [Nat.testBit_and] at hb
    cases hX : x.testBit j with
    | false => rfl
    | true =>
      rw [hX, Bool.true_and] at hb
      rw [hb]; simp
  rw [e]
  rfl
/-- what stands while the law runs -/
def SuSit (w0 : World) (g : Nat) (a : Nat) (b i k : Int) (n : Int) (last : Nat) (W : World) : Prop :=
  W.heap[w0.heap.size]? = some (.cells #[.int .u64 a, .int .u64 b, .int .i64 i, .int .i64 k] 24 (0, 0)) ∧ Boxed W (w0.heap.size + 1) 4 (.bool false) ∧ Boxed W g 26 (.int .u64 a) ∧ Boxed W (g + 1) 26 (.int .u64 a) ∧
  Boxed W (g + 1 + 1) 3 (.int .i64 n) ∧ Boxed W (g + 1 + 1 + 1) 22 (.int .u64 last) ∧ TabW W ∧ Below w0.heap.size w0 W ∧ w0.heap.size + 1 < g ∧ 0 < w0.heap.size
section
variable {w0 : World} {g a : Nat} {b i k n : Int} {last : Nat} {W W' : World}
theorem SuSit.below (h : SuSit w0 g a b i k n last W) (hw : Below W.heap.size W W') : SuSit w0 g a b i k n last W' := by
  obtain ⟨h1, h2, h3, h4, h5, h6, hT, hB, hg, ht⟩ := h
  exact ⟨(hw.block _ (blk_lt h1)).trans h1, (hw.block _ h2.lt).trans h2, (hw.block _ h3.lt).trans h3, (hw.block _ h4.lt).trans h4, (hw.block _ h5.lt).trans h5, (hw.block _ h6.lt).trans h6, tab_below hT hw, hB.trans (hw.mono hB.size), hg, ht⟩
theorem SuSit.drew (h : SuSit w0 g a b i k n last W) : SuSit w0 g a b i k n last W.drew := ⟨h.1, h.2.1, h.2.2.1, h.2.2.2.1, h.2.2.2.2.1, h.2.2.2.2.2.1, h.2.2.2.2.2.2.1, below_drew h.2.2.2.2.2.2.2.1, h.2.2.2.2.2.2.2.2.1, h.2.2.2.2.2.2.2.2.2⟩
theorem SuSit.own {B : Nat} (hB : w0.heap.size ≤ B) (n : List Nat → Int) (l : List Nat → Nat) : OwnFrom B (fun pre W => SuSit w0 g a b i k (n pre) (l pre) W) :=
  OwnFrom.and (own_blkF _ _ _ _) (OwnFrom.and (Own.from (boxed_own _ _ (fun _ => _)) _) (OwnFrom.and (Own.from (boxed_own _ _ (fun _ => _)) _) (OwnFrom.and (Own.from (boxed_own _ _ (fun _ => _)) _) (OwnFrom.and (Own.from (boxed_own _ _ (fun pre => _)) _) (OwnFrom.and (Own.from (boxed_own _ _ (fun pre => _)) _) (OwnFrom.and (own_tabF _) (OwnFrom.and (ownFrom_below (Nat.le_refl _) hB) (OwnFrom.and (ownFrom_pure _ _) (ownFrom_pure _ _)))))))))
theorem SuSit.setn (h : SuSit w0 g a b i k n last W) (m : Int) : SuSit w0 g a b i k m last (W.setCell ⟨g + 1 + 1, 0, none⟩ (.int .i64 m)) := by
  obtain ⟨h1, h2, h3, h4, h5, h6, hT, hB, hg, ht⟩ := h
  have b1 : Below w0.heap.size W (W.setCell ⟨g + 1 + 1, 0, none⟩ (.int .i64 m)) := (Below.refl _ W).setCell (p := ⟨g + 1 + 1, 0, none⟩) (by show w0.heap.size ≤ g + 1 + 1; omega) _
  exact ⟨((grownBy_setCell' W _ _).block _ (blk_lt h1) (fun e => by injection e; omega)).trans h1, h2.other (by omega) _, h3.other (by omega) _, h4.other (by omega) _, h5.set _, h6.other (by omega) _, tab_low ht hT b1, hB.trans b1, hg, ht⟩
theorem SuSit.setl (h : SuSit w0 g a b i k n last W) (x : Nat) : SuSit w0 g a b i k n x (W.setCell ⟨g + 1 + 1 + 1, 0, none⟩ (.int .u64 x)) := by
  obtain ⟨h1, h2, h3, h4, h5, h6, hT, hB, hg, ht⟩ := h
  have b1 : Below w0.heap.size W (W.setCell ⟨g + 1 + 1 + 1, 0, none⟩ (.int .u64 x)) := (Below.refl _ W).setCell (p := ⟨g + 1 + 1 + 1, 0, none⟩) (by show w0.heap.size ≤ g + 1 + 1 + 1; omega) _
  exact ⟨((grownBy_setCell' W _ _).block _ (blk_lt h1) (fun e => by injection e; omega)).trans h1, h2.other (by omega) _, h3.other (by omega) _, h4.other (by omega) _, h5.other (by omega) _, h6.set _, tab_low ht hT b1, hB.trans b1, hg, ht⟩
theorem SuSit.cs (h : SuSit w0 g a b i k n last W) : W.cell? ⟨g, 0, none⟩ = some (.int .u64 a) := h.2.2.1.cell
theorem SuSit.cn (h : SuSit w0 g a b i k n last W) : W.cell? ⟨g + 1 + 1, 0, none⟩ = some (.int .i64 n) := h.2.2.2.2.1.cell
theorem SuSit.cl (h : SuSit w0 g a b i k n last W) : W.cell? ⟨g + 1 + 1 + 1, 0, none⟩ = some (.int .u64 last) := h.2.2.2.2.2.1.cell
theorem SuSit.fn (h : SuSit w0 g a b i k n last W) : W.frozen? ⟨g + 1 + 1, 0, none⟩ = false := h.2.2.2.2.1.frozen
theorem SuSit.fl (h : SuSit w0 g a b i k n last W) : W.frozen? ⟨g + 1 + 1 + 1, 0, none⟩ = false := h.2.2.2.2.2.1.frozen
theorem SuSit.ca (h : SuSit w0 g a b i k n last W) : W.cell? ⟨w0.heap.size, 0, none⟩ = some (.int .u64 a) := (blk_cell h.1 0).trans rfl
theorem SuSit.it (h : SuSit w0 g a b i k n last W) : W.heap[g + 1]? = some (.cells #[.int .u64 a] 26 (0, 0)) := h.2.2.2.1
theorem SuSit.tab (h : SuSit w0 g a b i k n last W) : TabW W := h.2.2.2.2.2.2.1
theorem SuSit.bel (h : SuSit w0 g a b i k n last W) : Below w0.heap.size w0 W := h.2.2.2.2.2.2.2.1
theorem SuSit.res (h : SuSit w0 g a b i k n last W) : Boxed W (w0.heap.size + 1) 4 (.bool false) := h.2.1
end
theorem subsCnt_pop : ∀ W a, subsCnt W a = popAux W a
  | 0, _ => rfl
  | W + 1, a => by rw [subsCnt, popAux, subsCnt_pop W]
/-- 'many' -/
def subsMany (n : Nat) : Nat := 2 ^ min n 11
def provostlaw01_BitsSubsets.T10 : Bool × List (List Nat × List Nat) := (true, [([], []), ([], []), ([0, 1], [0, 1]), ([2], [2]), ([3, 2], [3]), ([4], [4]), ([5, 4], [4, 5]), ([6, 4, 4], [4, 6]), ([7], [7]), ([8, 7, 7], [7, 8]), ([9, 7], [7, 9]), ([7, 10, 4], [4, 7, 10]), ([4, 11], [4, 11]), ([12, 9], [12]), ([13], [13]), ([14, 13], [13, 14]), ([15, 13, 13], [13, 15]), ([16], [16]), ([17, 16, 16], [16, 17]), ([16], [16]), ([18, 19, 16], [16, 18, 19]), ([16, 20, 13], [13, 16, 20]), ([13, 21], [13, 21])])
def provostlaw01_BitsSubsets.B10 : List Nat := [0, 0, 3, 7, 15, 31, 63, 127, 255, 511, 1023, 2047, 4095, 8191, 16383, 32767, 65535, 131071, 262143, 131071, 1048575, 2097151, 4194303]
theorem provostlaw01_BitsSubsets.tab10 : rtab .any (opsOf Tryd.f5 10) = provostlaw01_BitsSubsets.T10 := by kernel_rfl
theorem provostlaw01_BitsSubsets.bits10 : waitsOk provostlaw01_BitsSubsets.T10.2 provostlaw01_BitsSubsets.B10 = true := by kernel_rfl
set_option maxRecDepth 100000 in
set_option maxHeartbeats 8000000 in
theorem provostlaw01_BitsSubsets.walk (a : Nat) (ha : a < 18446744073709551616) (b i k : Int) (w : World) (hT : TabW w) :
    Calls Tryd.prog 5 #[.agg #[.int .u64 a, .int .u64 b, .int .i64 i, .int .i64 k]] w fun e W' => e = .returned (.bool true) ∧ Below w.heap.size w W' := by
  have HO := Aside0.mk (show bits_Set_uint64_Of.f 0 (a : Int) = some (a : Int) from rfl)
  have HW := Aside0.mk (show provostlaw01_wakes.f = some true from by decide +kernel)
  have htl := tab_lt hT
  have hTW := Aside0.mk hT
  clear hT
  refine calls_marks Tryd.func5 rfl ?_
  simp only [Tryd.ntmps5, List.size_toArray, List.length_cons, List.length_nil, Nat.reduceAdd, Nat.reduceSub, Array.replicate_succ, Array.replicate_zero, List.push_toArray, List.append_toArray, List.nil_append, List.cons_append]
  go_wp2_with (first | (go_at_call 11; refine (bits_Set_uint64_Of.calls 0 a a _ HO.out).mono ?_; rintro e w1 ⟨rfl, hb1⟩; have y1 : (((w.alloc (.cells #[.int .u64 a, .int .u64 b, .int .i64 i, .int .i64 k] 24)).alloc (.cells #[.bool false] 4)).alloc (.cells #[.int .u64 0] 26)).heap[w.heap.size]? = some (.cells #[.int .u64 a, .int .u64 b, .int .i64 i, .int .i64 k] 24) := blk_alloc (blk_alloc (World.alloc_heap_new w _) _) _; have y2 : Boxed (((w.alloc (.cells #[.int .u64 a, .int .u64 b, .int .i64 i, .int .i64 k] 24)).alloc (.cells #[.bool false] 4)).alloc (.cells #[.int .u64 0] 26)) (w.heap.size + 1) 4 (.bool false) := (by have := (Boxed.new (w.alloc (.cells #[.int .u64 a, .int .u64 b, .int .i64 i, .int .i64 k] 24)) 4 (.bool false)).alloc (.cells #[.int .u64 0] 26); rw [World.size_alloc] at this; exact this); have y3 : Below w.heap.size w (((w.alloc (.cells #[.int .u64 a, .int .u64 b, .int .i64 i, .int .i64 k] 24)).alloc (.cells #[.bool false] 4)).alloc (.cells #[.int .u64 0] 26)) := (((Below.refl _ w).alloc (Nat.le_refl _) _).alloc (by simp) _).alloc (by simp <;> omega) _; have X1 := Aside0.mk ((hb1.block _ (blk_lt y1)).trans y1); have X2 := Aside0.mk (show Boxed w1 (w.heap.size + 1) 4 (.bool false) from (hb1.block _ y2.lt).trans y2); have HT1 := Aside0.mk (tab_below hTW.out (y3.trans (hb1.mono y3.size))); have HB1 := Aside0.mk (y3.trans (hb1.mono y3.size)); clear y1 y2 y3 hb1 hTW) | (go_at_call 19; refine (subs64_made a _).mono ?_; rintro e w' ⟨rfl, rfl⟩))
  have hX2l := X2.out.lt
  have S0 : SuSit w w1.heap.size a b i k 0 0 ((((w1.alloc (.cells #[.int .u64 a] 26)).alloc (.cells #[.int .u64 a] 26)).alloc (.cells #[.int .i64 0] 3)).alloc (.cells #[.int .u64 0] 22)) := by
    refine ⟨blk_alloc (blk_alloc (blk_alloc (blk_alloc X1.out _) _) _) _, (((X2.out.alloc _).alloc _).alloc _).alloc _, (((Boxed.new w1 _ _).alloc _).alloc _).alloc _, ?_, ?_, ?_, tab_below HT1.out ?_, ((((HB1.out.alloc HB1.out.size _).alloc ?_ _).alloc ?_ _).alloc ?_ _), hX2l, htl⟩
    · have := ((Boxed.new (w1.alloc (.cells #[.int .u64 a] 26)) 26 (.int .u64 a)).alloc (.cells #[.int .i64 0] 3)).alloc (.cells #[.int .u64 0] 22)
      rw [World.size_alloc] at this; exact this
    · have := (Boxed.new ((w1.alloc (.cells #[.int .u64 a] 26)).alloc (.cells #[.int .u64 a] 26)) 3 (.int .i64 0)).alloc (.cells #[.int .u64 0] 22)
      rw [World.size_alloc, World.size_alloc] at this; exact this
    · have := Boxed.new (((w1.alloc (.cells #[.int .u64 a] 26)).alloc (.cells #[.int .u64 a] 26)).alloc (.cells #[.int .i64 0] 3)) 22 (.int .u64 0)
      rw [World.size_alloc, World.size_alloc, World.size_alloc] at this; exact this
    · exact ((((Below.refl _ w1).alloc (Nat.le_refl _) _).alloc (by simp) _).alloc (by simp <;> omega) _).alloc (by simp <;> omega) _
    all_goals (simp only [World.size_alloc]; omega)
  have hs0 : ((((w1.alloc (.cells #[.int .u64 a] 26)).alloc (.cells #[.int .u64 a] 26)).alloc (.cells #[.int .i64 0] 3)).alloc (.cells #[.int .u64 0] 22)).heap.size = w1.heap.size + 4 := by simp
  clear X1 X2 HT1 HB1
  generalize ((((w1.alloc (.cells #[.int .u64 a] 26)).alloc (.cells #[.int .u64 a] 26)).alloc (.cells #[.int .i64 0] 3)).alloc (.cells #[.int .u64 0] 22)) = W0 at *
  generalize w1.heap.size = g at *
  refine wp_range (gf := 60) (lb := #[.pointer (some ⟨g + 1, 0, none⟩)]) rfl (enters_of Tryd.func60 (by kernel_rfl) rfl)
    (subs64_told a ha (g + 1) W0 S0.it) (fun h k => h.trans k)
    (fun W l o o' hl h hc _ => KeptAt.put (tab_put hc) (by omega) h) (Below.refl _ _) (fun x vs W h => by rw [h]; rfl)
    (fun (pre : List Nat) W => (pre.length ≤ 1099) ∧ SuSit w g a b i k (pre.length : Int) (subsLast pre) W)
    (fun c (pre : List Nat) W => (c = .exit 0 ∧ pre.length = 1100) ∧ SuSit w g a b i k (pre.length : Int) (subsLast pre) W)
    (OwnFrom.and (ownFrom_pure _ _) (SuSit.own (by have := S0.2.2.2.2.2.2.2.2.1; omega) _ _)) (fun c => OwnFrom.and (ownFrom_pure _ _) (SuSit.own (by have := S0.2.2.2.2.2.2.2.2.1; omega) _ _))
    ⟨by simp, S0⟩
    (fun x a' W => ∃ g8, a' = { tmps := #[.agg #[.int .u64 a, .int .u64 b, .int .i64 i, .int .i64 k], .pointer (some ⟨w.heap.size, 0, none⟩), .pointer (some ⟨w.heap.size + 1, 0, none⟩), .pointer (some ⟨w.heap.size + 1 + 1, 0, none⟩), .pointer (some ⟨g, 0, none⟩), .func (.func 60) #[] #[.pointer (some ⟨g + 1, 0, none⟩)], .pointer (some ⟨g + 1 + 1, 0, none⟩), .pointer (some ⟨g + 1 + 1 + 1, 0, none⟩), .pointer (some ⟨g8, 0, none⟩), undef, undef, .agg #[.int .u64 0], .pointer (some ⟨w.heap.size, 0, none⟩), .int .u64 a, .agg #[.int .u64 a], .agg #[.int .u64 a], .func (.func 60) #[] #[.pointer (some ⟨g + 1, 0, none⟩)], .func (.func 60) #[] #[.pointer (some ⟨g + 1, 0, none⟩)], .bool false, .func (.func 60) #[] #[.pointer (some ⟨g + 1, 0, none⟩)], .agg #[.int .u64 (x : Nat)], undef, undef, undef, undef, undef, undef, undef, undef, undef, undef, undef, undef, undef, undef, undef, undef, undef, undef, undef, undef, undef, undef, undef, undef, undef, undef, undef, undef, undef, undef, undef, undef, undef, undef, undef, undef, undef, undef, undef, undef, undef, undef, undef, undef, undef, undef, undef, undef, undef, undef, undef, undef, undef, undef, undef, undef, undef, undef, undef, undef], defers := [] } ∧ Boxed W g8 26 (.int .u64 (x : Nat)))
    (fun x a' _ W W' row hs hg hr => by
      obtain ⟨g8, e, hb⟩ := hs
      exact ⟨g8, e, Own.from (boxed_own g8 _ (fun _ : Unit => _)) _ () W W' row hb hg hr⟩) ?assign ?body ?done ?stop
  case assign =>
    rintro l pre x vs W K ⟨hpl, hI⟩ rfl hK
    have hlt := hI.2.2.2.1.lt
    have hgb : g + 1 + 1 + 1 < W.heap.size := hI.2.2.2.2.2.1.lt
    have hbn : Below W.heap.size W (W.alloc (.cells #[.int .u64 (x : Nat)] 26)) := (Below.refl _ W).alloc (Nat.le_refl _) _
    gi_wp2
    exact hK _ _ (KeepsFrom.of_grownBy (grown_of_below hbn none) (fun r e => by cases e)) (KeptAt.of_below tab_below hlt hbn) ⟨hpl, hI.below hbn⟩ ⟨W.heap.size, rfl, Boxed.new _ _ _⟩
  case body =>
    rintro l pre x a' W hl _ ⟨hpl, hI⟩ ⟨g8, rfl, hb8⟩ hpre
    obtain ⟨hx1, hx2, hx3, hx4⟩ := subsL_pre ha (a + 1) 0 pre x (Nat.zero_and a) hpre
    have hxa := subs_le hx1
    have HSU := Aside0.mk (subs_of ha hx1)
    have HWO := Aside0.mk (show bits_Set_uint64_Word.f (x : Int) = some (x : Int) from rfl)
    have H8 := Aside0.mk hb8
    have HI := Aside0.mk hI
    clear hpre hb8
    by_cases hnil : pre = []
    · subst hnil
      obtain rfl : x = 0 := hx3 rfl
      have hI0 := Aside0.mk (show SuSit w g a b i k 0 0 W from hI)
      replace H8 := Aside0.mk (show Boxed W g8 26 (.int .u64 0) from H8.out)
      replace HSU := Aside0.mk (show bits_Set_uint64_Sub.f 0 (a : Int) = some true from HSU.out)
      replace HWO := Aside0.mk (show bits_Set_uint64_Word.f 0 = some 0 from rfl)
      clear hx1 hx2 hx3 hx4 hpl hI
      gi_wp2
      have hST := And.intro hI0.out.drew (And.intro (show Boxed W.drew g8 26 (.int .u64 0) from H8.out) (below_drew (Below.refl W.heap.size W)))
      refine start_in (n := 23) (S := fun w' => SuSit w g a b i k 0 0 w' ∧ Boxed w' g8 26 (.int .u64 0) ∧ Below W.heap.size W w') (ds := []) #[false, false, false, false, false, false, false, false, false, false, false, false, false, false, false, false, false, false, false, false, false, false, false] (by kernel_rfl) (fun _ _ h => h) (by kernel_rfl) rfl rfl hST (fun hHeld => ?_); refine with_tabW provostlaw01_BitsSubsets.tab10 provostlaw01_BitsSubsets.bits10 (fun HT_ HW_ => ?_)
      refine take_ (i := 0) (N := (some 21)) (v := ?_) (a' := ?_) #[true, false, false, false, false, false, false, false, false, false, false, false, false, false, false, false, false, false, false, false, false, false, false] rfl rfl (take_ofW HT_.out HW_.out (by kernel_rfl)) (fun _ _ _ h => h) (Or.inl ⟨by rfl, ?_⟩) hHeld ?_ ?_
      rotate_left
      · intro w' s0; have q1 := s0.1.cs; have q2 := s0.1.cn; have q3 := s0.1.cl; have q4 := s0.2.1.cell
        go_simp
        with_reducible rfl
      rotate_left
      · simp only [Act.put, List.setIfInBounds_toArray, List.set_cons_zero, List.set_cons_succ, i64_w, i32_w]
        rfl
      refine take_ (i := 1) (N := (some 22)) (v := ?_) (a' := ?_) #[true, true, false, false, false, false, false, false, false, false, false, false, false, false, false, false, false, false, false, false, false, false, false] rfl rfl (take_ofW HT_.out HW_.out (by kernel_rfl)) (fun _ _ _ h => h) (Or.inl ⟨by rfl, ?_⟩) hHeld ?_ ?_
      rotate_left
      · intro w' s0; have q1 := s0.1.cs; have q2 := s0.1.cn; have q3 := s0.1.cl; have q4 := s0.2.1.cell
        go_simp
        with_reducible rfl
      rotate_left
      · simp only [Act.put, List.setIfInBounds_toArray, List.set_cons_zero, List.set_cons_succ, i64_w, i32_w]
        rfl
      refine one_ (i := 2) (N := (some 23)) #[true, true, true, false, false, false, false, false, false, false, false, false, false, false, false, false, false, false, false, false, false, false, false] rfl rfl (one_of HT_.out (by kernel_rfl)) (by decide) (fun K hK => ?_)
      refine goes_ Tryd.func20 (by kernel_rfl) rfl #[.agg #[.int .u64 0], .agg #[.int .u64 a]] (by rfl) rfl rfl (by (try simp only [List.map_toArray, List.map_cons, List.map_nil]); first | done | rfl) ?_
      (with_reducible refine (bits_Set_uint64_Sub.calls 0 a true _ HSU.out).mono ?_)
      rintro e w2 ⟨rfl, hb2⟩
      refine ⟨_, rfl, ?_⟩
      have S2 := And.intro (hHeld.1.below hb2) (And.intro (show Boxed w2 g8 26 (.int .u64 0) from (hb2.block _ hHeld.2.1.lt).trans hHeld.2.1) (hHeld.2.2.trans (hb2.mono hHeld.2.2.size)))
      clear hb2
      refine hK.out _ _ (S2) (fun hHeld => ?_)
      clear hK K
      refine norm_ (a' := ?_) ?_ ?_
      rotate_left
      · show Act.put _ (some 23) _ = _
        simp only [Act.put, List.setIfInBounds_toArray, List.set_cons_zero, List.set_cons_succ, i64_w, i32_w]
        rfl
      refine pure_ (i := 3) (N := (some 24)) (v := ?_) (a' := ?_) #[true, true, true, true, false, false, false, false, false, false, false, false, false, false, false, false, false, false, false, false, false, false, false] rfl rfl (any_of HT_.out (by kernel_rfl)) (fun _ _ _ h => h) (Or.inl ⟨by rfl, ?_⟩) ?_ ?_
      rotate_left
      · intro w'
        go_simp
        with_reducible rfl
      rotate_left
      · simp only [Act.put, List.setIfInBounds_toArray, List.set_cons_zero, List.set_cons_succ, i64_w, i32_w]
        rfl
      refine pure_ (i := 4) (N := (some 25)) (v := ?_) (a' := ?_) #[true, true, true, true, true, false, false, false, false, false, false, false, false, false, false, false, false, false, false, false, false, false, false] rfl rfl (any_of HT_.out (by kernel_rfl)) (fun _ _ _ h => h) (Or.inl ⟨by rfl, ?_⟩) ?_ ?_
      rotate_left
      · intro w'
        go_simp
        with_reducible rfl
      rotate_left
      · simp only [Act.put, List.setIfInBounds_toArray, List.set_cons_zero, List.set_cons_succ, i64_w, i32_w]
        rfl
      refine take_ (i := 5) (N := (some 26)) (v := ?_) (a' := ?_) #[true, true, true, true, true, true, false, false, false, false, false, false, false, false, false, false, false, false, false, false, false, false, false] rfl rfl (take_ofW HT_.out HW_.out (by kernel_rfl)) (fun _ _ _ h => h) (Or.inl ⟨by rfl, ?_⟩) hHeld ?_ ?_
      rotate_left
      · intro w' s0; have q1 := s0.1.cs; have q2 := s0.1.cn; have q3 := s0.1.cl; have q4 := s0.2.1.cell
        go_simp
        with_reducible rfl
      rotate_left
      · simp only [Act.put, List.setIfInBounds_toArray, List.set_cons_zero, List.set_cons_succ, i64_w, i32_w]
        rfl
      refine pure_ (i := 6) (N := (some 27)) (v := ?_) (a' := ?_) #[true, true, true, true, true, true, true, false, false, false, false, false, false, false, false, false, false, false, false, false, false, false, false] rfl rfl (any_of HT_.out (by kernel_rfl)) (fun _ _ _ h => h) (Or.inl ⟨by rfl, ?_⟩) ?_ ?_
      rotate_left
      · intro w'
        go_simp
        with_reducible rfl
      rotate_left
      · simp only [Act.put, List.setIfInBounds_toArray, List.set_cons_zero, List.set_cons_succ, i64_w, i32_w]
        rfl
      refine pure_ (i := 7) (N := (some 28)) (v := ?_) (a' := ?_) #[true, true, true, true, true, true, true, true, false, false, false, false, false, false, false, false, false, false, false, false, false, false, false] rfl rfl (any_of HT_.out (by kernel_rfl)) (fun _ _ _ h => h) (Or.inl ⟨by rfl, ?_⟩) ?_ ?_
      rotate_left
      · intro w'
        go_simp
        with_reducible rfl
      rotate_left
      · simp only [Act.put, List.setIfInBounds_toArray, List.set_cons_zero, List.set_cons_succ, i64_w, i32_w]
        rfl
      refine take_ (i := 8) (N := (some 29)) (v := ?_) (a' := ?_) #[true, true, true, true, true, true, true, true, true, false, false, false, false, false, false, false, false, false, false, false, false, false, false] rfl rfl (take_ofW HT_.out HW_.out (by kernel_rfl)) (fun _ _ _ h => h) (Or.inl ⟨by rfl, ?_⟩) hHeld ?_ ?_
      rotate_left
      · intro w' s0; have q1 := s0.1.cs; have q2 := s0.1.cn; have q3 := s0.1.cl; have q4 := s0.2.1.cell
        go_simp
        with_reducible rfl
      rotate_left
      · simp only [Act.put, List.setIfInBounds_toArray, List.set_cons_zero, List.set_cons_succ, i64_w, i32_w]
        rfl
      refine one_ (i := 9) (N := (some 30)) #[true, true, true, true, true, true, true, true, true, true, false, false, false, false, false, false, false, false, false, false, false, false, false] rfl rfl (one_of HT_.out (by kernel_rfl)) (by decide) (fun K hK => ?_)
      refine goes_ Tryd.func21 (by kernel_rfl) rfl #[.agg #[.int .u64 0]] (by rfl) rfl rfl (by (try simp only [List.map_toArray, List.map_cons, List.map_nil]); first | done | rfl) ?_
      (with_reducible refine (bits_Set_uint64_Word.calls 0 0 _ HWO.out).mono ?_)
      rintro e w2 ⟨rfl, hb2⟩
      refine ⟨_, rfl, ?_⟩
      have S2 := And.intro (hHeld.1.below hb2) (And.intro (show Boxed w2 g8 26 (.int .u64 0) from (hb2.block _ hHeld.2.1.lt).trans hHeld.2.1) (hHeld.2.2.trans (hb2.mono hHeld.2.2.size)))
      clear hb2
      refine hK.out _ _ (S2) (fun hHeld => ?_)
      clear hK K
      refine norm_ (a' := ?_) ?_ ?_
      rotate_left
      · show Act.put _ (some 30) _ = _
        simp only [Act.put, List.setIfInBounds_toArray, List.set_cons_zero, List.set_cons_succ, i64_w, i32_w]
        rfl
      refine pure_ (i := 10) (N := (some 31)) (v := ?_) (a' := ?_) #[true, true, true, true, true, true, true, true, true, true, true, false, false, false, false, false, false, false, false, false, false, false, false] rfl rfl (any_of HT_.out (by kernel_rfl)) (fun _ _ _ h => h) (Or.inl ⟨by rfl, ?_⟩) ?_ ?_
      rotate_left
      · intro w'
        go_simp
        with_reducible rfl
      rotate_left
      · simp only [Act.put, List.setIfInBounds_toArray, List.set_cons_zero, List.set_cons_succ, i64_w, i32_w]
        rfl
      refine pure_ (i := 11) (N := (some 32)) (v := ?_) (a' := ?_) #[true, true, true, true, true, true, true, true, true, true, true, true, false, false, false, false, false, false, false, false, false, false, false] rfl rfl (any_of HT_.out (by kernel_rfl)) (fun _ _ _ h => h) (Or.inl ⟨by rfl, ?_⟩) ?_ ?_
      rotate_left
      · intro w'
        go_simp
        with_reducible rfl
      rotate_left
      · simp only [Act.put, List.setIfInBounds_toArray, List.set_cons_zero, List.set_cons_succ, i64_w, i32_w]
        rfl
      refine pure_ (i := 12) (N := (some 33)) (v := ?_) (a' := ?_) #[true, true, true, true, true, true, true, true, true, true, true, true, true, false, false, false, false, false, false, false, false, false, false] rfl rfl (any_of HT_.out (by kernel_rfl)) (fun _ _ _ h => h) (Or.inl ⟨by rfl, ?_⟩) ?_ ?_
      rotate_left
      · intro w'
        go_simp
        with_reducible rfl
      rotate_left
      · simp only [Act.put, List.setIfInBounds_toArray, List.set_cons_zero, List.set_cons_succ, i64_w, i32_w]
        rfl
      refine pure_ (i := 13) (N := (some 34)) (v := ?_) (a' := ?_) #[true, true, true, true, true, true, true, true, true, true, true, true, true, true, false, false, false, false, false, false, false, false, false] rfl rfl (any_of HT_.out (by kernel_rfl)) (fun _ _ _ h => h) (Or.inl ⟨by rfl, ?_⟩) ?_ ?_
      rotate_left
      · intro w'
        go_simp
        with_reducible rfl
      rotate_left
      · simp only [Act.put, List.setIfInBounds_toArray, List.set_cons_zero, List.set_cons_succ, i64_w, i32_w]
        rfl
      refine take_ (i := 14) (N := (some 35)) (v := ?_) (a' := ?_) #[true, true, true, true, true, true, true, true, true, true, true, true, true, true, true, false, false, false, false, false, false, false, false] rfl rfl (take_ofW HT_.out HW_.out (by kernel_rfl)) (fun _ _ _ h => h) (Or.inl ⟨by rfl, ?_⟩) hHeld ?_ ?_
      rotate_left
      · intro w' s0; have q1 := s0.1.cs; have q2 := s0.1.cn; have q3 := s0.1.cl; have q4 := s0.2.1.cell
        go_simp
        with_reducible rfl
      rotate_left
      · simp only [Act.put, List.setIfInBounds_toArray, List.set_cons_zero, List.set_cons_succ, i64_w, i32_w]
        rfl
      refine pure_ (i := 15) (N := (some 36)) (v := ?_) (a' := ?_) #[true, true, true, true, true, true, true, true, true, true, true, true, true, true, true, true, false, false, false, false, false, false, false] rfl rfl (any_of HT_.out (by kernel_rfl)) (fun _ _ _ h => h) (Or.inl ⟨by rfl, ?_⟩) ?_ ?_
      rotate_left
      · intro w'
        go_simp
        with_reducible rfl
      rotate_left
      · simp only [Act.put, List.setIfInBounds_toArray, List.set_cons_zero, List.set_cons_succ, i64_w, i32_w]
        rfl
      refine pure_ (i := 16) (N := (some 37)) (v := ?_) (a' := ?_) #[true, true, true, true, true, true, true, true, true, true, true, true, true, true, true, true, true, false, false, false, false, false, false] rfl rfl (any_of HT_.out (by kernel_rfl)) (fun _ _ _ h => h) (Or.inl ⟨by rfl, ?_⟩) ?_ ?_
      rotate_left
      · intro w'
        go_simp
        with_reducible rfl
      rotate_left
      · simp only [Act.put, List.setIfInBounds_toArray, List.set_cons_zero, List.set_cons_succ, i64_w, i32_w]
        rfl
      refine take_ (i := 17) (N := (some 38)) (v := undef) (a' := ?_) #[true, true, true, true, true, true, true, true, true, true, true, true, true, true, true, true, true, true, false, false, false, false, false] rfl rfl (take_ofW HT_.out HW_.out (by kernel_rfl)) (fun _ _ _ h => h) (Or.inr ⟨by rfl, rfl⟩) hHeld ?_ ?_
      rotate_left
      · show Act.put _ (some 38) _ = _
        simp only [Act.put, List.setIfInBounds_toArray, List.set_cons_zero, List.set_cons_succ, i64_w, i32_w]
        rfl
      refine take_ (i := 19) (N := (some 40)) (v := undef) (a' := ?_) #[true, true, true, true, true, true, true, true, true, true, true, true, true, true, true, true, true, true, false, true, false, false, false] rfl rfl (take_ofW HT_.out HW_.out (by kernel_rfl)) (fun _ _ _ h => h) (Or.inr ⟨by rfl, rfl⟩) hHeld ?_ ?_
      rotate_left
      · show Act.put _ (some 40) _ = _
        simp only [Act.put, List.setIfInBounds_toArray, List.set_cons_zero, List.set_cons_succ, i64_w, i32_w]
        rfl
      refine one_ (i := 18) (N := (some 39)) #[true, true, true, true, true, true, true, true, true, true, true, true, true, true, true, true, true, true, true, true, false, false, false] rfl rfl (one_of HT_.out (by kernel_rfl)) (by decide) (fun K hK => ?_)
      refine off_ (by rfl) ?_
      refine hK.out _ _ (hHeld) (fun hHeld => ?_)
      clear hK K
      refine norm_ (a' := ?_) ?_ ?_
      rotate_left
      · show Act.put _ (some 39) _ = _
        simp only [Act.put, List.setIfInBounds_toArray, List.set_cons_zero, List.set_cons_succ, i64_w, i32_w]
        rfl
      refine take_ (i := 20) (N := (some 41)) (v := undef) (a' := ?_) #[true, true, true, true, true, true, true, true, true, true, true, true, true, true, true, true, true, true, true, true, true, false, false] rfl rfl (take_ofW HT_.out HW_.out (by kernel_rfl)) (fun _ _ _ h => h) (Or.inr ⟨by rfl, rfl⟩) hHeld ?_ ?_
      rotate_left
      · show Act.put _ (some 41) _ = _
        simp only [Act.put, List.setIfInBounds_toArray, List.set_cons_zero, List.set_cons_succ, i64_w, i32_w]
        rfl
      refine pure_ (i := 21) (N := (some 42)) (v := ?_) (a' := ?_) #[true, true, true, true, true, true, true, true, true, true, true, true, true, true, true, true, true, true, true, true, true, true, false] rfl rfl (any_of HT_.out (by kernel_rfl)) (fun _ _ _ h => h) (Or.inl ⟨by rfl, ?_⟩) ?_ ?_
      rotate_left
      · intro w'
        go_simp
        with_reducible rfl
      rotate_left
      · simp only [Act.put, List.setIfInBounds_toArray, List.set_cons_zero, List.set_cons_succ, i64_w, i32_w]
        rfl
      refine pure_ (i := 22) (N := (some 43)) (v := ?_) (a' := ?_) #[true, true, true, true, true, true, true, true, true, true, true, true, true, true, true, true, true, true, true, true, true, true, true] rfl rfl (any_of HT_.out (by kernel_rfl)) (fun _ _ _ h => h) (Or.inl ⟨by rfl, ?_⟩) ?_ ?_
      rotate_left
      · intro w'
        go_simp
        with_reducible rfl
      rotate_left
      · simp only [Act.put, List.setIfInBounds_toArray, List.set_cons_zero, List.set_cons_succ, i64_w, i32_w]
        rfl
      refine done_ (done_of HT_.out (by kernel_rfl)) ?_
      obtain ⟨hS9, h89, hb9⟩ := hHeld
      have HS9 := Aside0.mk hS9; have HB9 := Aside0.mk hb9; have H89 := Aside0.mk h89; have q8 := h89.cell; clear hS9 hb9 h89 hST
      gi_wp2_with (refine ⟨trivial, ?_⟩; gi_at_call 21; refine (CallsIn.inRound l ((callsIn_wide (n := 6)).2 (bits_Set_uint64_Word.calls 0 0 _ HWO.out))).mono ?_; rintro e W5 ⟨rfl, hb5⟩; have S5 := HS9.out.below hb5; have B5 := HB9.out.trans (hb5.mono HB9.out.size); have q1 := S5.fl; have q0 := S5.cl; have S6 : SuSit w g a b i k 0 0 (W5.setCell ⟨g + 1 + 1 + 1, 0, none⟩ (.int .u64 0)) := S5.setl 0; have q2 := S6.cn; have q3 := S6.fn; have S7 := S6.setn 1; have q4 := S7.cn; have S7a := Aside0.mk S7; have B5a := Aside0.mk B5; clear S5 S6 S7 B5 hb5)
      exact ⟨(KeepsFrom.of_grownBy (grown_of_below B5a.out none) (fun r e => by cases e)).trans (((KeepsOthers.setCell _ _ _).from _).trans ((KeepsOthers.setCell _ _ _).from _)), ⟨S7a.out.it.trans HI.out.it.symm, fun _ => S7a.out.tab, by have := B5a.out.size; simp only [World.size_setCell]; exact this⟩, by simp, S7a.out⟩
    · obtain ⟨q, y, hqy⟩ : ∃ q y, pre = q ++ [y] := ⟨_, _, (List.dropLast_concat_getLast hnil).symm⟩
      have hyx := hx4 q y hqy
      have hly : subsLast pre = y := by rw [hqy, subsLast_snoc]
      rw [hly] at hI
      have HE : Aside0 (((pre ++ [x]).length : Int) = (pre.length : Int) + 1 ∧ (pre ++ [x]).length = pre.length + 1 ∧ subsLast (pre ++ [x]) = x) := ⟨by simp, by simp, subsLast_snoc _ _⟩
      have hn0 : 0 < pre.length := by rw [hqy]; simp
      obtain ⟨n, hn⟩ : ∃ n, pre.length = n := ⟨_, rfl⟩
      rw [hn] at hI hpl hn0 HE
      clear hx1 hx2 hx3 hx4 hqy hly
      have hI0 := Aside0.mk hI
      have hz : ((n : Int) == 0) = false := by simp; omega
      have hz2 : decide ((n : Int) = 0) = false := decide_eq_false (by omega)
      have hgt : decide ((n : Int) > 0) = true := decide_eq_true (by omega)
      have hgt2 : decide (0 < (n : Int)) = true := decide_eq_true (by omega)
      have hle : decide ((x : Int) ≤ (y : Int)) = false := decide_eq_false (by omega)
      have hgt3 : decide (0 < n) = true := decide_eq_true hn0
      have hle3 : decide (x ≤ y) = false := decide_eq_false (by omega)
      have hw : wrap64 ((n : Int) + 1) = (n : Int) + 1 := by unfold wrap64; omega
      have HN := Aside0.mk hn
      have HPL := Aside0.mk hpl
      clear hn hpl hn0 hyx hxa hI hnil
      gi_wp2
      have hST := And.intro hI0.out.drew (And.intro (show Boxed W.drew g8 26 (.int .u64 (x : Nat)) from H8.out) (below_drew (Below.refl W.heap.size W)))
      refine start_in (n := 23) (S := fun w' => SuSit w g a b i k (n : Int) y w' ∧ Boxed w' g8 26 (.int .u64 (x : Nat)) ∧ Below W.heap.size W w') (ds := []) #[false, false, false, false, false, false, false, false, false, false, false, false, false, false, false, false, false, false, false, false, false, false, false] (by kernel_rfl) (fun _ _ h => h) (by kernel_rfl) rfl rfl hST (fun hHeld => ?_); refine with_tabW provostlaw01_BitsSubsets.tab10 provostlaw01_BitsSubsets.bits10 (fun HT_ HW_ => ?_)
      refine take_ (i := 0) (N := (some 21)) (v := ?_) (a' := ?_) #[true, false, false, false, false, false, false, false, false, false, false, false, false, false, false, false, false, false, false, false, false, false, false] rfl rfl (take_ofW HT_.out HW_.out (by kernel_rfl)) (fun _ _ _ h => h) (Or.inl ⟨by rfl, ?_⟩) hHeld ?_ ?_
      rotate_left
      · intro w' s0; have q1 := s0.1.cs; have q2 := s0.1.cn; have q3 := s0.1.cl; have q4 := s0.2.1.cell
        go_simp
        with_reducible rfl
      rotate_left
      · simp only [Act.put, List.setIfInBounds_toArray, List.set_cons_zero, List.set_cons_succ, i64_w, i32_w]
        rfl
      refine take_ (i := 1) (N := (some 22)) (v := ?_) (a' := ?_) #[true, true, false, false, false, false, false, false, false, false, false, false, false, false, false, false, false, false, false, false, false, false, false] rfl rfl (take_ofW HT_.out HW_.out (by kernel_rfl)) (fun _ _ _ h => h) (Or.inl ⟨by rfl, ?_⟩) hHeld ?_ ?_
      rotate_left
      · intro w' s0; have q1 := s0.1.cs; have q2 := s0.1.cn; have q3 := s0.1.cl; have q4 := s0.2.1.cell
        go_simp
        with_reducible rfl
      rotate_left
      · simp only [Act.put, List.setIfInBounds_toArray, List.set_cons_zero, List.set_cons_succ, i64_w, i32_w]
        rfl
      refine one_ (i := 2) (N := (some 23)) #[true, true, true, false, false, false, false, false, false, false, false, false, false, false, false, false, false, false, false, false, false, false, false] rfl rfl (one_of HT_.out (by kernel_rfl)) (by decide) (fun K hK => ?_)
      refine goes_ Tryd.func20 (by kernel_rfl) rfl #[.agg #[.int .u64 (x : Nat)], .agg #[.int .u64 a]] (by rfl) rfl rfl (by (try simp only [List.map_toArray, List.map_cons, List.map_nil]); first | done | rfl) ?_
      (with_reducible refine (bits_Set_uint64_Sub.calls x a true _ HSU.out).mono ?_)
      rintro e w2 ⟨rfl, hb2⟩
      refine ⟨_, rfl, ?_⟩
      have S2 := And.intro (hHeld.1.below hb2) (And.intro (show Boxed w2 g8 26 (.int .u64 (x : Nat)) from (hb2.block _ hHeld.2.1.lt).trans hHeld.2.1) (hHeld.2.2.trans (hb2.mono hHeld.2.2.size)))
      clear hb2
      refine hK.out _ _ (S2) (fun hHeld => ?_)
      clear hK K
      refine norm_ (a' := ?_) ?_ ?_
      rotate_left
      · show Act.put _ (some 23) _ = _
        simp only [Act.put, List.setIfInBounds_toArray, List.set_cons_zero, List.set_cons_succ, i64_w, i32_w]
        rfl
      refine pure_ (i := 3) (N := (some 24)) (v := ?_) (a' := ?_) #[true, true, true, true, false, false, false, false, false, false, false, false, false, false, false, false, false, false, false, false, false, false, false] rfl rfl (any_of HT_.out (by kernel_rfl)) (fun _ _ _ h => h) (Or.inl ⟨by rfl, ?_⟩) ?_ ?_
      rotate_left
      · intro w'
        go_simp
        with_reducible rfl
      rotate_left
      · simp only [Act.put, List.setIfInBounds_toArray, List.set_cons_zero, List.set_cons_succ, i64_w, i32_w]
        rfl
      refine pure_ (i := 4) (N := (some 25)) (v := ?_) (a' := ?_) #[true, true, true, true, true, false, false, false, false, false, false, false, false, false, false, false, false, false, false, false, false, false, false] rfl rfl (any_of HT_.out (by kernel_rfl)) (fun _ _ _ h => h) (Or.inl ⟨by rfl, ?_⟩) ?_ ?_
      rotate_left
      · intro w'
        go_simp
        with_reducible rfl
      rotate_left
      · simp only [Act.put, List.setIfInBounds_toArray, List.set_cons_zero, List.set_cons_succ, i64_w, i32_w]
        rfl
      refine take_ (i := 5) (N := (some 26)) (v := ?_) (a' := ?_) #[true, true, true, true, true, true, false, false, false, false, false, false, false, false, false, false, false, false, false, false, false, false, false] rfl rfl (take_ofW HT_.out HW_.out (by kernel_rfl)) (fun _ _ _ h => h) (Or.inl ⟨by rfl, ?_⟩) hHeld ?_ ?_
      rotate_left
      · intro w' s0; have q1 := s0.1.cs; have q2 := s0.1.cn; have q3 := s0.1.cl; have q4 := s0.2.1.cell
        go_simp
        with_reducible rfl
      rotate_left
      · simp only [Act.put, List.setIfInBounds_toArray, List.set_cons_zero, List.set_cons_succ, i64_w, i32_w]
        rfl
      refine pure_ (i := 6) (N := (some 27)) (v := ?_) (a' := ?_) #[true, true, true, true, true, true, true, false, false, false, false, false, false, false, false, false, false, false, false, false, false, false, false] rfl rfl (any_of HT_.out (by kernel_rfl)) (fun _ _ _ h => h) (Or.inl ⟨by rfl, ?_⟩) ?_ ?_
      rotate_left
      · intro w'
        go_simp
        with_reducible rfl
      rotate_left
      · simp only [Act.put, List.setIfInBounds_toArray, List.set_cons_zero, List.set_cons_succ, i64_w, i32_w]
        rfl
      refine pure_ (i := 7) (N := (some 28)) (v := ?_) (a' := ?_) #[true, true, true, true, true, true, true, true, false, false, false, false, false, false, false, false, false, false, false, false, false, false, false] rfl rfl (any_of HT_.out (by kernel_rfl)) (fun _ _ _ h => h) (Or.inl ⟨by rfl, ?_⟩) ?_ ?_
      rotate_left
      · intro w'
        go_simp
        with_reducible rfl
      rotate_left
      · simp only [Act.put, List.setIfInBounds_toArray, List.set_cons_zero, List.set_cons_succ, i64_w, i32_w]
        rfl
      refine take_ (i := 8) (N := (some 29)) (v := undef) (a' := ?_) #[true, true, true, true, true, true, true, true, true, false, false, false, false, false, false, false, false, false, false, false, false, false, false] rfl rfl (take_ofW HT_.out HW_.out (by kernel_rfl)) (fun _ _ _ h => h) (Or.inr ⟨by rfl, rfl⟩) hHeld ?_ ?_
      rotate_left
      · show Act.put _ (some 29) _ = _
        simp only [Act.put, List.setIfInBounds_toArray, List.set_cons_zero, List.set_cons_succ, i64_w, i32_w]
        rfl
      refine one_ (i := 9) (N := (some 30)) #[true, true, true, true, true, true, true, true, true, true, false, false, false, false, false, false, false, false, false, false, false, false, false] rfl rfl (one_of HT_.out (by kernel_rfl)) (by decide) (fun K hK => ?_)
      refine off_ (by rfl) ?_
      refine hK.out _ _ (hHeld) (fun hHeld => ?_)
      clear hK K
      refine norm_ (a' := ?_) ?_ ?_
      rotate_left
      · show Act.put _ (some 30) _ = _
        simp only [Act.put, List.setIfInBounds_toArray, List.set_cons_zero, List.set_cons_succ, i64_w, i32_w]
        rfl
      refine take_ (i := 10) (N := (some 31)) (v := undef) (a' := ?_) #[true, true, true, true, true, true, true, true, true, true, true, false, false, false, false, false, false, false, false, false, false, false, false] rfl rfl (take_ofW HT_.out HW_.out (by kernel_rfl)) (fun _ _ _ h => h) (Or.inr ⟨by rfl, rfl⟩) hHeld ?_ ?_
      rotate_left
      · show Act.put _ (some 31) _ = _
        simp only [Act.put, List.setIfInBounds_toArray, List.set_cons_zero, List.set_cons_succ, i64_w, i32_w]
        rfl
      refine pure_ (i := 11) (N := (some 32)) (v := ?_) (a' := ?_) #[true, true, true, true, true, true, true, true, true, true, true, true, false, false, false, false, false, false, false, false, false, false, false] rfl rfl (any_of HT_.out (by kernel_rfl)) (fun _ _ _ h => h) (Or.inl ⟨by rfl, ?_⟩) ?_ ?_
      rotate_left
      · intro w'
        go_simp
        with_reducible rfl
      rotate_left
      · simp only [Act.put, List.setIfInBounds_toArray, List.set_cons_zero, List.set_cons_succ, i64_w, i32_w]
        rfl
      refine pure_ (i := 12) (N := (some 33)) (v := ?_) (a' := ?_) #[true, true, true, true, true, true, true, true, true, true, true, true, true, false, false, false, false, false, false, false, false, false, false] rfl rfl (any_of HT_.out (by kernel_rfl)) (fun _ _ _ h => h) (Or.inl ⟨by rfl, ?_⟩) ?_ ?_
      rotate_left
      · intro w'
        go_simp
        with_reducible rfl
      rotate_left
      · simp only [Act.put, List.setIfInBounds_toArray, List.set_cons_zero, List.set_cons_succ, i64_w, i32_w]
        rfl
      refine pure_ (i := 13) (N := (some 34)) (v := ?_) (a' := ?_) #[true, true, true, true, true, true, true, true, true, true, true, true, true, true, false, false, false, false, false, false, false, false, false] rfl rfl (any_of HT_.out (by kernel_rfl)) (fun _ _ _ h => h) (Or.inl ⟨by rfl, ?_⟩) ?_ ?_
      rotate_left
      · intro w'
        go_simp
        with_reducible rfl
      rotate_left
      · simp only [Act.put, List.setIfInBounds_toArray, List.set_cons_zero, List.set_cons_succ, i64_w, i32_w]
        rfl
      refine take_ (i := 14) (N := (some 35)) (v := ?_) (a' := ?_) #[true, true, true, true, true, true, true, true, true, true, true, true, true, true, true, false, false, false, false, false, false, false, false] rfl rfl (take_ofW HT_.out HW_.out (by kernel_rfl)) (fun _ _ _ h => h) (Or.inl ⟨by rfl, ?_⟩) hHeld ?_ ?_
      rotate_left
      · intro w' s0; have q1 := s0.1.cs; have q2 := s0.1.cn; have q3 := s0.1.cl; have q4 := s0.2.1.cell
        go_simp
        with_reducible rfl
      rotate_left
      · simp only [Act.put, List.setIfInBounds_toArray, List.set_cons_zero, List.set_cons_succ, i64_w, i32_w]
        rfl
      refine pure_ (i := 15) (N := (some 36)) (v := ?_) (a' := ?_) #[true, true, true, true, true, true, true, true, true, true, true, true, true, true, true, true, false, false, false, false, false, false, false] rfl rfl (any_of HT_.out (by kernel_rfl)) (fun _ _ _ h => h) (Or.inl ⟨by rfl, ?_⟩) ?_ ?_
      rotate_left
      · intro w'
        go_simp
        with_reducible rfl
      rotate_left
      · simp only [Act.put, List.setIfInBounds_toArray, List.set_cons_zero, List.set_cons_succ, i64_w, i32_w]
        rfl
      refine pure_ (i := 16) (N := (some 37)) (v := ?_) (a' := ?_) #[true, true, true, true, true, true, true, true, true, true, true, true, true, true, true, true, true, false, false, false, false, false, false] rfl rfl (any_of HT_.out (by kernel_rfl)) (fun _ _ _ h => h) (Or.inl ⟨by rfl, ?_⟩) ?_ ?_
      rotate_left
      · intro w'
        go_simp
        with_reducible rfl
      rotate_left
      · simp only [Act.put, List.setIfInBounds_toArray, List.set_cons_zero, List.set_cons_succ, i64_w, i32_w]
        rfl
      refine take_ (i := 17) (N := (some 38)) (v := ?_) (a' := ?_) #[true, true, true, true, true, true, true, true, true, true, true, true, true, true, true, true, true, true, false, false, false, false, false] rfl rfl (take_ofW HT_.out HW_.out (by kernel_rfl)) (fun _ _ _ h => h) (Or.inl ⟨by rfl, ?_⟩) hHeld ?_ ?_
      rotate_left
      · intro w' s0; have q1 := s0.1.cs; have q2 := s0.1.cn; have q3 := s0.1.cl; have q4 := s0.2.1.cell
        go_simp
        with_reducible rfl
      rotate_left
      · simp only [Act.put, List.setIfInBounds_toArray, List.set_cons_zero, List.set_cons_succ, i64_w, i32_w]
        rfl
      refine take_ (i := 19) (N := (some 40)) (v := ?_) (a' := ?_) #[true, true, true, true, true, true, true, true, true, true, true, true, true, true, true, true, true, true, false, true, false, false, false] rfl rfl (take_ofW HT_.out HW_.out (by kernel_rfl)) (fun _ _ _ h => h) (Or.inl ⟨by rfl, ?_⟩) hHeld ?_ ?_
      rotate_left
      · intro w' s0; have q1 := s0.1.cs; have q2 := s0.1.cn; have q3 := s0.1.cl; have q4 := s0.2.1.cell
        go_simp
        with_reducible rfl
      rotate_left
      · simp only [Act.put, List.setIfInBounds_toArray, List.set_cons_zero, List.set_cons_succ, i64_w, i32_w]
        rfl
      refine one_ (i := 18) (N := (some 39)) #[true, true, true, true, true, true, true, true, true, true, true, true, true, true, true, true, true, true, true, true, false, false, false] rfl rfl (one_of HT_.out (by kernel_rfl)) (by decide) (fun K hK => ?_)
      refine goes_ Tryd.func21 (by kernel_rfl) rfl #[.agg #[.int .u64 (x : Nat)]] (by rfl) rfl rfl (by (try simp only [List.map_toArray, List.map_cons, List.map_nil]); first | done | rfl) ?_
      (with_reducible refine (bits_Set_uint64_Word.calls x x _ HWO.out).mono ?_)
      rintro e w2 ⟨rfl, hb2⟩
      refine ⟨_, rfl, ?_⟩
      have S2 := And.intro (hHeld.1.below hb2) (And.intro (show Boxed w2 g8 26 (.int .u64 (x : Nat)) from (hb2.block _ hHeld.2.1.lt).trans hHeld.2.1) (hHeld.2.2.trans (hb2.mono hHeld.2.2.size)))
      clear hb2
      refine hK.out _ _ (S2) (fun hHeld => ?_)
      clear hK K
      refine norm_ (a' := ?_) ?_ ?_
      rotate_left
      · show Act.put _ (some 39) _ = _
        simp only [Act.put, List.setIfInBounds_toArray, List.set_cons_zero, List.set_cons_succ, i64_w, i32_w]
        rfl
      refine pure_ (i := 20) (N := (some 41)) (v := ?_) (a' := ?_) #[true, true, true, true, true, true, true, true, true, true, true, true, true, true, true, true, true, true, true, true, true, false, false] rfl rfl (any_of HT_.out (by kernel_rfl)) (fun _ _ _ h => h) (Or.inl ⟨by rfl, ?_⟩) ?_ ?_
      rotate_left
      · intro w'
        go_simp
        with_reducible rfl
      rotate_left
      · simp only [Act.put, List.setIfInBounds_toArray, List.set_cons_zero, List.set_cons_succ, i64_w, i32_w]
        rfl
      refine pure_ (i := 21) (N := (some 42)) (v := ?_) (a' := ?_) #[true, true, true, true, true, true, true, true, true, true, true, true, true, true, true, true, true, true, true, true, true, true, false] rfl rfl (any_of HT_.out (by kernel_rfl)) (fun _ _ _ h => h) (Or.inl ⟨by rfl, ?_⟩) ?_ ?_
      rotate_left
      · intro w'
        go_simp
        with_reducible rfl
      rotate_left
      · simp only [Act.put, List.setIfInBounds_toArray, List.set_cons_zero, List.set_cons_succ, i64_w, i32_w]
        rfl
      refine pure_ (i := 22) (N := (some 43)) (v := ?_) (a' := ?_) #[true, true, true, true, true, true, true, true, true, true, true, true, true, true, true, true, true, true, true, true, true, true, true] rfl rfl (any_of HT_.out (by kernel_rfl)) (fun _ _ _ h => h) (Or.inl ⟨by rfl, ?_⟩) ?_ ?_
      rotate_left
      · intro w'
        go_simp
        with_reducible rfl
      rotate_left
      · simp only [Act.put, List.setIfInBounds_toArray, List.set_cons_zero, List.set_cons_succ, i64_w, i32_w]
        rfl
      refine done_ (done_of HT_.out (by kernel_rfl)) ?_
      obtain ⟨hS9, h89, hb9⟩ := hHeld
      have HS9 := Aside0.mk hS9; have HB9 := Aside0.mk hb9; have H89 := Aside0.mk h89; have q8 := h89.cell; clear hS9 hb9 h89 hST
      by_cases hk : n = 1099
      · have hq : ((n : Int) + 1 == 1100) = true := by simp; omega
        have hqd : decide ((n : Int) + 1 = 1100) = true := decide_eq_true (by omega)
        have HK := Aside0.mk hk; clear hk
        gi_wp2_with (refine ⟨trivial, ?_⟩; gi_at_call 21; refine (CallsIn.inRound l ((callsIn_wide (n := 6)).2 (bits_Set_uint64_Word.calls x x _ HWO.out))).mono ?_; rintro e W5 ⟨rfl, hb5⟩; have S5 := HS9.out.below hb5; have B5 := HB9.out.trans (hb5.mono HB9.out.size); have q1 := S5.fl; have q0 := S5.cl; have S6 : SuSit w g a b i k (n : Int) x (W5.setCell ⟨g + 1 + 1 + 1, 0, none⟩ (.int .u64 (x : Nat))) := S5.setl x; have q2 := S6.cn; have q3 := S6.fn; have S7 := S6.setn ((n : Int) + 1); have q4 := S7.cn; have S7a := Aside0.mk S7; have B5a := Aside0.mk B5; clear S5 S6 S7 B5 hb5)
        exact ⟨(KeepsFrom.of_grownBy (grown_of_below B5a.out none) (fun r e => by cases e)).trans (((KeepsOthers.setCell _ _ _).from _).trans ((KeepsOthers.setCell _ _ _).from _)), ⟨rfl, by have := HE.out.2.1; have := HK.out; omega⟩, by rw [HE.out.1, HE.out.2.2]; exact S7a.out⟩
      · have hq : ((n : Int) + 1 == 1100) = false := by simp; omega
        have hqd : decide ((n : Int) + 1 = 1100) = false := decide_eq_false (by omega)
        have HK := Aside0.mk hk; clear hk
        gi_wp2_with (refine ⟨trivial, ?_⟩; gi_at_call 21; refine (CallsIn.inRound l ((callsIn_wide (n := 6)).2 (bits_Set_uint64_Word.calls x x _ HWO.out))).mono ?_; rintro e W5 ⟨rfl, hb5⟩; have S5 := HS9.out.below hb5; have B5 := HB9.out.trans (hb5.mono HB9.out.size); have q1 := S5.fl; have q0 := S5.cl; have S6 : SuSit w g a b i k (n : Int) x (W5.setCell ⟨g + 1 + 1 + 1, 0, none⟩ (.int .u64 (x : Nat))) := S5.setl x; have q2 := S6.cn; have q3 := S6.fn; have S7 := S6.setn ((n : Int) + 1); have q4 := S7.cn; have S7a := Aside0.mk S7; have B5a := Aside0.mk B5; clear S5 S6 S7 B5 hb5)
        exact ⟨(KeepsFrom.of_grownBy (grown_of_below B5a.out none) (fun r e => by cases e)).trans (((KeepsOthers.setCell _ _ _).from _).trans ((KeepsOthers.setCell _ _ _).from _)), ⟨S7a.out.it.trans HI.out.it.symm, fun _ => S7a.out.tab, by have := B5a.out.size; simp only [World.size_setCell]; exact this⟩, by have := HE.out.2.1; have := HK.out; have := HPL.out; omega, by rw [HE.out.1, HE.out.2.2]; exact S7a.out⟩
  case done =>
    rintro D W hD ⟨hpl, hI⟩ hK
    obtain ⟨e1, q, e2⟩ := subsL_end ha (a + 1) 0 (Nat.zero_and a) (by omega)
    rw [subs_rk0, Nat.zero_add, subsCnt_pop, ones_len] at e1
    rw [show subsLast (subsL a (a + 1) 0) = a from by rw [e2, subsLast_snoc]] at hI
    clear e2
    have hln := len64_eq a ha
    generalize (pl a 0).length = c at *
    generalize (subsL a (a + 1) 0).length = m at *
    have hcc : c ≤ 10 := by
      apply Classical.byContradiction; intro h
      have h2 := Nat.pow_le_pow_right (n := 2) (by decide) (show 11 ≤ c by omega)
      have h3 : (2 : Nat) ^ 11 = 2048 := rfl
      omega
    have hDl : w.heap.size ≤ D := by omega
    have hST := Aside0.mk hI; have hKD := Aside0.mk hK; have HLN := Aside0.mk hln; have HE := Aside0.mk e1
    clear hI hK hln e1 S0 hs0
    go_wp2
    go_loopw [9, 10] (fun v9 v10 wr => ∃ n : Nat, n ≤ c ∧ n ≤ 11 ∧ v9 = .int .i64 ((2 ^ n : Nat) : Int) ∧ v10 = .int .i64 (n : Int) ∧ Aside0 (SuSit w g a b i k (m : Int) a wr) ∧ Aside0 (wr.heap[D]? = some (.deferred (some [])))) (fun _ v10 _ => subsLeft 12 v10)
    case atStart => exact ⟨0, by omega, by omega, rfl, rfl, hST, hKD⟩
    case round =>
      clear hST hKD
      obtain ⟨n, hn, hn11, rfl, rfl, ST, KD⟩ := hrel
      have hcs := ST.out.cs; have hcn := ST.out.cn; have hcl := ST.out.cl; have hca := ST.out.ca
      by_cases hlt : n < c ∧ n ≤ 10
      · obtain ⟨h1, h2⟩ := hlt
        have hp := Nat.pow_le_pow_right (n := 2) (by decide) h2
        have hp2 : (2 : Nat) ^ 10 = 1024 := rfl
        have HP : Aside0 (2 * 2 ^ n = 2 ^ (n + 1)) := ⟨by rw [Nat.pow_succ]; omega⟩
        have HLT : Aside0 (subsLeft 12 (.int .i64 ((n + 1 : Nat) : Int)) < subsLeft 12 (.int .i64 (n : Int))) := ⟨by unfold subsLeft; simp only [RowKit.intOf, Int.toNat_natCast]; omega⟩
        generalize 2 ^ n = M at *
        have t1 : decide ((n : Int) < (c : Int)) = true := decide_eq_true (by omega); have t1' : decide (n < c) = true := decide_eq_true h1
        have t2 : decide ((M : Int) < 1100) = true := decide_eq_true (by omega)
        have hw : wrap64 (2 * (M : Int)) = ((2 * M : Nat) : Int) := by unfold wrap64; omega
        have hw2 : wrap64 ((n : Int) + 1) = ((n + 1 : Nat) : Int) := by unfold wrap64; omega
        have HH := Aside0.mk (And.intro h1 h2)
        clear h1 h2 hp hp2 hcc hn hn11
        go_wp2_with (first | (go_at_call 22; refine (bits_Set_uint64_Len.calls a c _ HLN.out).mono ?_; rintro e W6 ⟨rfl, hb6⟩; replace ST := Aside0.mk (ST.out.below hb6); replace KD := Aside0.mk ((hb6.block D (Array.getElem?_eq_some_iff.1 KD.out).1).trans KD.out); replace hcs := ST.out.cs; replace hcn := ST.out.cn; replace hcl := ST.out.cl; replace hca := ST.out.ca; have h2w := ST.out.res; have hc2 := h2w.cell; have hf2 := h2w.frozen; clear hb6) | (go_at_call 14; refine (provostlaw01_wakes.calls true _ HW.out ⟨ST.out.tab⟩).mono ?_; rintro e W6 ⟨rfl, hb6⟩; replace ST := Aside0.mk (ST.out.below hb6); replace KD := Aside0.mk ((hb6.block D (Array.getElem?_eq_some_iff.1 KD.out).1).trans KD.out); replace hcs := ST.out.cs; replace hcn := ST.out.cn; replace hcl := ST.out.cl; replace hca := ST.out.ca; have h2w := ST.out.res; have hc2 := h2w.cell; have hf2 := h2w.frozen; clear hb6))
        go_roundw
        case rel => exact ⟨n + 1, by have := HH.out; omega, by have := HH.out; omega, by rw [hw, HP.out], by rw [hw2], ST, KD⟩
        case measure => rw [hw2]; exact HLT.out
      · obtain rfl : n = c := by omega
        have t1 : decide ((n : Int) < (n : Int)) = false := decide_eq_false (by omega)
        have hm2 : m = 2 ^ n := HE.out
        have hp := Nat.pow_le_pow_right (n := 2) (by decide) hcc
        have hp2 : (2 : Nat) ^ 10 = 1024 := rfl
        rw [← hm2] at hp ⊢
        have t2 : decide ((m : Int) < 1100) = true := decide_eq_true (by omega)
        have t2' : decide (m < 1100) = true := decide_eq_true (by omega)
        clear hp hp2 hm2 hcc hlt hn hn11 hpl HE
        go_wp2_with (first | (go_at_call 22; refine (bits_Set_uint64_Len.calls a n _ HLN.out).mono ?_; rintro e W6 ⟨rfl, hb6⟩; replace ST := Aside0.mk (ST.out.below hb6); replace KD := Aside0.mk ((hb6.block D (Array.getElem?_eq_some_iff.1 KD.out).1).trans KD.out); replace hcs := ST.out.cs; replace hcn := ST.out.cn; replace hcl := ST.out.cl; replace hca := ST.out.ca; have h2w := ST.out.res; have hc2 := h2w.cell; have hf2 := h2w.frozen; clear hb6) | (go_at_call 14; refine (provostlaw01_wakes.calls true _ HW.out ⟨ST.out.tab⟩).mono ?_; rintro e W6 ⟨rfl, hb6⟩; replace ST := Aside0.mk (ST.out.below hb6); replace KD := Aside0.mk ((hb6.block D (Array.getElem?_eq_some_iff.1 KD.out).1).trans KD.out); replace hcs := ST.out.cs; replace hcn := ST.out.cn; replace hcl := ST.out.cl; replace hca := ST.out.ca; have h2w := ST.out.res; have hc2 := h2w.cell; have hf2 := h2w.frozen; clear hb6))
        have hK5 := (KeepsOthers.setCell _ ⟨w.heap.size + 1, 0, none⟩ (.bool true)).same D _ KD.out rfl
        refine ⟨by simp, .inl ⟨_, _, rfl, run_takeDeferred hK5, ?_⟩⟩
        have hcr := cell_kept (ST.out.res.set (.bool true)).cell (grownBy_putObj' _ D (.deferred none)) (fun r e => by cases e; exact ⟨_, hK5, rfl⟩)
        have hbf := ST.out.bel.setCell (p := ⟨w.heap.size + 1, 0, none⟩) (by show w.heap.size ≤ w.heap.size + 1; omega) (.bool true)
        refine ⟨.bool true, ?_, rfl, hbf.trans (belowK_b (w := w) (Nat.le_refl _) _ D _ _ hDl hK5 rfl rfl)⟩
        simp [results, Tryd.f5, go_sem, hcr]
  case stop =>
    rintro D c pre W hD hpre ⟨⟨rfl, hm⟩, hI⟩ hK
    obtain ⟨e1, q, e2⟩ := subsL_end ha (a + 1) 0 (Nat.zero_and a) (by omega)
    rw [subs_rk0, Nat.zero_add, subsCnt_pop, ones_len] at e1
    have hle := hpre.length_le
    rw [hm] at hle hI
    clear e2 hpre hm
    generalize subsLast pre = y at *
    have hln := len64_eq a ha
    generalize (pl a 0).length = c at *
    generalize (subsL a (a + 1) 0).length = m at *
    have hcc : 11 ≤ c := by
      apply Classical.byContradiction; intro h
      have h2 := Nat.pow_le_pow_right (n := 2) (by decide) (show c ≤ 10 by omega)
      have h3 : (2 : Nat) ^ 10 = 1024 := rfl
      omega
    have hDl : w.heap.size ≤ D := by omega
    have hST := Aside0.mk hI; have hKD := Aside0.mk hK; have HLN := Aside0.mk hln; have HE := Aside0.mk e1
    clear hI hK hln e1 S0 hs0 hle
    go_wp2
    go_loopw [9, 10] (fun v9 v10 wr => ∃ n : Nat, n ≤ c ∧ n ≤ 11 ∧ v9 = .int .i64 ((2 ^ n : Nat) : Int) ∧ v10 = .int .i64 (n : Int) ∧ Aside0 (SuSit w g a b i k ((1100 : Nat) : Int) y wr) ∧ Aside0 (wr.heap[D]? = some (.deferred (some [])))) (fun _ v10 _ => subsLeft 12 v10)
    case atStart => exact ⟨0, by omega, by omega, rfl, rfl, hST, hKD⟩
    case round =>
      clear hST hKD
      obtain ⟨n, hn, hn11, rfl, rfl, ST, KD⟩ := hrel
      have hcs := ST.out.cs; have hcn := ST.out.cn; have hcl := ST.out.cl; have hca := ST.out.ca
      by_cases hlt : n < c ∧ n ≤ 10
      · obtain ⟨h1, h2⟩ := hlt
        have hp := Nat.pow_le_pow_right (n := 2) (by decide) h2
        have hp2 : (2 : Nat) ^ 10 = 1024 := rfl
        have HP : Aside0 (2 * 2 ^ n = 2 ^ (n + 1)) := ⟨by rw [Nat.pow_succ]; omega⟩
        have HLT : Aside0 (subsLeft 12 (.int .i64 ((n + 1 : Nat) : Int)) < subsLeft 12 (.int .i64 (n : Int))) := ⟨by unfold subsLeft; simp only [RowKit.intOf, Int.toNat_natCast]; omega⟩
        generalize 2 ^ n = M at *
        have t1 : decide ((n : Int) < (c : Int)) = true := decide_eq_true (by omega); have t1' : decide (n < c) = true := decide_eq_true h1
        have t2 : decide ((M : Int) < 1100) = true := decide_eq_true (by omega)
        have hw : wrap64 (2 * (M : Int)) = ((2 * M : Nat) : Int) := by unfold wrap64; omega
        have hw2 : wrap64 ((n : Int) + 1) = ((n + 1 : Nat) : Int) := by unfold wrap64; omega
        have HH := Aside0.mk (And.intro h1 h2)
        clear h1 h2 hp hp2 hcc hn hn11
        go_wp2_with (first | (go_at_call 22; refine (bits_Set_uint64_Len.calls a c _ HLN.out).mono ?_; rintro e W6 ⟨rfl, hb6⟩; replace ST := Aside0.mk (ST.out.below hb6); replace KD := Aside0.mk ((hb6.block D (Array.getElem?_eq_some_iff.1 KD.out).1).trans KD.out); replace hcs := ST.out.cs; replace hcn := ST.out.cn; replace hcl := ST.out.cl; replace hca := ST.out.ca; have h2w := ST.out.res; have hc2 := h2w.cell; have hf2 := h2w.frozen; clear hb6) | (go_at_call 14; refine (provostlaw01_wakes.calls true _ HW.out ⟨ST.out.tab⟩).mono ?_; rintro e W6 ⟨rfl, hb6⟩; replace ST := Aside0.mk (ST.out.below hb6); replace KD := Aside0.mk ((hb6.block D (Array.getElem?_eq_some_iff.1 KD.out).1).trans KD.out); replace hcs := ST.out.cs; replace hcn := ST.out.cn; replace hcl := ST.out.cl; replace hca := ST.out.ca; have h2w := ST.out.res; have hc2 := h2w.cell; have hf2 := h2w.frozen; clear hb6))
        go_roundw
        case rel => exact ⟨n + 1, by have := HH.out; omega, by have := HH.out; omega, by rw [hw, HP.out], by rw [hw2], ST, KD⟩
        case measure => rw [hw2]; exact HLT.out
      · obtain rfl : n = 11 := by omega
        have hp2 : (2 : Nat) ^ 11 = 2048 := rfl
        rw [hp2]
        clear hp2 hlt hn11 HE
        by_cases h11 : 11 < c
        · have t1 : decide (((11 : Nat) : Int) < (c : Int)) = true := decide_eq_true (by omega); have t1' : decide (11 < c) = true := decide_eq_true h11; have t1'' : decide ((11 : Int) < (c : Int)) = true := decide_eq_true (by omega)
          clear h11 hcc hn
          go_wp2_with (first | (go_at_call 22; refine (bits_Set_uint64_Len.calls a c _ HLN.out).mono ?_; rintro e W6 ⟨rfl, hb6⟩; replace ST := Aside0.mk (ST.out.below hb6); replace KD := Aside0.mk ((hb6.block D (Array.getElem?_eq_some_iff.1 KD.out).1).trans KD.out); replace hcs := ST.out.cs; replace hcn := ST.out.cn; replace hcl := ST.out.cl; replace hca := ST.out.ca; have h2w := ST.out.res; have hc2 := h2w.cell; have hf2 := h2w.frozen; clear hb6) | (go_at_call 14; refine (provostlaw01_wakes.calls true _ HW.out ⟨ST.out.tab⟩).mono ?_; rintro e W6 ⟨rfl, hb6⟩; replace ST := Aside0.mk (ST.out.below hb6); replace KD := Aside0.mk ((hb6.block D (Array.getElem?_eq_some_iff.1 KD.out).1).trans KD.out); replace hcs := ST.out.cs; replace hcn := ST.out.cn; replace hcl := ST.out.cl; replace hca := ST.out.ca; have h2w := ST.out.res; have hc2 := h2w.cell; have hf2 := h2w.frozen; clear hb6))
          have hK5 := (KeepsOthers.setCell _ ⟨w.heap.size + 1, 0, none⟩ (.bool true)).same D _ KD.out rfl
          refine ⟨by simp, .inl ⟨_, _, rfl, run_takeDeferred hK5, ?_⟩⟩
          have hcr := cell_kept (ST.out.res.set (.bool true)).cell (grownBy_putObj' _ D (.deferred none)) (fun r e => by cases e; exact ⟨_, hK5, rfl⟩)
          have hbf := ST.out.bel.setCell (p := ⟨w.heap.size + 1, 0, none⟩) (by show w.heap.size ≤ w.heap.size + 1; omega) (.bool true)
          refine ⟨.bool true, ?_, rfl, hbf.trans (belowK_b (w := w) (Nat.le_refl _) _ D _ _ hDl hK5 rfl rfl)⟩
          simp [results, Tryd.f5, go_sem, hcr]
        · obtain rfl : c = 11 := by omega
          clear h11 hcc hn
          go_wp2_with (first | (go_at_call 22; refine (bits_Set_uint64_Len.calls a 11 _ HLN.out).mono ?_; rintro e W6 ⟨rfl, hb6⟩; replace ST := Aside0.mk (ST.out.below hb6); replace KD := Aside0.mk ((hb6.block D (Array.getElem?_eq_some_iff.1 KD.out).1).trans KD.out); replace hcs := ST.out.cs; replace hcn := ST.out.cn; replace hcl := ST.out.cl; replace hca := ST.out.ca; have h2w := ST.out.res; have hc2 := h2w.cell; have hf2 := h2w.frozen; clear hb6) | (go_at_call 14; refine (provostlaw01_wakes.calls true _ HW.out ⟨ST.out.tab⟩).mono ?_; rintro e W6 ⟨rfl, hb6⟩; replace ST := Aside0.mk (ST.out.below hb6); replace KD := Aside0.mk ((hb6.block D (Array.getElem?_eq_some_iff.1 KD.out).1).trans KD.out); replace hcs := ST.out.cs; replace hcn := ST.out.cn; replace hcl := ST.out.cl; replace hca := ST.out.ca; have h2w := ST.out.res; have hc2 := h2w.cell; have hf2 := h2w.frozen; clear hb6))
          have hK5 := (KeepsOthers.setCell _ ⟨w.heap.size + 1, 0, none⟩ (.bool true)).same D _ KD.out rfl
          refine ⟨by simp, .inl ⟨_, _, rfl, run_takeDeferred hK5, ?_⟩⟩
          have hcr := cell_kept (ST.out.res.set (.bool true)).cell (grownBy_putObj' _ D (.deferred none)) (fun r e => by cases e; exact ⟨_, hK5, rfl⟩)
          have hbf := ST.out.bel.setCell (p := ⟨w.heap.size + 1, 0, none⟩) (by show w.heap.size ≤ w.heap.size + 1; omega) (.bool true)
          refine ⟨.bool true, ?_, rfl, hbf.trans (belowK_b (w := w) (Nat.le_refl _) _ D _ _ hDl hK5 rfl rfl)⟩
          simp [results, Tryd.f5, go_sem, hcr]
end


end Go.Proofs.YtfgmapnanaahaaaDoor.PBsu
