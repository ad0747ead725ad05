/- A text written by my program wip/gen/p2.py out of the translation and of my foreign texts; not trusted: Lean checks it. -/
import Derived.Test.YtfgmapnanaahaaaGreatDoorPBonx0
import Derived.Test.YtfgmapnanaahaaaGreatDoorPBonx1
import Derived.Test.YtfgmapnanaahaaaGreatDoorPBonx2
import Derived.Test.YtfgmapnanaahaaaGreatDoorPBonx3
import Derived.Test.YtfgmapnanaahaaaGreatDoorPBonx4
import Derived.Test.YtfgmapnanaahaaaGreatDoorPBonx8
namespace Go.Proofs.YtfgmapnanaahaaaGreatDoor.PBon
open Go.RowKit Go.Proofs.YtfgmapnanaahaaaGreatDoorW.PrintWords Go.Proofs.YtfgmapnanaahaaaGreatDoorW.PrintLast Go.Proofs.YtfgmapnanaahaaaGreatDoorW.PrintMore
attribute [local go_sem] max2_int min2_int max_two min_two max_three min_three max_four min_four   -- for this text's walks alone
set_option linter.unusedVariables false
set_option linter.unusedSimpArgs false

/-! ### provostlaw01_BitsOne: function 3 -/
section
open Go Go.Lib Go.Proofs.YtfgmapnanaahaaaGreatDoorW.Rng Go.Proofs.YtfgmapnanaahaaaGreatDoorW.BitsM Go.Proofs.YtfgmapnanaahaaaGreatDoorW.Tab
/-- what stands while the law runs -/
def OneSit (w0 : World) (g5 g6 a v u : Nat) (b i k : Int) (W : World) : Prop :=
  W.heap[w0.heap.size]? = some (.cells #[.int .u64 a, .int .u64 b, .int .i64 i, .int .i64 k] 24 (0, 0)) ∧ Boxed W g5 27 (.int .u16 v) ∧ Boxed W g6 30 (.int .u32 u) ∧ TabW W ∧ Below w0.heap.size w0 W
section
variable {w0 : World} {g5 g6 a v u : Nat} {b i k : Int} {W : World}
theorem OneSit.below {W' : World} (h : OneSit w0 g5 g6 a v u b i k W) (hw : Below W.heap.size W W') : OneSit w0 g5 g6 a v u b i k W' := by
  obtain ⟨h1, h4, h5, hT, hB⟩ := h
  exact ⟨(hw.block _ (blk_lt h1)).trans h1, (hw.block _ h4.lt).trans h4, (hw.block _ h5.lt).trans h5, tab_below hT hw, hB.trans (hw.mono hB.size)⟩
theorem OneSit.drew (h : OneSit w0 g5 g6 a v u b i k W) : OneSit w0 g5 g6 a v u b i k W.drew := ⟨h.1, h.2.1, h.2.2.1, h.2.2.2.1, below_drew h.2.2.2.2⟩
theorem OneSit.drewN (h : OneSit w0 g5 g6 a v u b i k W) (nd : Nat) : OneSit w0 g5 g6 a v u b i k (W.drewN nd) := ⟨h.1, h.2.1, h.2.2.1, h.2.2.2.1, pw_below_drewN h.2.2.2.2 nd⟩
theorem OneSit.drawn {W' : World} (h : OneSit w0 g5 g6 a v u b i k W) (hd : Drawn0 W W') : OneSit w0 g5 g6 a v u b i k W' := by
  obtain ⟨⟨nd, rfl⟩⟩ := hd
  exact h.drewN nd
theorem OneSit.c5 (h : OneSit w0 g5 g6 a v u b i k W) : W.cell? ⟨g5, 0, none⟩ = some (.int .u16 v) := h.2.1.cell
theorem OneSit.c6 (h : OneSit w0 g5 g6 a v u b i k W) : W.cell? ⟨g6, 0, none⟩ = some (.int .u32 u) := h.2.2.1.cell
theorem OneSit.ca (h : OneSit w0 g5 g6 a v u b i k W) : W.cell? ⟨w0.heap.size, 0, none⟩ = some (.int .u64 a) := (blk_cell h.1 0).trans rfl
theorem OneSit.ci (h : OneSit w0 g5 g6 a v u b i k W) : W.cell? ⟨w0.heap.size, 2, none⟩ = some (.int .i64 i) := (blk_cell h.1 2).trans rfl
theorem OneSit.ck (h : OneSit w0 g5 g6 a v u b i k W) : W.cell? ⟨w0.heap.size, 3, none⟩ = some (.int .i64 k) := (blk_cell h.1 3).trans rfl
theorem OneSit.tab (h : OneSit w0 g5 g6 a v u b i k W) : TabW W := h.2.2.2.1
theorem OneSit.bel (h : OneSit w0 g5 g6 a v u b i k W) : Below w0.heap.size w0 W := h.2.2.2.2
end
def provostlaw01_BitsOne.T7 : Bool × List (List Nat × List Nat) := (true, [([], []), ([0], [0]), ([1], [1]), ([2, 1], [2]), ([3], [3]), ([4, 3, 3], [3, 4]), ([5, 3], [3, 5]), ([3, 6], [3, 6]), ([7, 5], [7]), ([8], [8]), ([9, 8, 8], [8, 9]), ([8], [8]), ([11, 10, 8], [8, 11]), ([10, 12, 8], [8, 10, 12]), ([8, 13], [8, 13]), ([14, 12], [14]), ([15], [15]), ([16, 15, 15], [15, 16]), ([15], [15]), ([18, 17, 15], [15, 18]), ([17, 19, 15], [15, 17, 19]), ([15, 20], [15, 20]), ([21, 19], [21]), ([22], [22]), ([23, 22, 22], [22, 23]), ([22], [22]), ([25, 24, 22], [22, 25]), ([24, 26, 22], [22, 24, 26]), ([22, 27], [22, 27]), ([28, 26], [28]), ([29], [29]), ([30, 29, 29], [29, 30]), ([29], [29]), ([32, 31, 29], [29, 32]), ([31, 33, 29], [29, 31, 33]), ([29, 34], [29, 34]), ([35, 33], [35]), ([36], [36]), ([36], [36]), ([38, 36], [36, 38]), ([37, 39, 36, 36], [36, 37, 39]), ([36], [36]), ([36], [36]), ([42, 36], [36, 42]), ([41, 43, 40, 36], [36, 41, 43]), ([40, 44, 36], [36, 40, 44]), ([36, 45], [36, 45]), ([46, 44], [46]), ([47], [47]), ([47], [47]), ([49, 47], [47, 49]), ([48, 50, 47, 47], [47, 48, 50]), ([47], [47]), ([47], [47]), ([53, 47], [47, 53]), ([52, 54, 51, 47], [47, 52, 54]), ([51, 55, 47], [47, 51, 55]), ([47, 56], [47, 56])])
def provostlaw01_BitsOne.B7 : List Nat := [0, 1, 3, 7, 15, 31, 63, 127, 255, 511, 1023, 511, 4095, 8191, 16383, 32767, 65535, 131071, 65535, 524287, 1048575, 2097151, 4194303, 8388607, 16777215, 8388607, 67108863, 134217727, 268435455, 536870911, 1073741823, 2147483647, 1073741823, 8589934591, 17179869183, 34359738367, 68719476735, 137438953471, 137438953471, 412316860415, 1099511627775, 137438953471, 137438953471, 4535485464575, 17592186044415, 35184372088831, 70368744177663, 140737488355327, 281474976710655, 281474976710655, 844424930131967, 2251799813685247, 281474976710655, 281474976710655, 9288674231451647, 36028797018963967, 72057594037927935, 144115188075855871]
theorem provostlaw01_BitsOne.tab7 : rtab .any (opsOf Tryz.f3 7) = provostlaw01_BitsOne.T7 := by kernel_rfl
theorem provostlaw01_BitsOne.bits7 : waitsOk provostlaw01_BitsOne.T7.2 provostlaw01_BitsOne.B7 = true := by kernel_rfl
set_option maxRecDepth 100000 in
set_option maxHeartbeats 8000000 in
theorem provostlaw01_BitsOne.walk (a v u : Nat) (b i k : Int) (KF : Nat) (l1 l2 g1 g2 n1 n2 f1 f2 m1 m2 c8 : Int) (h1 h2 : Bool) (t1 t2 : ByteArray) (HLa : Aside0 (bits_Set_uint16_Len.f (v : Int) = some l1)) (HLb : Aside0 (provostref01_Len.f KF (v : Int) = some l1)) (HLc : Aside0 (bits_Set_uint32_Len.f (u : Int) = some l2)) (HLd : Aside0 (provostref01_Len.f KF (u : Int) = some l2)) (HHa : Aside0 (bits_Set_uint16_High.f (v : Int) = some g1)) (HHb : Aside0 (provostref01_High.f KF (v : Int) = some g1)) (HHc : Aside0 (bits_Set_uint32_High.f (u : Int) = some g2)) (HHd : Aside0 (provostref01_High.f KF (u : Int) = some g2)) (HAa : Aside0 (bits_Set_uint16_Has.f (v : Int) i = some h1)) (HAb : Aside0 (provostref01_Has.f (v : Int) 16 i = some h1)) (HAc : Aside0 (bits_Set_uint32_Has.f (u : Int) i = some h2)) (HAd : Aside0 (provostref01_Has.f (u : Int) 32 i = some h2)) (HTa : Aside0 (bits_Set_uint16_Text.f (v : Int) = some t1)) (HTb : Aside0 (provostref01_Text.f KF (v : Int) = some t1)) (HTc : Aside0 (bits_Set_uint32_Text.f (u : Int) = some t2)) (HTd : Aside0 (provostref01_Text.f KF (u : Int) = some t2)) (HNa : Aside0 (bits_Set_uint16_Not.f (v : Int) = some n1)) (HNc : Aside0 (bits_Set_uint32_Not.f (u : Int) = some n2)) (HFa : Aside0 (provostref01_Full.f KF 16 = some f1)) (HFc : Aside0 (provostref01_Full.f KF 32 = some f2)) (HOa : Aside0 (∀ W : World, TabW W → Calls Tryz.prog 25 #[.int .u64 a, .int .i64 i, .int .i64 k] W fun e W' => e = .returned (.bool true) ∧ Below W.heap.size W W')) (HOb : Aside0 (∀ W : World, TabW W → Calls Tryz.prog 26 #[.int .u8 c8, .int .i64 i, .int .i64 k] W fun e W' => e = .returned (.bool true) ∧ Below W.heap.size W W')) (HWa : Aside0 (provostlaw01_wakes.f = some true)) (HDa : Aside0 (bits_Set_uint16_Width.f (v : Int) = some 16)) (HDb : Aside0 (bits_Set_uint32_Width.f (u : Int) = some 32)) (hv1 : IntKind.u16.wrap (a : Int) = (v : Int)) (hu1 : IntKind.u32.wrap (a : Int) = (u : Int)) (hv2 : IntKind.u64.wrap (v : Int) = (v : Int)) (hu2 : IntKind.u64.wrap (u : Int) = (u : Int)) (hm1 : IntKind.u64.wrap n1 = m1) (hm2 : IntKind.u64.wrap n2 = m2) (hs1 : IntKind.u64.wrap (f1 - (v : Int)) = m1) (hs2 : IntKind.u64.wrap (f2 - (u : Int)) = m2) (hc8 : IntKind.u8.wrap (a : Int) = c8) (w : World) (hT : TabW w) :
    Calls Tryz.prog 3 #[.agg #[.int .u64 a, .int .u64 b, .int .i64 i, .int .i64 k]] w fun e W' => e = .returned (.bool true) ∧ Below w.heap.size w W' := by
  have HOA := Aside0.mk (show bits_Set_uint16_Of.f 0 (v : Int) = some (v : Int) from rfl)
  have HOB := Aside0.mk (show bits_Set_uint32_Of.f 0 (u : Int) = some (u : Int) from rfl)
  have HWO1 := Aside0.mk (show bits_Set_uint16_Word.f n1 = some n1 from rfl)
  have HWO2 := Aside0.mk (show bits_Set_uint32_Word.f n2 = some n2 from rfl)
  have HTW := Aside0.mk hT
  clear hT
  go_enter Tryz.func3, Tryz.ntmps3
  go_wp2_with (first | (go_at_call 4; (with_reducible refine (bits_Set_uint16_Of.calls 0 v v _ HOA.out).mono ?_); rintro e w1 ⟨rfl, hb1⟩; have y1 : (((w.alloc (.cells #[.int .u64 a, .int .u64 b, .int .i64 i, .int .i64 k] 24)).alloc (.cells #[.int .u16 0] 27)).alloc (.cells #[.int .u32 0] 30)).heap[w.heap.size]? = some (.cells #[.int .u64 a, .int .u64 b, .int .i64 i, .int .i64 k] 24) := blk_alloc (blk_alloc (World.alloc_heap_new w _) _) _; have y3 : (((w.alloc (.cells #[.int .u64 a, .int .u64 b, .int .i64 i, .int .i64 k] 24)).alloc (.cells #[.int .u16 0] 27)).alloc (.cells #[.int .u32 0] 30)).heap[w.heap.size + 1 + 1]? = some (.cells #[.int .u32 0] 30) := (by have := World.alloc_heap_new ((w.alloc (.cells #[.int .u64 a, .int .u64 b, .int .i64 i, .int .i64 k] 24)).alloc (.cells #[.int .u16 0] 27)) (.cells #[.int .u32 0] 30); rwa [World.size_alloc, World.size_alloc] at this); have yB : Below w.heap.size w (((w.alloc (.cells #[.int .u64 a, .int .u64 b, .int .i64 i, .int .i64 k] 24)).alloc (.cells #[.int .u16 0] 27)).alloc (.cells #[.int .u32 0] 30)) := (((Below.refl _ w).alloc (Nat.le_refl _) _).alloc (by simp) _).alloc (by simp <;> omega) _; have X1 := Aside0.mk ((hb1.block _ (blk_lt y1)).trans y1); have X3 := Aside0.mk ((hb1.block _ (blk_lt y3)).trans y3); have HT1 := Aside0.mk (tab_below HTW.out (yB.trans (hb1.mono yB.size))); have HB1 := Aside0.mk (yB.trans (hb1.mono yB.size)); have hz1 : (w1.alloc (.cells #[.int .u16 v] 27)).cell? ⟨w.heap.size + 1 + 1, 0, none⟩ = some (.int .u32 0) := (blk_cell (blk_alloc X3.out _) 0).trans rfl; have hz2 : (w1.alloc (.cells #[.int .u16 v] 27)).cell? ⟨w.heap.size, 0, none⟩ = some (.int .u64 a) := (blk_cell (blk_alloc X1.out _) 0).trans rfl; clear y1 y3 yB hb1) | (go_at_call 5; (with_reducible refine (bits_Set_uint32_Of.calls 0 u u _ HOB.out).mono ?_); rintro e w2 ⟨rfl, hb2⟩; have y1 := blk_alloc X1.out (.cells #[.int .u16 v] 27); have y4 := Boxed.new w1 27 (.int .u16 v); have yB := HB1.out.alloc HB1.out.size (.cells #[.int .u16 v] 27); have yT := tab_below HT1.out ((Below.refl _ w1).alloc (Nat.le_refl _) (.cells #[.int .u16 v] 27)); have S2 := Aside0.mk (show OneSit w w1.heap.size w2.heap.size a v u b i k (w2.alloc (.cells #[.int .u32 u] 30)) from ⟨blk_alloc ((hb2.block _ (blk_lt y1)).trans y1) _, Boxed.alloc (show Boxed w2 w1.heap.size 27 (.int .u16 v) from (hb2.block _ y4.lt).trans y4) _, Boxed.new _ _ _, tab_below (tab_below yT hb2) ((Below.refl _ w2).alloc (Nat.le_refl _) _), (yB.trans (hb2.mono yB.size)).alloc (yB.trans (hb2.mono yB.size)).size _⟩); have z1 := S2.out.ca; clear hz1 hz2 y1 y4 yB yT hb2))
  clear z1
  generalize w2.alloc (.cells #[.int .u32 u] 30) = W0 at *
  have hST := S2.out.drew
  clear S2 X1 X3 HT1 HB1 HTW
  generalize w1.heap.size = g5 at *
  generalize w2.heap.size = g6 at *
  refine start_ (n := 58) (S := fun w' => OneSit w g5 g6 a v u b i k w') (ds := []) #[false, false, false, false, false, false, false, false, false, false, false, false, false, false, false, false, false, false, false, false, false, false, false, false, false, false, false, false, false, false, false, false, false, false, false, false, false, false, false, false, false, false, false, false, false, false, false, false, false, false, false, false, false, false, false, false, false, false] (by kernel_rfl) rfl rfl (hST) (fun hHeld => ?_); refine with_tabW provostlaw01_BitsOne.tab7 provostlaw01_BitsOne.bits7 (fun HT_ HW_ => ?_)
  refine take_ (i := 0) (N := (some 27)) (v := ?_) (a' := ?_) #[true, false, false, false, false, false, false, false, false, false, false, false, false, false, false, false, false, false, false, false, false, false, false, false, false, false, false, false, false, false, false, false, false, false, false, false, false, false, false, false, false, false, false, false, false, false, false, false, false, false, false, false, false, false, false, false, false, false] rfl rfl (take_ofW HT_.out HW_.out (by kernel_rfl)) (fun _ _ _ h => h) (Or.inl ⟨by rfl, ?_⟩) hHeld ?_ ?_
  rotate_left
  · intro w' s0; have q1 := s0.c5; have q2 := s0.c6; have q3 := s0.ca; have q4 := s0.ci; have q5 := s0.ck
    go_simp
    with_reducible rfl
  rotate_left
  · simp only [Act.put, List.setIfInBounds_toArray, List.set_cons_zero, List.set_cons_succ, i64_w, i32_w]
    rfl
  refine one_ (i := 1) (N := (some 28)) #[true, true, false, false, false, false, false, false, false, false, false, false, false, false, false, false, false, false, false, false, false, false, false, false, false, false, false, false, false, false, false, false, false, false, false, false, false, false, false, false, false, false, false, false, false, false, false, false, false, false, false, false, false, false, false, false, false, false] rfl rfl (one_of HT_.out (by kernel_rfl)) (by decide) (fun K hK => ?_)
  refine goes_ Tryz.func6 (by kernel_rfl) rfl #[.agg #[.int .u16 v]] (by rfl) rfl rfl (by (try simp only [List.map_toArray, List.map_cons, List.map_nil]); first | done | rfl) ?_
  (with_reducible refine (bits_Set_uint16_Width.calls v 16 _ HDa.out).mono ?_)
  rintro e w2 ⟨rfl, hb2⟩
  refine ⟨_, rfl, ?_⟩
  have S2 := OneSit.below hHeld hb2
  clear hb2
  refine hK.out _ _ (S2) (fun hHeld => ?_)
  clear hK K
  refine norm_ (a' := ?_) ?_ ?_
  rotate_left
  · show Act.put _ (some 28) _ = _
    simp only [Act.put, List.setIfInBounds_toArray, List.set_cons_zero, List.set_cons_succ, i64_w, i32_w]
    rfl
  refine pure_ (i := 2) (N := (some 29)) (v := ?_) (a' := ?_) #[true, true, true, false, false, false, false, false, false, false, false, false, false, false, false, false, false, false, false, false, false, false, false, false, false, false, false, false, false, false, false, false, false, false, false, false, false, false, false, false, false, false, false, false, false, false, false, false, false, false, false, false, false, false, false, false, false, false] rfl rfl (any_of HT_.out (by kernel_rfl)) (fun _ _ _ h => h) (Or.inl ⟨by rfl, ?_⟩) ?_ ?_
  rotate_left
  · intro w'
    go_simp
    with_reducible rfl
  rotate_left
  · simp only [Act.put, List.setIfInBounds_toArray, List.set_cons_zero, List.set_cons_succ, i64_w, i32_w]
    rfl
  refine pure_ (i := 3) (N := (some 30)) (v := ?_) (a' := ?_) #[true, true, true, true, false, false, false, false, false, false, false, false, false, false, false, false, false, false, false, false, false, false, false, false, false, false, false, false, false, false, false, false, false, false, false, false, false, false, false, false, false, false, false, false, false, false, false, false, false, false, false, false, false, false, false, false, false, false] rfl rfl (any_of HT_.out (by kernel_rfl)) (fun _ _ _ h => h) (Or.inl ⟨by rfl, ?_⟩) ?_ ?_
  rotate_left
  · intro w'
    go_simp
    with_reducible rfl
  rotate_left
  · simp only [Act.put, List.setIfInBounds_toArray, List.set_cons_zero, List.set_cons_succ, i64_w, i32_w]
    rfl
  refine take_ (i := 4) (N := (some 31)) (v := ?_) (a' := ?_) #[true, true, true, true, true, false, false, false, false, false, false, false, false, false, false, false, false, false, false, false, false, false, false, false, false, false, false, false, false, false, false, false, false, false, false, false, false, false, false, false, false, false, false, false, false, false, false, false, false, false, false, false, false, false, false, false, false, false] rfl rfl (take_ofW HT_.out HW_.out (by kernel_rfl)) (fun _ _ _ h => h) (Or.inl ⟨by rfl, ?_⟩) hHeld ?_ ?_
  rotate_left
  · intro w' s0; have q1 := s0.c5; have q2 := s0.c6; have q3 := s0.ca; have q4 := s0.ci; have q5 := s0.ck
    go_simp
    with_reducible rfl
  rotate_left
  · simp only [Act.put, List.setIfInBounds_toArray, List.set_cons_zero, List.set_cons_succ, i64_w, i32_w]
    rfl
  refine one_ (i := 5) (N := (some 32)) #[true, true, true, true, true, true, false, false, false, false, false, false, false, false, false, false, false, false, false, false, false, false, false, false, false, false, false, false, false, false, false, false, false, false, false, false, false, false, false, false, false, false, false, false, false, false, false, false, false, false, false, false, false, false, false, false, false, false] rfl rfl (one_of HT_.out (by kernel_rfl)) (by decide) (fun K hK => ?_)
  refine goes_ Tryz.func7 (by kernel_rfl) rfl #[.agg #[.int .u32 u]] (by rfl) rfl rfl (by (try simp only [List.map_toArray, List.map_cons, List.map_nil]); first | done | rfl) ?_
  (with_reducible refine (bits_Set_uint32_Width.calls u 32 _ HDb.out).mono ?_)
  rintro e w2 ⟨rfl, hb2⟩
  refine ⟨_, rfl, ?_⟩
  have S2 := OneSit.below hHeld hb2
  clear hb2
  refine hK.out _ _ (S2) (fun hHeld => ?_)
  clear hK K
  refine norm_ (a' := ?_) ?_ ?_
  rotate_left
  · show Act.put _ (some 32) _ = _
    simp only [Act.put, List.setIfInBounds_toArray, List.set_cons_zero, List.set_cons_succ, i64_w, i32_w]
    rfl
  refine pure_ (i := 6) (N := (some 33)) (v := ?_) (a' := ?_) #[true, true, true, true, true, true, true, false, false, false, false, false, false, false, false, false, false, false, false, false, false, false, false, false, false, false, false, false, false, false, false, false, false, false, false, false, false, false, false, false, false, false, false, false, false, false, false, false, false, false, false, false, false, false, false, false, false, false] rfl rfl (any_of HT_.out (by kernel_rfl)) (fun _ _ _ h => h) (Or.inl ⟨by rfl, ?_⟩) ?_ ?_
  rotate_left
  · intro w'
    go_simp
    with_reducible rfl
  rotate_left
  · simp only [Act.put, List.setIfInBounds_toArray, List.set_cons_zero, List.set_cons_succ, i64_w, i32_w]
    rfl
  refine pure_ (i := 7) (N := (some 34)) (v := ?_) (a' := ?_) #[true, true, true, true, true, true, true, true, false, false, false, false, false, false, false, false, false, false, false, false, false, false, false, false, false, false, false, false, false, false, false, false, false, false, false, false, false, false, false, false, false, false, false, false, false, false, false, false, false, false, false, false, false, false, false, false, false, false] rfl rfl (any_of HT_.out (by kernel_rfl)) (fun _ _ _ h => h) (Or.inl ⟨by rfl, ?_⟩) ?_ ?_
  rotate_left
  · intro w'
    go_simp
    with_reducible rfl
  rotate_left
  · simp only [Act.put, List.setIfInBounds_toArray, List.set_cons_zero, List.set_cons_succ, i64_w, i32_w]
    rfl
  refine pure_ (i := 8) (N := (some 35)) (v := ?_) (a' := ?_) #[true, true, true, true, true, true, true, true, true, false, false, false, false, false, false, false, false, false, false, false, false, false, false, false, false, false, false, false, false, false, false, false, false, false, false, false, false, false, false, false, false, false, false, false, false, false, false, false, false, false, false, false, false, false, false, false, false, false] rfl rfl (any_of HT_.out (by kernel_rfl)) (fun _ _ _ h => h) (Or.inl ⟨by rfl, ?_⟩) ?_ ?_
  rotate_left
  · intro w'
    go_simp
    with_reducible rfl
  rotate_left
  · simp only [Act.put, List.setIfInBounds_toArray, List.set_cons_zero, List.set_cons_succ, i64_w, i32_w]
    rfl
  refine take_ (i := 9) (N := (some 36)) (v := ?_) (a' := ?_) #[true, true, true, true, true, true, true, true, true, true, false, false, false, false, false, false, false, false, false, false, false, false, false, false, false, false, false, false, false, false, false, false, false, false, false, false, false, false, false, false, false, false, false, false, false, false, false, false, false, false, false, false, false, false, false, false, false, false] rfl rfl (take_ofW HT_.out HW_.out (by kernel_rfl)) (fun _ _ _ h => h) (Or.inl ⟨by rfl, ?_⟩) hHeld ?_ ?_
  rotate_left
  · intro w' s0; have q1 := s0.c5; have q2 := s0.c6; have q3 := s0.ca; have q4 := s0.ci; have q5 := s0.ck
    go_simp
    with_reducible rfl
  rotate_left
  · simp only [Act.put, List.setIfInBounds_toArray, List.set_cons_zero, List.set_cons_succ, i64_w, i32_w]
    rfl
  refine pure_ (i := 11) (N := (some 38)) (v := ?_) (a' := ?_) #[true, true, true, true, true, true, true, true, true, true, false, true, false, false, false, false, false, false, false, false, false, false, false, false, false, false, false, false, false, false, false, false, false, false, false, false, false, false, false, false, false, false, false, false, false, false, false, false, false, false, false, false, false, false, false, false, false, false] rfl rfl (any_of HT_.out (by kernel_rfl)) (fun _ _ _ h => h) (Or.inl ⟨by rfl, ?_⟩) ?_ ?_
  rotate_left
  · intro w'
    go_simp
    with_reducible rfl
  rotate_left
  · simp only [Act.put, List.setIfInBounds_toArray, List.set_cons_zero, List.set_cons_succ, i64_w, i32_w]
    rfl
  refine one_ (i := 10) (N := (some 37)) #[true, true, true, true, true, true, true, true, true, true, true, true, false, false, false, false, false, false, false, false, false, false, false, false, false, false, false, false, false, false, false, false, false, false, false, false, false, false, false, false, false, false, false, false, false, false, false, false, false, false, false, false, false, false, false, false, false, false] rfl rfl (one_of HT_.out (by kernel_rfl)) (by decide) (fun K hK => ?_)
  refine goes_ Tryz.func8 (by kernel_rfl) rfl #[.agg #[.int .u16 v]] (by rfl) rfl rfl (by (try simp only [List.map_toArray, List.map_cons, List.map_nil]); first | done | rfl) ?_
  (with_reducible refine (bits_Set_uint16_Len.calls v l1 _ HLa.out).mono ?_)
  rintro e w2 ⟨rfl, hb2⟩
  refine ⟨_, rfl, ?_⟩
  have S2 := OneSit.below hHeld hb2
  clear hb2
  refine hK.out _ _ (S2) (fun hHeld => ?_)
  clear hK K
  refine norm_ (a' := ?_) ?_ ?_
  rotate_left
  · show Act.put _ (some 37) _ = _
    simp only [Act.put, List.setIfInBounds_toArray, List.set_cons_zero, List.set_cons_succ, i64_w, i32_w]
    rfl
  refine one_ (i := 12) (N := (some 39)) #[true, true, true, true, true, true, true, true, true, true, true, true, true, false, false, false, false, false, false, false, false, false, false, false, false, false, false, false, false, false, false, false, false, false, false, false, false, false, false, false, false, false, false, false, false, false, false, false, false, false, false, false, false, false, false, false, false, false] rfl rfl (one_of HT_.out (by kernel_rfl)) (by decide) (fun K hK => ?_)
  refine goes_ Tryz.func9 (by kernel_rfl) rfl #[.int .u64 v] (by rfl) rfl rfl (by (try simp only [List.map_toArray, List.map_cons, List.map_nil]); first | done | rfl) ?_
  (with_reducible refine (provostref01_Len.calls KF v l1 _ HLb.out).mono ?_)
  rintro e w2 ⟨rfl, hb2⟩
  refine ⟨_, rfl, ?_⟩
  have S2 := OneSit.below hHeld hb2
  clear hb2
  refine hK.out _ _ (S2) (fun hHeld => ?_)
  clear hK K
  refine norm_ (a' := ?_) ?_ ?_
  rotate_left
  · show Act.put _ (some 39) _ = _
    simp only [Act.put, List.setIfInBounds_toArray, List.set_cons_zero, List.set_cons_succ, i64_w, i32_w]
    rfl
  refine pure_ (i := 13) (N := (some 40)) (v := ?_) (a' := ?_) #[true, true, true, true, true, true, true, true, true, true, true, true, true, true, false, false, false, false, false, false, false, false, false, false, false, false, false, false, false, false, false, false, false, false, false, false, false, false, false, false, false, false, false, false, false, false, false, false, false, false, false, false, false, false, false, false, false, false] rfl rfl (any_of HT_.out (by kernel_rfl)) (fun _ _ _ h => h) (Or.inl ⟨by rfl, ?_⟩) ?_ ?_
  rotate_left
  · intro w'
    go_simp
    with_reducible rfl
  rotate_left
  · simp only [Act.put, List.setIfInBounds_toArray, List.set_cons_zero, List.set_cons_succ, i64_w, i32_w]
    rfl
  refine pure_ (i := 14) (N := (some 41)) (v := ?_) (a' := ?_) #[true, true, true, true, true, true, true, true, true, true, true, true, true, true, true, false, false, false, false, false, false, false, false, false, false, false, false, false, false, false, false, false, false, false, false, false, false, false, false, false, false, false, false, false, false, false, false, false, false, false, false, false, false, false, false, false, false, false] rfl rfl (any_of HT_.out (by kernel_rfl)) (fun _ _ _ h => h) (Or.inl ⟨by rfl, ?_⟩) ?_ ?_
  rotate_left
  · intro w'
    go_simp
    with_reducible rfl
  rotate_left
  · simp only [Act.put, List.setIfInBounds_toArray, List.set_cons_zero, List.set_cons_succ, i64_w, i32_w]
    rfl
  refine pure_ (i := 15) (N := (some 42)) (v := ?_) (a' := ?_) #[true, true, true, true, true, true, true, true, true, true, true, true, true, true, true, true, false, false, false, false, false, false, false, false, false, false, false, false, false, false, false, false, false, false, false, false, false, false, false, false, false, false, false, false, false, false, false, false, false, false, false, false, false, false, false, false, false, false] rfl rfl (any_of HT_.out (by kernel_rfl)) (fun _ _ _ h => h) (Or.inl ⟨by rfl, ?_⟩) ?_ ?_
  rotate_left
  · intro w'
    go_simp
    with_reducible rfl
  rotate_left
  · simp only [Act.put, List.setIfInBounds_toArray, List.set_cons_zero, List.set_cons_succ, i64_w, i32_w]
    rfl
  refine take_ (i := 16) (N := (some 43)) (v := ?_) (a' := ?_) #[true, true, true, true, true, true, true, true, true, true, true, true, true, true, true, true, true, false, false, false, false, false, false, false, false, false, false, false, false, false, false, false, false, false, false, false, false, false, false, false, false, false, false, false, false, false, false, false, false, false, false, false, false, false, false, false, false, false] rfl rfl (take_ofW HT_.out HW_.out (by kernel_rfl)) (fun _ _ _ h => h) (Or.inl ⟨by rfl, ?_⟩) hHeld ?_ ?_
  rotate_left
  · intro w' s0; have q1 := s0.c5; have q2 := s0.c6; have q3 := s0.ca; have q4 := s0.ci; have q5 := s0.ck
    go_simp
    with_reducible rfl
  rotate_left
  · simp only [Act.put, List.setIfInBounds_toArray, List.set_cons_zero, List.set_cons_succ, i64_w, i32_w]
    rfl
  refine pure_ (i := 18) (N := (some 45)) (v := ?_) (a' := ?_) #[true, true, true, true, true, true, true, true, true, true, true, true, true, true, true, true, true, false, true, false, false, false, false, false, false, false, false, false, false, false, false, false, false, false, false, false, false, false, false, false, false, false, false, false, false, false, false, false, false, false, false, false, false, false, false, false, false, false] rfl rfl (any_of HT_.out (by kernel_rfl)) (fun _ _ _ h => h) (Or.inl ⟨by rfl, ?_⟩) ?_ ?_
  rotate_left
  · intro w'
    go_simp
    with_reducible rfl
  rotate_left
  · simp only [Act.put, List.setIfInBounds_toArray, List.set_cons_zero, List.set_cons_succ, i64_w, i32_w]
    rfl
  refine one_ (i := 17) (N := (some 44)) #[true, true, true, true, true, true, true, true, true, true, true, true, true, true, true, true, true, true, true, false, false, false, false, false, false, false, false, false, false, false, false, false, false, false, false, false, false, false, false, false, false, false, false, false, false, false, false, false, false, false, false, false, false, false, false, false, false, false] rfl rfl (one_of HT_.out (by kernel_rfl)) (by decide) (fun K hK => ?_)
  refine goes_ Tryz.func10 (by kernel_rfl) rfl #[.agg #[.int .u32 u]] (by rfl) rfl rfl (by (try simp only [List.map_toArray, List.map_cons, List.map_nil]); first | done | rfl) ?_
  (with_reducible refine (bits_Set_uint32_Len.calls u l2 _ HLc.out).mono ?_)
  rintro e w2 ⟨rfl, hb2⟩
  refine ⟨_, rfl, ?_⟩
  have S2 := OneSit.below hHeld hb2
  clear hb2
  refine hK.out _ _ (S2) (fun hHeld => ?_)
  clear hK K
  refine norm_ (a' := ?_) ?_ ?_
  rotate_left
  · show Act.put _ (some 44) _ = _
    simp only [Act.put, List.setIfInBounds_toArray, List.set_cons_zero, List.set_cons_succ, i64_w, i32_w]
    rfl
  refine one_ (i := 19) (N := (some 46)) #[true, true, true, true, true, true, true, true, true, true, true, true, true, true, true, true, true, true, true, true, false, false, false, false, false, false, false, false, false, false, false, false, false, false, false, false, false, false, false, false, false, false, false, false, false, false, false, false, false, false, false, false, false, false, false, false, false, false] rfl rfl (one_of HT_.out (by kernel_rfl)) (by decide) (fun K hK => ?_)
  refine goes_ Tryz.func9 (by kernel_rfl) rfl #[.int .u64 u] (by rfl) rfl rfl (by (try simp only [List.map_toArray, List.map_cons, List.map_nil]); first | done | rfl) ?_
  (with_reducible refine (provostref01_Len.calls KF u l2 _ HLd.out).mono ?_)
  rintro e w2 ⟨rfl, hb2⟩
  refine ⟨_, rfl, ?_⟩
  have S2 := OneSit.below hHeld hb2
  clear hb2
  refine hK.out _ _ (S2) (fun hHeld => ?_)
  clear hK K
  refine norm_ (a' := ?_) ?_ ?_
  rotate_left
  · show Act.put _ (some 46) _ = _
    simp only [Act.put, List.setIfInBounds_toArray, List.set_cons_zero, List.set_cons_succ, i64_w, i32_w]
    rfl
  refine pure_ (i := 20) (N := (some 47)) (v := ?_) (a' := ?_) #[true, true, true, true, true, true, true, true, true, true, true, true, true, true, true, true, true, true, true, true, true, false, false, false, false, false, false, false, false, false, false, false, false, false, false, false, false, false, false, false, false, false, false, false, false, false, false, false, false, false, false, false, false, false, false, false, false, false] rfl rfl (any_of HT_.out (by kernel_rfl)) (fun _ _ _ h => h) (Or.inl ⟨by rfl, ?_⟩) ?_ ?_
  rotate_left
  · intro w'
    go_simp
    with_reducible rfl
  rotate_left
  · simp only [Act.put, List.setIfInBounds_toArray, List.set_cons_zero, List.set_cons_succ, i64_w, i32_w]
    rfl
  refine pure_ (i := 21) (N := (some 48)) (v := ?_) (a' := ?_) #[true, true, true, true, true, true, true, true, true, true, true, true, true, true, true, true, true, true, true, true, true, true, false, false, false, false, false, false, false, false, false, false, false, false, false, false, false, false, false, false, false, false, false, false, false, false, false, false, false, false, false, false, false, false, false, false, false, false] rfl rfl (any_of HT_.out (by kernel_rfl)) (fun _ _ _ h => h) (Or.inl ⟨by rfl, ?_⟩) ?_ ?_
  rotate_left
  · intro w'
    go_simp
    with_reducible rfl
  rotate_left
  · simp only [Act.put, List.setIfInBounds_toArray, List.set_cons_zero, List.set_cons_succ, i64_w, i32_w]
    rfl
  refine pure_ (i := 22) (N := (some 49)) (v := ?_) (a' := ?_) #[true, true, true, true, true, true, true, true, true, true, true, true, true, true, true, true, true, true, true, true, true, true, true, false, false, false, false, false, false, false, false, false, false, false, false, false, false, false, false, false, false, false, false, false, false, false, false, false, false, false, false, false, false, false, false, false, false, false] rfl rfl (any_of HT_.out (by kernel_rfl)) (fun _ _ _ h => h) (Or.inl ⟨by rfl, ?_⟩) ?_ ?_
  rotate_left
  · intro w'
    go_simp
    with_reducible rfl
  rotate_left
  · simp only [Act.put, List.setIfInBounds_toArray, List.set_cons_zero, List.set_cons_succ, i64_w, i32_w]
    rfl
  refine take_ (i := 23) (N := (some 50)) (v := ?_) (a' := ?_) #[true, true, true, true, true, true, true, true, true, true, true, true, true, true, true, true, true, true, true, true, true, true, true, true, false, false, false, false, false, false, false, false, false, false, false, false, false, false, false, false, false, false, false, false, false, false, false, false, false, false, false, false, false, false, false, false, false, false] rfl rfl (take_ofW HT_.out HW_.out (by kernel_rfl)) (fun _ _ _ h => h) (Or.inl ⟨by rfl, ?_⟩) hHeld ?_ ?_
  rotate_left
  · intro w' s0; have q1 := s0.c5; have q2 := s0.c6; have q3 := s0.ca; have q4 := s0.ci; have q5 := s0.ck
    go_simp
    with_reducible rfl
  rotate_left
  · simp only [Act.put, List.setIfInBounds_toArray, List.set_cons_zero, List.set_cons_succ, i64_w, i32_w]
    rfl
  refine pure_ (i := 25) (N := (some 52)) (v := ?_) (a' := ?_) #[true, true, true, true, true, true, true, true, true, true, true, true, true, true, true, true, true, true, true, true, true, true, true, true, false, true, false, false, false, false, false, false, false, false, false, false, false, false, false, false, false, false, false, false, false, false, false, false, false, false, false, false, false, false, false, false, false, false] rfl rfl (any_of HT_.out (by kernel_rfl)) (fun _ _ _ h => h) (Or.inl ⟨by rfl, ?_⟩) ?_ ?_
  rotate_left
  · intro w'
    go_simp
    with_reducible rfl
  rotate_left
  · simp only [Act.put, List.setIfInBounds_toArray, List.set_cons_zero, List.set_cons_succ, i64_w, i32_w]
    rfl
  refine one_ (i := 24) (N := (some 51)) #[true, true, true, true, true, true, true, true, true, true, true, true, true, true, true, true, true, true, true, true, true, true, true, true, true, true, false, false, false, false, false, false, false, false, false, false, false, false, false, false, false, false, false, false, false, false, false, false, false, false, false, false, false, false, false, false, false, false] rfl rfl (one_of HT_.out (by kernel_rfl)) (by decide) (fun K hK => ?_)
  refine goes_ Tryz.func11 (by kernel_rfl) rfl #[.agg #[.int .u16 v]] (by rfl) rfl rfl (by (try simp only [List.map_toArray, List.map_cons, List.map_nil]); first | done | rfl) ?_
  (with_reducible refine (bits_Set_uint16_High.calls v g1 _ HHa.out).mono ?_)
  rintro e w2 ⟨rfl, hb2⟩
  refine ⟨_, rfl, ?_⟩
  have S2 := OneSit.below hHeld hb2
  clear hb2
  refine hK.out _ _ (S2) (fun hHeld => ?_)
  clear hK K
  refine norm_ (a' := ?_) ?_ ?_
  rotate_left
  · show Act.put _ (some 51) _ = _
    simp only [Act.put, List.setIfInBounds_toArray, List.set_cons_zero, List.set_cons_succ, i64_w, i32_w]
    rfl
  refine one_ (i := 26) (N := (some 53)) #[true, true, true, true, true, true, true, true, true, true, true, true, true, true, true, true, true, true, true, true, true, true, true, true, true, true, true, false, false, false, false, false, false, false, false, false, false, false, false, false, false, false, false, false, false, false, false, false, false, false, false, false, false, false, false, false, false, false] rfl rfl (one_of HT_.out (by kernel_rfl)) (by decide) (fun K hK => ?_)
  refine goes_ Tryz.func12 (by kernel_rfl) rfl #[.int .u64 v] (by rfl) rfl rfl (by (try simp only [List.map_toArray, List.map_cons, List.map_nil]); first | done | rfl) ?_
  (with_reducible refine (provostref01_High.calls KF v g1 _ HHb.out).mono ?_)
  rintro e w2 ⟨rfl, hb2⟩
  refine ⟨_, rfl, ?_⟩
  have S2 := OneSit.below hHeld hb2
  clear hb2
  refine hK.out _ _ (S2) (fun hHeld => ?_)
  clear hK K
  refine norm_ (a' := ?_) ?_ ?_
  rotate_left
  · show Act.put _ (some 53) _ = _
    simp only [Act.put, List.setIfInBounds_toArray, List.set_cons_zero, List.set_cons_succ, i64_w, i32_w]
    rfl
  refine pure_ (i := 27) (N := (some 54)) (v := ?_) (a' := ?_) #[true, true, true, true, true, true, true, true, true, true, true, true, true, true, true, true, true, true, true, true, true, true, true, true, true, true, true, true, false, false, false, false, false, false, false, false, false, false, false, false, false, false, false, false, false, false, false, false, false, false, false, false, false, false, false, false, false, false] rfl rfl (any_of HT_.out (by kernel_rfl)) (fun _ _ _ h => h) (Or.inl ⟨by rfl, ?_⟩) ?_ ?_
  rotate_left
  · intro w'
    go_simp
    with_reducible rfl
  rotate_left
  · simp only [Act.put, List.setIfInBounds_toArray, List.set_cons_zero, List.set_cons_succ, i64_w, i32_w]
    rfl
  refine pure_ (i := 28) (N := (some 55)) (v := ?_) (a' := ?_) #[true, true, true, true, true, true, true, true, true, true, true, true, true, true, true, true, true, true, true, true, true, true, true, true, true, true, true, true, true, false, false, false, false, false, false, false, false, false, false, false, false, false, false, false, false, false, false, false, false, false, false, false, false, false, false, false, false, false] rfl rfl (any_of HT_.out (by kernel_rfl)) (fun _ _ _ h => h) (Or.inl ⟨by rfl, ?_⟩) ?_ ?_
  rotate_left
  · intro w'
    go_simp
    with_reducible rfl
  rotate_left
  · simp only [Act.put, List.setIfInBounds_toArray, List.set_cons_zero, List.set_cons_succ, i64_w, i32_w]
    rfl
  refine pure_ (i := 29) (N := (some 56)) (v := ?_) (a' := ?_) #[true, true, true, true, true, true, true, true, true, true, true, true, true, true, true, true, true, true, true, true, true, true, true, true, true, true, true, true, true, true, false, false, false, false, false, false, false, false, false, false, false, false, false, false, false, false, false, false, false, false, false, false, false, false, false, false, false, false] rfl rfl (any_of HT_.out (by kernel_rfl)) (fun _ _ _ h => h) (Or.inl ⟨by rfl, ?_⟩) ?_ ?_
  rotate_left
  · intro w'
    go_simp
    with_reducible rfl
  rotate_left
  · simp only [Act.put, List.setIfInBounds_toArray, List.set_cons_zero, List.set_cons_succ, i64_w, i32_w]
    rfl
  refine take_ (i := 30) (N := (some 57)) (v := ?_) (a' := ?_) #[true, true, true, true, true, true, true, true, true, true, true, true, true, true, true, true, true, true, true, true, true, true, true, true, true, true, true, true, true, true, true, false, false, false, false, false, false, false, false, false, false, false, false, false, false, false, false, false, false, false, false, false, false, false, false, false, false, false] rfl rfl (take_ofW HT_.out HW_.out (by kernel_rfl)) (fun _ _ _ h => h) (Or.inl ⟨by rfl, ?_⟩) hHeld ?_ ?_
  rotate_left
  · intro w' s0; have q1 := s0.c5; have q2 := s0.c6; have q3 := s0.ca; have q4 := s0.ci; have q5 := s0.ck
    go_simp
    with_reducible rfl
  rotate_left
  · simp only [Act.put, List.setIfInBounds_toArray, List.set_cons_zero, List.set_cons_succ, i64_w, i32_w]
    rfl
  refine pure_ (i := 32) (N := (some 59)) (v := ?_) (a' := ?_) #[true, true, true, true, true, true, true, true, true, true, true, true, true, true, true, true, true, true, true, true, true, true, true, true, true, true, true, true, true, true, true, false, true, false, false, false, false, false, false, false, false, false, false, false, false, false, false, false, false, false, false, false, false, false, false, false, false, false] rfl rfl (any_of HT_.out (by kernel_rfl)) (fun _ _ _ h => h) (Or.inl ⟨by rfl, ?_⟩) ?_ ?_
  rotate_left
  · intro w'
    go_simp
    with_reducible rfl
  rotate_left
  · simp only [Act.put, List.setIfInBounds_toArray, List.set_cons_zero, List.set_cons_succ, i64_w, i32_w]
    rfl
  refine one_ (i := 31) (N := (some 58)) #[true, true, true, true, true, true, true, true, true, true, true, true, true, true, true, true, true, true, true, true, true, true, true, true, true, true, true, true, true, true, true, true, true, false, false, false, false, false, false, false, false, false, false, false, false, false, false, false, false, false, false, false, false, false, false, false, false, false] rfl rfl (one_of HT_.out (by kernel_rfl)) (by decide) (fun K hK => ?_)
  refine goes_ Tryz.func13 (by kernel_rfl) rfl #[.agg #[.int .u32 u]] (by rfl) rfl rfl (by (try simp only [List.map_toArray, List.map_cons, List.map_nil]); first | done | rfl) ?_
  (with_reducible refine (bits_Set_uint32_High.calls u g2 _ HHc.out).mono ?_)
  rintro e w2 ⟨rfl, hb2⟩
  refine ⟨_, rfl, ?_⟩
  have S2 := OneSit.below hHeld hb2
  clear hb2
  refine hK.out _ _ (S2) (fun hHeld => ?_)
  clear hK K
  refine norm_ (a' := ?_) ?_ ?_
  rotate_left
  · show Act.put _ (some 58) _ = _
    simp only [Act.put, List.setIfInBounds_toArray, List.set_cons_zero, List.set_cons_succ, i64_w, i32_w]
    rfl
  refine one_ (i := 33) (N := (some 60)) #[true, true, true, true, true, true, true, true, true, true, true, true, true, true, true, true, true, true, true, true, true, true, true, true, true, true, true, true, true, true, true, true, true, true, false, false, false, false, false, false, false, false, false, false, false, false, false, false, false, false, false, false, false, false, false, false, false, false] rfl rfl (one_of HT_.out (by kernel_rfl)) (by decide) (fun K hK => ?_)
  refine goes_ Tryz.func12 (by kernel_rfl) rfl #[.int .u64 u] (by rfl) rfl rfl (by (try simp only [List.map_toArray, List.map_cons, List.map_nil]); first | done | rfl) ?_
  (with_reducible refine (provostref01_High.calls KF u g2 _ HHd.out).mono ?_)
  rintro e w2 ⟨rfl, hb2⟩
  refine ⟨_, rfl, ?_⟩
  have S2 := OneSit.below hHeld hb2
  clear hb2
  refine hK.out _ _ (S2) (fun hHeld => ?_)
  clear hK K
  refine norm_ (a' := ?_) ?_ ?_
  rotate_left
  · show Act.put _ (some 60) _ = _
    simp only [Act.put, List.setIfInBounds_toArray, List.set_cons_zero, List.set_cons_succ, i64_w, i32_w]
    rfl
  refine pure_ (i := 34) (N := (some 61)) (v := ?_) (a' := ?_) #[true, true, true, true, true, true, true, true, true, true, true, true, true, true, true, true, true, true, true, true, true, true, true, true, true, true, true, true, true, true, true, true, true, true, true, false, false, false, false, false, false, false, false, false, false, false, false, false, false, false, false, false, false, false, false, false, false, false] rfl rfl (any_of HT_.out (by kernel_rfl)) (fun _ _ _ h => h) (Or.inl ⟨by rfl, ?_⟩) ?_ ?_
  rotate_left
  · intro w'
    go_simp
    with_reducible rfl
  rotate_left
  · simp only [Act.put, List.setIfInBounds_toArray, List.set_cons_zero, List.set_cons_succ, i64_w, i32_w]
    rfl
  refine pure_ (i := 35) (N := (some 62)) (v := ?_) (a' := ?_) #[true, true, true, true, true, true, true, true, true, true, true, true, true, true, true, true, true, true, true, true, true, true, true, true, true, true, true, true, true, true, true, true, true, true, true, true, false, false, false, false, false, false, false, false, false, false, false, false, false, false, false, false, false, false, false, false, false, false] rfl rfl (any_of HT_.out (by kernel_rfl)) (fun _ _ _ h => h) (Or.inl ⟨by rfl, ?_⟩) ?_ ?_
  rotate_left
  · intro w'
    go_simp
    with_reducible rfl
  rotate_left
  · simp only [Act.put, List.setIfInBounds_toArray, List.set_cons_zero, List.set_cons_succ, i64_w, i32_w]
    rfl
  refine pure_ (i := 36) (N := (some 63)) (v := ?_) (a' := ?_) #[true, true, true, true, true, true, true, true, true, true, true, true, true, true, true, true, true, true, true, true, true, true, true, true, true, true, true, true, true, true, true, true, true, true, true, true, true, false, false, false, false, false, false, false, false, false, false, false, false, false, false, false, false, false, false, false, false, false] rfl rfl (any_of HT_.out (by kernel_rfl)) (fun _ _ _ h => h) (Or.inl ⟨by rfl, ?_⟩) ?_ ?_
  rotate_left
  · intro w'
    go_simp
    with_reducible rfl
  rotate_left
  · simp only [Act.put, List.setIfInBounds_toArray, List.set_cons_zero, List.set_cons_succ, i64_w, i32_w]
    rfl
  refine take_ (i := 37) (N := (some 64)) (v := ?_) (a' := ?_) #[true, true, true, true, true, true, true, true, true, true, true, true, true, true, true, true, true, true, true, true, true, true, true, true, true, true, true, true, true, true, true, true, true, true, true, true, true, true, false, false, false, false, false, false, false, false, false, false, false, false, false, false, false, false, false, false, false, false] rfl rfl (take_ofW HT_.out HW_.out (by kernel_rfl)) (fun _ _ _ h => h) (Or.inl ⟨by rfl, ?_⟩) hHeld ?_ ?_
  rotate_left
  · intro w' s0; have q1 := s0.c5; have q2 := s0.c6; have q3 := s0.ca; have q4 := s0.ci; have q5 := s0.ck
    go_simp
    with_reducible rfl
  rotate_left
  · simp only [Act.put, List.setIfInBounds_toArray, List.set_cons_zero, List.set_cons_succ, i64_w, i32_w]
    rfl
  refine pure_ (i := 38) (N := (some 65)) (v := ?_) (a' := ?_) #[true, true, true, true, true, true, true, true, true, true, true, true, true, true, true, true, true, true, true, true, true, true, true, true, true, true, true, true, true, true, true, true, true, true, true, true, true, true, true, false, false, false, false, false, false, false, false, false, false, false, false, false, false, false, false, false, false, false] rfl rfl (any_of HT_.out (by kernel_rfl)) (fun _ _ _ h => h) (Or.inl ⟨by rfl, ?_⟩) ?_ ?_
  rotate_left
  · intro w'
    go_simp
    with_reducible rfl
  rotate_left
  · simp only [Act.put, List.setIfInBounds_toArray, List.set_cons_zero, List.set_cons_succ, i64_w, i32_w]
    rfl
  refine take_ (i := 39) (N := (some 66)) (v := ?_) (a' := ?_) #[true, true, true, true, true, true, true, true, true, true, true, true, true, true, true, true, true, true, true, true, true, true, true, true, true, true, true, true, true, true, true, true, true, true, true, true, true, true, true, true, false, false, false, false, false, false, false, false, false, false, false, false, false, false, false, false, false, false] rfl rfl (take_ofW HT_.out HW_.out (by kernel_rfl)) (fun _ _ _ h => h) (Or.inl ⟨by rfl, ?_⟩) hHeld ?_ ?_
  rotate_left
  · intro w' s0; have q1 := s0.c5; have q2 := s0.c6; have q3 := s0.ca; have q4 := s0.ci; have q5 := s0.ck
    go_simp
    with_reducible rfl
  rotate_left
  · simp only [Act.put, List.setIfInBounds_toArray, List.set_cons_zero, List.set_cons_succ, i64_w, i32_w]
    rfl
  refine pure_ (i := 41) (N := (some 68)) (v := ?_) (a' := ?_) #[true, true, true, true, true, true, true, true, true, true, true, true, true, true, true, true, true, true, true, true, true, true, true, true, true, true, true, true, true, true, true, true, true, true, true, true, true, true, true, true, false, true, false, false, false, false, false, false, false, false, false, false, false, false, false, false, false, false] rfl rfl (any_of HT_.out (by kernel_rfl)) (fun _ _ _ h => h) (Or.inl ⟨by rfl, ?_⟩) ?_ ?_
  rotate_left
  · intro w'
    go_simp
    with_reducible rfl
  rotate_left
  · simp only [Act.put, List.setIfInBounds_toArray, List.set_cons_zero, List.set_cons_succ, i64_w, i32_w]
    rfl
  refine pure_ (i := 42) (N := (some 69)) (v := ?_) (a' := ?_) #[true, true, true, true, true, true, true, true, true, true, true, true, true, true, true, true, true, true, true, true, true, true, true, true, true, true, true, true, true, true, true, true, true, true, true, true, true, true, true, true, false, true, true, false, false, false, false, false, false, false, false, false, false, false, false, false, false, false] rfl rfl (any_of HT_.out (by kernel_rfl)) (fun _ _ _ h => h) (Or.inl ⟨by rfl, ?_⟩) ?_ ?_
  rotate_left
  · intro w'
    go_simp
    with_reducible rfl
  rotate_left
  · simp only [Act.put, List.setIfInBounds_toArray, List.set_cons_zero, List.set_cons_succ, i64_w, i32_w]
    rfl
  refine take_ (i := 43) (N := (some 70)) (v := ?_) (a' := ?_) #[true, true, true, true, true, true, true, true, true, true, true, true, true, true, true, true, true, true, true, true, true, true, true, true, true, true, true, true, true, true, true, true, true, true, true, true, true, true, true, true, false, true, true, true, false, false, false, false, false, false, false, false, false, false, false, false, false, false] rfl rfl (take_ofW HT_.out HW_.out (by kernel_rfl)) (fun _ _ _ h => h) (Or.inl ⟨by rfl, ?_⟩) hHeld ?_ ?_
  rotate_left
  · intro w' s0; have q1 := s0.c5; have q2 := s0.c6; have q3 := s0.ca; have q4 := s0.ci; have q5 := s0.ck
    go_simp
    with_reducible rfl
  rotate_left
  · simp only [Act.put, List.setIfInBounds_toArray, List.set_cons_zero, List.set_cons_succ, i64_w, i32_w]
    rfl
  refine one_ (i := 40) (N := (some 67)) #[true, true, true, true, true, true, true, true, true, true, true, true, true, true, true, true, true, true, true, true, true, true, true, true, true, true, true, true, true, true, true, true, true, true, true, true, true, true, true, true, true, true, true, true, false, false, false, false, false, false, false, false, false, false, false, false, false, false] rfl rfl (one_of HT_.out (by kernel_rfl)) (by decide) (fun K hK => ?_)
  refine goes_ Tryz.func14 (by kernel_rfl) rfl #[.agg #[.int .u16 v], .int .i64 i] (by rfl) rfl rfl (by (try simp only [List.map_toArray, List.map_cons, List.map_nil]); first | done | rfl) ?_
  (with_reducible refine (bits_Set_uint16_Has.calls v i h1 _ HAa.out).mono ?_)
  rintro e w2 ⟨rfl, hb2⟩
  refine ⟨_, rfl, ?_⟩
  have S2 := OneSit.below hHeld hb2
  clear hb2
  refine hK.out _ _ (S2) (fun hHeld => ?_)
  clear hK K
  refine norm_ (a' := ?_) ?_ ?_
  rotate_left
  · show Act.put _ (some 67) _ = _
    simp only [Act.put, List.setIfInBounds_toArray, List.set_cons_zero, List.set_cons_succ, i64_w, i32_w]
    rfl
  refine one_ (i := 44) (N := (some 71)) #[true, true, true, true, true, true, true, true, true, true, true, true, true, true, true, true, true, true, true, true, true, true, true, true, true, true, true, true, true, true, true, true, true, true, true, true, true, true, true, true, true, true, true, true, true, false, false, false, false, false, false, false, false, false, false, false, false, false] rfl rfl (one_of HT_.out (by kernel_rfl)) (by decide) (fun K hK => ?_)
  refine goes_ Tryz.func15 (by kernel_rfl) rfl #[.int .u64 v, .int .i64 16, .int .i64 i] (by rfl) rfl rfl (by (try simp only [List.map_toArray, List.map_cons, List.map_nil]); first | done | rfl) ?_
  (with_reducible refine (provostref01_Has.calls v 16 i h1 _ HAb.out).mono ?_)
  rintro e w2 ⟨rfl, ⟨⟨nd, rfl⟩⟩⟩
  refine ⟨_, rfl, ?_⟩
  have S2 := OneSit.drewN hHeld nd
  refine hK.out _ _ (S2) (fun hHeld => ?_)
  clear hK K
  refine norm_ (a' := ?_) ?_ ?_
  rotate_left
  · show Act.put _ (some 71) _ = _
    simp only [Act.put, List.setIfInBounds_toArray, List.set_cons_zero, List.set_cons_succ, i64_w, i32_w]
    rfl
  refine pure_ (i := 45) (N := (some 72)) (v := ?_) (a' := ?_) #[true, true, true, true, true, true, true, true, true, true, true, true, true, true, true, true, true, true, true, true, true, true, true, true, true, true, true, true, true, true, true, true, true, true, true, true, true, true, true, true, true, true, true, true, true, true, false, false, false, false, false, false, false, false, false, false, false, false] rfl rfl (any_of HT_.out (by kernel_rfl)) (fun _ _ _ h => h) (Or.inl ⟨by rfl, ?_⟩) ?_ ?_
  rotate_left
  · intro w'
    go_simp
    with_reducible rfl
  rotate_left
  · simp only [Act.put, List.setIfInBounds_toArray, List.set_cons_zero, List.set_cons_succ, i64_w, i32_w]
    rfl
  refine pure_ (i := 46) (N := (some 73)) (v := ?_) (a' := ?_) #[true, true, true, true, true, true, true, true, true, true, true, true, true, true, true, true, true, true, true, true, true, true, true, true, true, true, true, true, true, true, true, true, true, true, true, true, true, true, true, true, true, true, true, true, true, true, true, false, false, false, false, false, false, false, false, false, false, false] rfl rfl (any_of HT_.out (by kernel_rfl)) (fun _ _ _ h => h) (Or.inl ⟨by rfl, ?_⟩) ?_ ?_
  rotate_left
  · intro w'
    go_simp
    with_reducible rfl
  rotate_left
  · simp only [Act.put, List.setIfInBounds_toArray, List.set_cons_zero, List.set_cons_succ, i64_w, i32_w]
    rfl
  refine pure_ (i := 47) (N := (some 74)) (v := ?_) (a' := ?_) #[true, true, true, true, true, true, true, true, true, true, true, true, true, true, true, true, true, true, true, true, true, true, true, true, true, true, true, true, true, true, true, true, true, true, true, true, true, true, true, true, true, true, true, true, true, true, true, true, false, false, false, false, false, false, false, false, false, false] rfl rfl (any_of HT_.out (by kernel_rfl)) (fun _ _ _ h => h) (Or.inl ⟨by rfl, ?_⟩) ?_ ?_
  rotate_left
  · intro w'
    go_simp
    with_reducible rfl
  rotate_left
  · simp only [Act.put, List.setIfInBounds_toArray, List.set_cons_zero, List.set_cons_succ, i64_w, i32_w]
    rfl
  refine take_ (i := 48) (N := (some 75)) (v := ?_) (a' := ?_) #[true, true, true, true, true, true, true, true, true, true, true, true, true, true, true, true, true, true, true, true, true, true, true, true, true, true, true, true, true, true, true, true, true, true, true, true, true, true, true, true, true, true, true, true, true, true, true, true, true, false, false, false, false, false, false, false, false, false] rfl rfl (take_ofW HT_.out HW_.out (by kernel_rfl)) (fun _ _ _ h => h) (Or.inl ⟨by rfl, ?_⟩) hHeld ?_ ?_
  rotate_left
  · intro w' s0; have q1 := s0.c5; have q2 := s0.c6; have q3 := s0.ca; have q4 := s0.ci; have q5 := s0.ck
    go_simp
    with_reducible rfl
  rotate_left
  · simp only [Act.put, List.setIfInBounds_toArray, List.set_cons_zero, List.set_cons_succ, i64_w, i32_w]
    rfl
  refine pure_ (i := 49) (N := (some 76)) (v := ?_) (a' := ?_) #[true, true, true, true, true, true, true, true, true, true, true, true, true, true, true, true, true, true, true, true, true, true, true, true, true, true, true, true, true, true, true, true, true, true, true, true, true, true, true, true, true, true, true, true, true, true, true, true, true, true, false, false, false, false, false, false, false, false] rfl rfl (any_of HT_.out (by kernel_rfl)) (fun _ _ _ h => h) (Or.inl ⟨by rfl, ?_⟩) ?_ ?_
  rotate_left
  · intro w'
    go_simp
    with_reducible rfl
  rotate_left
  · simp only [Act.put, List.setIfInBounds_toArray, List.set_cons_zero, List.set_cons_succ, i64_w, i32_w]
    rfl
  refine take_ (i := 50) (N := (some 77)) (v := ?_) (a' := ?_) #[true, true, true, true, true, true, true, true, true, true, true, true, true, true, true, true, true, true, true, true, true, true, true, true, true, true, true, true, true, true, true, true, true, true, true, true, true, true, true, true, true, true, true, true, true, true, true, true, true, true, true, false, false, false, false, false, false, false] rfl rfl (take_ofW HT_.out HW_.out (by kernel_rfl)) (fun _ _ _ h => h) (Or.inl ⟨by rfl, ?_⟩) hHeld ?_ ?_
  rotate_left
  · intro w' s0; have q1 := s0.c5; have q2 := s0.c6; have q3 := s0.ca; have q4 := s0.ci; have q5 := s0.ck
    go_simp
    with_reducible rfl
  rotate_left
  · simp only [Act.put, List.setIfInBounds_toArray, List.set_cons_zero, List.set_cons_succ, i64_w, i32_w]
    rfl
  refine pure_ (i := 52) (N := (some 79)) (v := ?_) (a' := ?_) #[true, true, true, true, true, true, true, true, true, true, true, true, true, true, true, true, true, true, true, true, true, true, true, true, true, true, true, true, true, true, true, true, true, true, true, true, true, true, true, true, true, true, true, true, true, true, true, true, true, true, true, false, true, false, false, false, false, false] rfl rfl (any_of HT_.out (by kernel_rfl)) (fun _ _ _ h => h) (Or.inl ⟨by rfl, ?_⟩) ?_ ?_
  rotate_left
  · intro w'
    go_simp
    with_reducible rfl
  rotate_left
  · simp only [Act.put, List.setIfInBounds_toArray, List.set_cons_zero, List.set_cons_succ, i64_w, i32_w]
    rfl
  refine pure_ (i := 53) (N := (some 80)) (v := ?_) (a' := ?_) #[true, true, true, true, true, true, true, true, true, true, true, true, true, true, true, true, true, true, true, true, true, true, true, true, true, true, true, true, true, true, true, true, true, true, true, true, true, true, true, true, true, true, true, true, true, true, true, true, true, true, true, false, true, true, false, false, false, false] rfl rfl (any_of HT_.out (by kernel_rfl)) (fun _ _ _ h => h) (Or.inl ⟨by rfl, ?_⟩) ?_ ?_
  rotate_left
  · intro w'
    go_simp
    with_reducible rfl
  rotate_left
  · simp only [Act.put, List.setIfInBounds_toArray, List.set_cons_zero, List.set_cons_succ, i64_w, i32_w]
    rfl
  refine take_ (i := 54) (N := (some 81)) (v := ?_) (a' := ?_) #[true, true, true, true, true, true, true, true, true, true, true, true, true, true, true, true, true, true, true, true, true, true, true, true, true, true, true, true, true, true, true, true, true, true, true, true, true, true, true, true, true, true, true, true, true, true, true, true, true, true, true, false, true, true, true, false, false, false] rfl rfl (take_ofW HT_.out HW_.out (by kernel_rfl)) (fun _ _ _ h => h) (Or.inl ⟨by rfl, ?_⟩) hHeld ?_ ?_
  rotate_left
  · intro w' s0; have q1 := s0.c5; have q2 := s0.c6; have q3 := s0.ca; have q4 := s0.ci; have q5 := s0.ck
    go_simp
    with_reducible rfl
  rotate_left
  · simp only [Act.put, List.setIfInBounds_toArray, List.set_cons_zero, List.set_cons_succ, i64_w, i32_w]
    rfl
  refine one_ (i := 51) (N := (some 78)) #[true, true, true, true, true, true, true, true, true, true, true, true, true, true, true, true, true, true, true, true, true, true, true, true, true, true, true, true, true, true, true, true, true, true, true, true, true, true, true, true, true, true, true, true, true, true, true, true, true, true, true, true, true, true, true, false, false, false] rfl rfl (one_of HT_.out (by kernel_rfl)) (by decide) (fun K hK => ?_)
  refine goes_ Tryz.func16 (by kernel_rfl) rfl #[.agg #[.int .u32 u], .int .i64 i] (by rfl) rfl rfl (by (try simp only [List.map_toArray, List.map_cons, List.map_nil]); first | done | rfl) ?_
  (with_reducible refine (bits_Set_uint32_Has.calls u i h2 _ HAc.out).mono ?_)
  rintro e w2 ⟨rfl, hb2⟩
  refine ⟨_, rfl, ?_⟩
  have S2 := OneSit.below hHeld hb2
  clear hb2
  refine hK.out _ _ (S2) (fun hHeld => ?_)
  clear hK K
  refine norm_ (a' := ?_) ?_ ?_
  rotate_left
  · show Act.put _ (some 78) _ = _
    simp only [Act.put, List.setIfInBounds_toArray, List.set_cons_zero, List.set_cons_succ, i64_w, i32_w]
    rfl
  refine one_ (i := 55) (N := (some 82)) #[true, true, true, true, true, true, true, true, true, true, true, true, true, true, true, true, true, true, true, true, true, true, true, true, true, true, true, true, true, true, true, true, true, true, true, true, true, true, true, true, true, true, true, true, true, true, true, true, true, true, true, true, true, true, true, true, false, false] rfl rfl (one_of HT_.out (by kernel_rfl)) (by decide) (fun K hK => ?_)
  refine goes_ Tryz.func15 (by kernel_rfl) rfl #[.int .u64 u, .int .i64 32, .int .i64 i] (by rfl) rfl rfl (by (try simp only [List.map_toArray, List.map_cons, List.map_nil]); first | done | rfl) ?_
  (with_reducible refine (provostref01_Has.calls u 32 i h2 _ HAd.out).mono ?_)
  rintro e w2 ⟨rfl, ⟨⟨nd, rfl⟩⟩⟩
  refine ⟨_, rfl, ?_⟩
  have S2 := OneSit.drewN hHeld nd
  refine hK.out _ _ (S2) (fun hHeld => ?_)
  clear hK K
  refine norm_ (a' := ?_) ?_ ?_
  rotate_left
  · show Act.put _ (some 82) _ = _
    simp only [Act.put, List.setIfInBounds_toArray, List.set_cons_zero, List.set_cons_succ, i64_w, i32_w]
    rfl
  refine pure_ (i := 56) (N := (some 83)) (v := ?_) (a' := ?_) #[true, true, true, true, true, true, true, true, true, true, true, true, true, true, true, true, true, true, true, true, true, true, true, true, true, true, true, true, true, true, true, true, true, true, true, true, true, true, true, true, true, true, true, true, true, true, true, true, true, true, true, true, true, true, true, true, true, false] rfl rfl (any_of HT_.out (by kernel_rfl)) (fun _ _ _ h => h) (Or.inl ⟨by rfl, ?_⟩) ?_ ?_
  rotate_left
  · intro w'
    go_simp
    with_reducible rfl
  rotate_left
  · simp only [Act.put, List.setIfInBounds_toArray, List.set_cons_zero, List.set_cons_succ, i64_w, i32_w]
    rfl
  refine pure_ (i := 57) (N := (some 84)) (v := ?_) (a' := ?_) #[true, true, true, true, true, true, true, true, true, true, true, true, true, true, true, true, true, true, true, true, true, true, true, true, true, true, true, true, true, true, true, true, true, true, true, true, true, true, true, true, true, true, true, true, true, true, true, true, true, true, true, true, true, true, true, true, true, true] rfl rfl (any_of HT_.out (by kernel_rfl)) (fun _ _ _ h => h) (Or.inl ⟨by rfl, ?_⟩) ?_ ?_
  rotate_left
  · intro w'
    go_simp
    with_reducible rfl
  rotate_left
  · simp only [Act.put, List.setIfInBounds_toArray, List.set_cons_zero, List.set_cons_succ, i64_w, i32_w]
    rfl
  refine done_ (done_of HT_.out (by kernel_rfl)) ?_
  have ST := Aside0.mk hHeld
  have q1 := ST.out.c5; have q2 := ST.out.c6; have q3 := ST.out.ca; have q4 := ST.out.ci; have q5 := ST.out.ck
  clear hHeld hST
  go_wp2_with (first | (go_at_call 17; (with_reducible refine (bits_Set_uint16_Text.calls v t1 _ HTa.out ⟨ST.out.tab⟩).mono ?_); rintro e wn ⟨rfl, hbn⟩; replace ST := Aside0.mk (ST.out.below hbn); clear hbn; replace q1 := ST.out.c5; replace q2 := ST.out.c6; replace q3 := ST.out.ca; replace q4 := ST.out.ci; replace q5 := ST.out.ck) | (go_at_call 18; (with_reducible refine (provostref01_Text.calls KF v t1 _ HTb.out).mono ?_); rintro e wn ⟨rfl, hbn⟩; replace ST := Aside0.mk (ST.out.below hbn); clear hbn; replace q1 := ST.out.c5; replace q2 := ST.out.c6; replace q3 := ST.out.ca; replace q4 := ST.out.ci; replace q5 := ST.out.ck) | (go_at_call 18; (with_reducible refine (provostref01_Text.calls KF u t2 _ HTd.out).mono ?_); rintro e wn ⟨rfl, hbn⟩; replace ST := Aside0.mk (ST.out.below hbn); clear hbn; replace q1 := ST.out.c5; replace q2 := ST.out.c6; replace q3 := ST.out.ca; replace q4 := ST.out.ci; replace q5 := ST.out.ck) | (go_at_call 19; (with_reducible refine (bits_Set_uint32_Text.calls u t2 _ HTc.out ⟨ST.out.tab⟩).mono ?_); rintro e wn ⟨rfl, hbn⟩; replace ST := Aside0.mk (ST.out.below hbn); clear hbn; replace q1 := ST.out.c5; replace q2 := ST.out.c6; replace q3 := ST.out.ca; replace q4 := ST.out.ci; replace q5 := ST.out.ck) | (go_at_call 20; (with_reducible refine (bits_Set_uint16_Not.calls v n1 _ HNa.out).mono ?_); rintro e wn ⟨rfl, hbn⟩; replace ST := Aside0.mk (ST.out.below hbn); clear hbn; replace q1 := ST.out.c5; replace q2 := ST.out.c6; replace q3 := ST.out.ca; replace q4 := ST.out.ci; replace q5 := ST.out.ck) | (go_at_call 21; (with_reducible refine (bits_Set_uint16_Word.calls n1 n1 _ HWO1.out).mono ?_); rintro e wn ⟨rfl, hbn⟩; replace ST := Aside0.mk (ST.out.below hbn); clear hbn; replace q1 := ST.out.c5; replace q2 := ST.out.c6; replace q3 := ST.out.ca; replace q4 := ST.out.ci; replace q5 := ST.out.ck) | (go_at_call 23; (with_reducible refine (bits_Set_uint32_Not.calls u n2 _ HNc.out).mono ?_); rintro e wn ⟨rfl, hbn⟩; replace ST := Aside0.mk (ST.out.below hbn); clear hbn; replace q1 := ST.out.c5; replace q2 := ST.out.c6; replace q3 := ST.out.ca; replace q4 := ST.out.ci; replace q5 := ST.out.ck) | (go_at_call 24; (with_reducible refine (bits_Set_uint32_Word.calls n2 n2 _ HWO2.out).mono ?_); rintro e wn ⟨rfl, hbn⟩; replace ST := Aside0.mk (ST.out.below hbn); clear hbn; replace q1 := ST.out.c5; replace q2 := ST.out.c6; replace q3 := ST.out.ca; replace q4 := ST.out.ci; replace q5 := ST.out.ck) | (go_at_call 22; (with_reducible refine (provostref01_Full.calls KF 16 f1 _ HFa.out).mono ?_); rintro e wn ⟨rfl, hdn⟩; replace ST := Aside0.mk (ST.out.drawn hdn); clear hdn; replace q1 := ST.out.c5; replace q2 := ST.out.c6; replace q3 := ST.out.ca; replace q4 := ST.out.ci; replace q5 := ST.out.ck) | (go_at_call 22; (with_reducible refine (provostref01_Full.calls KF 32 f2 _ HFc.out).mono ?_); rintro e wn ⟨rfl, hdn⟩; replace ST := Aside0.mk (ST.out.drawn hdn); clear hdn; replace q1 := ST.out.c5; replace q2 := ST.out.c6; replace q3 := ST.out.ca; replace q4 := ST.out.ci; replace q5 := ST.out.ck) | (go_at_call 25; (with_reducible refine (HOa.out _ ST.out.tab).mono ?_); rintro e wn ⟨rfl, hbn⟩; replace ST := Aside0.mk (ST.out.below hbn); clear hbn; replace q1 := ST.out.c5; replace q2 := ST.out.c6; replace q3 := ST.out.ca; replace q4 := ST.out.ci; replace q5 := ST.out.ck) | (go_at_call 26; (with_reducible refine (HOb.out _ ST.out.tab).mono ?_); rintro e wn ⟨rfl, hbn⟩; replace ST := Aside0.mk (ST.out.below hbn); clear hbn; replace q1 := ST.out.c5; replace q2 := ST.out.c6; replace q3 := ST.out.ca; replace q4 := ST.out.ci; replace q5 := ST.out.ck) | (go_at_call 27; (with_reducible refine (provostlaw01_wakes.calls true _ HWa.out ⟨ST.out.tab⟩).mono ?_); rintro e wn ⟨rfl, hbn⟩; replace ST := Aside0.mk (ST.out.below hbn); clear hbn; replace q1 := ST.out.c5; replace q2 := ST.out.c6; replace q3 := ST.out.ca; replace q4 := ST.out.ci; replace q5 := ST.out.ck))
  go_ret
  exact ⟨rfl, ST.out.bel⟩
end


end Go.Proofs.YtfgmapnanaahaaaGreatDoor.PBon
