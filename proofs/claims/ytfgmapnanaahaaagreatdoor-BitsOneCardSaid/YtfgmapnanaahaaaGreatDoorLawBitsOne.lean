/- BitsOne: for every input the law BitsOne returns true and its arguments read as before; the tied card over it. Conditions: none beside the row's own (the listed tables of the library lie as the program's text lays them). -/
import Derived.Test.YtfgmapnanaahaaaGreatDoorRows
import Derived.Test.YtfgmapnanaahaaaGreatDoorCards
import Derived.Test.YtfgmapnanaahaaaGreatDoorTie
import Derived.Test.YtfgmapnanaahaaaGreatDoorTab
import Derived.Deep.DeepHandedRow
import Derived.Lib.LaidTab
import Derived.Stop.LaidErr
import Derived.Test.YtfgmapnanaahaaaGreatDoorPureBitsOne
import Derived.Test.YtfgmapnanaahaaaGreatDoorOpen
import Derived.WalkKit
import Derived.ProofKit
import Derived.OpenShut
import Derived.ShutString
import Derived.ChangeOld
import Derived.Below
namespace Go.Proofs.YtfgmapnanaahaaaGreatDoor.bitsOne
open Go.ChangeShapes Go.WideShapes Go.ChangeAt Go.RowKit Go.Proofs.YtfgmapnanaahaaaGreatDoorW.PrintWords Go.Proofs.YtfgmapnanaahaaaGreatDoor.Open Go.Proofs.YtfgmapnanaahaaaGreatDoor.PBon
set_option linter.unusedVariables false
theorem own : ownKnob Tryz.prog.godebug = none := by kernel_rfl
theorem laidOut : laidOutB Tryz.prog = true := by kernel_rfl
theorem cells_4 {cs : List Value} {c0 c1 c2 c3 : Value} (hl : cs.length = 4) (e0 : cs[0]? = some c0) (e1 : cs[1]? = some c1) (e2 : cs[2]? = some c2) (e3 : cs[3]? = some c3) : cs = [c0, c1, c2, c3] := by
  match cs, hl with
  | [x0, x1, x2, x3], _ => simp at e0 e1 e2 e3; rw [e0, e1, e2, e3]
def zs64 : List Int := Go.Lib.deBruijn64tab.map (fun n : Nat => (n : Int))
theorem zs64_len : zs64.length = 64 := by decide +kernel
theorem zs64_at : ∀ j, j < 64 → zs64.getD j 0 = (Go.Lib.deBruijn64tab.getD j 0 : Nat) := by decide +kernel
theorem data64 : (Rows.laid_math_bits_deBruijn64tab : DataW Unit) = Go.Lib.tabData .u8 zs64 := by kernel_rfl
theorem tabs {W : World} (h : laidMetH Tryz.prog Rows.bitsOneRow.laid W) : Go.Proofs.YtfgmapnanaahaaaGreatDoorW.Tab.TabW W := by
  have h1 : laidMet Tryz.prog Rows.bitsOneRow.laid W := h
  have h2 : laidMet Tryz.prog (("math/bits.deBruijn64tab", Go.Lib.tabData .u8 zs64) :: [("internal/strconv.uint64pow10", Rows.laid_internal_strconv_uint64pow10)]) W := by rw [← data64]; exact h1.tail
  have h3 := Go.Lib.tabIs_of_head (P := Tryz.prog) (g := 0) (t := 89) (e := 5) (n := 64) (by kernel_rfl) (by kernel_rfl) Tryz.underlying89 Tryz.underlying5 (by kernel_rfl) (by kernel_rfl) h2
  intro j hj
  have := h3.cell (g := 0) (by kernel_rfl) j (by rw [zs64_len]; exact hj)
  rw [zs64_at j hj] at this
  exact this
set_option maxRecDepth 100000 in
theorem contract (H : Type) (enc : TypeId × Value → H) (W : World) (base : Nat) (args : Array Value) (ds gs : List (DataW H)) (before : List MemPlace)
    (hval0 : ∀ (j : Nat) t v, Tryz.f3.params[j]? = some t → args[j]? = some v → Value.okWide Tryz.prog W .any base t v)
    (hW : DataW.Whole enc Tryz.prog Tryz.f3.params.toList Rows.bitsOneSpec.vars false W args.toList ds gs before) (hL : laidMetH Tryz.prog Rows.bitsOneRow.laid W) :
    Calls Tryz.prog 3 args W fun e W' => ∃ v, e = .returned v ∧ Rows.bitsOneSpec.post enc Tryz.prog Tryz.f3 false true false false W args v W' := by
  have HL := Aside0.mk (tabs hL)
  clear hL
  have hval := hval0
  have hW' := hW
  obtain ⟨p, q, hA0, hV, rfl, hfz, hnd⟩ := hW
  have hA : DataW.TrodAll enc Tryz.prog W 0 (fun _ => true) true Tryz.f3.params.toList args.toList ds p := hA0
  rw [Tryz.params3] at hA hval
  obtain ⟨v0, vs0, d0, ds0, p0, q0, hargs, rfl, rfl, h0, r0⟩ := trodAll_cons hA
  obtain ⟨rfl, rfl, rfl⟩ := trodAll_nil r0
  obtain rfl : args = #[v0] := by cases args; simp_all
  obtain ⟨rfl, rfl⟩ := trodVars_none hV
  have k0 := h0
  have lt0 : ∀ x ∈ p0, x.block < W.heap.size := by obtain ⟨m, hm⟩ := k0; exact DataW.trod_lt m _ _ _ hm
  obtain ⟨cs0, rfl, hl0, m0, hf0⟩ := open_agg Tryz.underlying24 (by kernel_rfl) (by kernel_rfl) (hval 0 24 v0 rfl rfl) h0
  obtain ⟨c0_0, z0_0, e0_0, t0_0⟩ := hf0 0 _ rfl
  obtain ⟨c0_1, z0_1, e0_1, t0_1⟩ := hf0 1 _ rfl
  obtain ⟨c0_2, z0_2, e0_2, t0_2⟩ := hf0 2 _ rfl
  obtain ⟨c0_3, z0_3, e0_3, t0_3⟩ := hf0 3 _ rfl
  have hcs0 : cs0 = [c0_0, c0_1, c0_2, c0_3] := cells_4 hl0 e0_0 e0_1 e0_2 e0_3
  subst hcs0
  obtain ⟨a0, kk0, g0⟩ := (tells_int Tryz.underlying22) _ _ _ t0_0
  obtain rfl : c0_0 = .int .u64 a0 := by have := kk0; simpa [Kd.int, Kd.scalar] using this
  obtain ⟨a1, kk1, g1⟩ := (tells_int Tryz.underlying22) _ _ _ t0_1
  obtain rfl : c0_1 = .int .u64 a1 := by have := kk1; simpa [Kd.int, Kd.scalar] using this
  obtain ⟨a2, kk2, g2⟩ := (tells_int Tryz.underlying3) _ _ _ t0_2
  obtain rfl : c0_2 = .int .i64 a2 := by have := kk2; simpa [Kd.int, Kd.scalar] using this
  obtain ⟨a3, kk3, g3⟩ := (tells_int Tryz.underlying3) _ _ _ t0_3
  obtain rfl : c0_3 = .int .i64 a3 := by have := kk3; simpa [Kd.int, Kd.scalar] using this
  clear hA0 hval0
  refine (Pure.one_walk a0 a1 a2 a3 W  g0 g1 g2 g3 HL.out).mono fun e W' ⟨he, bel⟩ => ?_
  subst he
  exact ⟨_, rfl, _, _, _, [], _, [], hW', trodAll_mk1 (shut_bool Tryz.underlying4 _), (trodAll_cons_mk (Below.trod laidOut (by kernel_rfl) (of_decide_eq_true (by kernel_rfl)) k0 bel lt0) trodAll_mk0), rfl, bel.frame _, fun h => by cases h⟩
noncomputable def laidWorld (os : Os) : World :=
  { World.holding Tryz.prog os ⟨#[], #[], []⟩ with heap := ((((World.holding Tryz.prog os ⟨#[], #[], []⟩).heap.modify 3 fun
      | .cells _ t frozen => .cells #[.int .u8 0, .int .u8 1, .int .u8 28, .int .u8 2, .int .u8 29, .int .u8 14, .int .u8 24, .int .u8 3, .int .u8 30, .int .u8 22, .int .u8 20, .int .u8 15, .int .u8 25, .int .u8 17, .int .u8 4, .int .u8 8, .int .u8 31, .int .u8 27, .int .u8 13, .int .u8 23, .int .u8 21, .int .u8 19, .int .u8 16, .int .u8 7, .int .u8 26, .int .u8 12, .int .u8 18, .int .u8 6, .int .u8 11, .int .u8 5, .int .u8 10, .int .u8 9] t frozen
      | o => o).modify 0 fun
      | .cells _ t frozen => .cells #[.int .u8 0, .int .u8 1, .int .u8 56, .int .u8 2, .int .u8 57, .int .u8 49, .int .u8 28, .int .u8 3, .int .u8 61, .int .u8 58, .int .u8 42, .int .u8 50, .int .u8 38, .int .u8 29, .int .u8 17, .int .u8 4, .int .u8 62, .int .u8 47, .int .u8 59, .int .u8 36, .int .u8 45, .int .u8 43, .int .u8 51, .int .u8 22, .int .u8 53, .int .u8 39, .int .u8 33, .int .u8 30, .int .u8 24, .int .u8 18, .int .u8 12, .int .u8 5, .int .u8 63, .int .u8 55, .int .u8 48, .int .u8 27, .int .u8 60, .int .u8 41, .int .u8 37, .int .u8 16, .int .u8 46, .int .u8 35, .int .u8 44, .int .u8 21, .int .u8 52, .int .u8 32, .int .u8 23, .int .u8 11, .int .u8 54, .int .u8 26, .int .u8 40, .int .u8 15, .int .u8 34, .int .u8 20, .int .u8 31, .int .u8 10, .int .u8 25, .int .u8 14, .int .u8 19, .int .u8 9, .int .u8 13, .int .u8 8, .int .u8 7, .int .u8 6] t frozen
      | o => o).modify 1 fun
      | .cells _ t frozen => .cells #[.int .u64 1, .int .u64 10, .int .u64 100, .int .u64 1000, .int .u64 10000, .int .u64 100000, .int .u64 1000000, .int .u64 10000000, .int .u64 100000000, .int .u64 1000000000, .int .u64 10000000000, .int .u64 100000000000, .int .u64 1000000000000, .int .u64 10000000000000, .int .u64 100000000000000, .int .u64 1000000000000000, .int .u64 10000000000000000, .int .u64 100000000000000000, .int .u64 1000000000000000000, .int .u64 10000000000000000000] t frozen
      | o => o) }
theorem laid_met (os : Os) : laidMet Tryz.prog Rows.bitsOneRow.laid ((laidWorld os).forCall (fun _ _ => 0) ⟨#[], #[.agg #[.int .u64 0, .int .u64 0, .int .i64 0, .int .i64 0]], []⟩).memory :=
  laidMet_of_run' 8 (by kernel_rfl) (by kernel_rfl)
theorem reads (os : Os) {H : Type} (enc : TypeId × Value → H) : ∃ ds places, DataW.whole enc Tryz.prog ((laidWorld os).forCall (fun _ _ => 0) ⟨#[], #[.agg #[.int .u64 0, .int .u64 0, .int .i64 0, .int .i64 0]], []⟩).memory Tryz.f3.params.toList Rows.bitsOneSpec.vars false (#[.agg #[.int .u64 0, .int .u64 0, .int .i64 0, .int .i64 0]] : Array Value).toList 8 = some (ds, [], places) :=
  ⟨[.agg [.lit (.int .u64 0), .lit (.int .u64 0), .lit (.int .i64 0), .lit (.int .i64 0)]], [], by kernel_rfl⟩
set_option maxRecDepth 100000 in
theorem lifted (os : Os) (started : os.Started) (H : Type) (enc : TypeId × Value → H) (F : Stop.Interp) :
    ReturnsInHanded {} Tryz.checked os 3 .any ((OpenSpec.ofChange Rows.bitsOneSpec).preRow enc Tryz.prog Tryz.f3 Rows.bitsOneRow.domain false Rows.bitsOneRow.laid) (((OpenSpec.ofChange Rows.bitsOneSpec).at F).post enc Tryz.prog Tryz.f3 false true false false) := by
  obtain ⟨ds0, places, hx⟩ := reads os enc
  refine returnsInHanded_of_row (C := Tryz.checked) (s := OpenSpec.ofChange Rows.bitsOneSpec) own started (by kernel_rfl) Tryz.func3
    (witness_row_at (enc := enc) (C := Tryz.checked) false (laidWorld os) #[.agg #[.int .u64 0, .int .u64 0, .int .i64 0, .int .i64 0]] rfl (by kernel_rfl) (by kernel_rfl) (by kernel_rfl)
      (OpenSpec.preRow_of_cond 8 hx (by kernel_rfl) (fun k hk => by cases hk) (by kernel_rfl) (laid_met os))) ?_
  intro W base args ds gs before hval hW _ _ _ hL _ _
  exact contract H enc W base args ds gs before hval hW hL
theorem over : Rows.BitsOneSaid :=
  OpenClaim.holds_of_cond 3 Tryz.f3 rfl rfl rfl rfl rfl rfl rfl ⟨rfl, rfl, rfl, rfl, rfl⟩ rfl rfl rfl rfl rfl (by kernel_rfl) Tryz.func3 (by kernel_rfl)
    (of_decide_eq_true (by kernel_rfl)) (by unfold Func.isWrapper; first | (rw [if_pos (by decide +kernel)]; kernel_rfl) | (rw [if_neg (by decide +kernel)]; exact ⟨rfl, rfl⟩))
    (fun os started H enc _ F => by rw [OpenClaim.pre_eq_preRow]; exact lifted os started H enc F)
theorem plain (f : FuncId) (fn : Func) (hf : Tryz.pinned.checked.prog.funcNamed "provost/provostlaw01.BitsOne" = some f) (hfn : Tryz.pinned.checked.prog.funcs[f]? = some fn) :
    false = Tryz.pinned.checked.prog.looks [] ∧ ∀ (j : Nat) t, fn.params[j]? = some t → Tryz.pinned.checked.prog.wantsStandIn t = false := by
  obtain rfl : f = 3 := Option.some.inj ((show Tryz.prog.funcNamed "provost/provostlaw01.BitsOne" = some 3 by kernel_rfl).symm.trans hf) |>.symm
  obtain rfl : fn = Tryz.f3 := (Option.some.inj (Tryz.func3.symm.trans hfn)).symm
  refine ⟨by kernel_rfl, fun j t ht => ?_⟩
  rw [Tryz.params3] at ht
  have hm : t ∈ [24] := by simpa using Array.mem_of_getElem? ht
  have hall : ([24].all fun u => !Tryz.prog.wantsStandIn u) = true := by kernel_rfl
  exact (show Tryz.prog.wantsStandIn t = false by simpa using List.all_eq_true.1 hall t hm)
theorem proved : Rows.BitsOneCardSaid :=
  Claim7.holds_tied_plain_at .later [] _ _ _ _ over (fun _ h => by cases h) (by kernel_rfl) (fun _ h => by cases h) bitsOne_row_tie rfl ⟨rfl, rfl⟩ (by kernel_rfl) rfl plain (by kernel_rfl)
end Go.Proofs.YtfgmapnanaahaaaGreatDoor.bitsOne
namespace Go.Proofs.YtfgmapnanaahaaaGreatDoor
/-- The tied card, under a short name, for the claim. -/
theorem bitsOne_holds : Rows.BitsOneCardSaid := bitsOne.proved
end Go.Proofs.YtfgmapnanaahaaaGreatDoor
#print axioms Go.Proofs.YtfgmapnanaahaaaGreatDoor.bitsOne_holds
