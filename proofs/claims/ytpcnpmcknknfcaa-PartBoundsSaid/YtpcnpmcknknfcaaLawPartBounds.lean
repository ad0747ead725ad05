/- PartBounds: for every input the law PartBounds returns true and its arguments read as before. Conditions: none beside the row's own. -/
import Derived.Test.YtpcnpmcknknfcaaRows
import Derived.Test.YtpcnpmcknknfcaaPurePartBounds
import Derived.Test.YtpcnpmcknknfcaaOpen
import Derived.WalkKit
import Derived.ProofKit
import Derived.OpenShut
import Derived.ShutString
import Derived.ChangeOld
import Derived.Below
namespace Go.Proofs.Ytpcnpmcknknfcaa.partBounds
open Go.ChangeShapes Go.WideShapes Go.ChangeAt Go.RowKit Go.Proofs.YtpcnpmcknknfcaaW.PrintWords Go.Proofs.Ytpcnpmcknknfcaa.Open Go.Proofs.Ytpcnpmcknknfcaa.PPbo
set_option linter.unusedVariables false
theorem own : ownKnob Try.prog.godebug = none := by kernel_rfl
theorem laidOut : laidOutB Try.prog = true := by kernel_rfl
theorem cells_3 {cs : List Value} {c0 c1 c2 : Value} (hl : cs.length = 3) (e0 : cs[0]? = some c0) (e1 : cs[1]? = some c1) (e2 : cs[2]? = some c2) : cs = [c0, c1, c2] := by
  match cs, hl with
  | [x0, x1, x2], _ => simp at e0 e1 e2; rw [e0, e1, e2]
set_option maxRecDepth 100000 in
theorem lifted (os : Os) (started : os.Started) (H : Type) (enc : TypeId × Value → H) :
    ReturnsInHanded {} Try.checked os 8 .any (Rows.partBoundsSpec.pre6 enc Try.prog Try.f8 Rows.partBoundsRow.domain false) (Rows.partBoundsSpec.post enc Try.prog Try.f8 false true false false) := by
  refine returnsInHanded_of_change (C := Try.checked) own started (by kernel_rfl) Try.func8
    (ChangeSpec.witness6 (enc := enc) (C := Try.checked) false ⟨#[], #[.agg #[.slice none 0 0, .slice none 0 0, .slice none 0 0]], []⟩ 8 (by kernel_rfl) (by kernel_rfl) (by kernel_rfl) (by kernel_rfl)) ?_
  intro W base args ds gs before hval0 hW hcnd _
  have hval : ∀ (j : Nat) t v, Try.f8.params[j]? = some t → args[j]? = some v → Value.okWide Try.prog W .any base t v := hval0
  have hW' := hW
  obtain ⟨p, q, hA0, hV, rfl, hfz, hnd⟩ := hW
  have hA : DataW.TrodAll enc Try.prog W 0 (fun _ => true) true Try.f8.params.toList args.toList ds p := hA0
  rw [Try.params8] at hA hval
  obtain ⟨v0, vs0, d0, ds0, p0, q0, hargs, rfl, rfl, h0, r0⟩ := trodAll_cons hA
  obtain ⟨rfl, rfl, rfl⟩ := trodAll_nil r0
  obtain rfl : args = #[v0] := by cases args; simp_all
  obtain ⟨rfl, rfl⟩ := trodVars_none hV
  have k0 := h0
  have lt0 : ∀ x ∈ p0, x.block < W.heap.size := by obtain ⟨m, hm⟩ := k0; exact DataW.trod_lt m _ _ _ hm
  obtain ⟨cs0, rfl, hl0, m0, hf0⟩ := open_agg Try.underlying54 (by kernel_rfl) (by kernel_rfl) (hval 0 54 v0 rfl rfl) h0
  obtain ⟨c0_0, z0_0, e0_0, t0_0⟩ := hf0 0 _ rfl
  obtain ⟨c0_1, z0_1, e0_1, t0_1⟩ := hf0 1 _ rfl
  obtain ⟨c0_2, z0_2, e0_2, t0_2⟩ := hf0 2 _ rfl
  have hcs0 : cs0 = [c0_0, c0_1, c0_2] := cells_3 hl0 e0_0 e0_1 e0_2
  subst hcs0
  obtain ⟨l0, ⟨A0, n0, q0, hc0, hr0⟩, g0⟩ := (tells_slice (d := (Kd.int .i64)) Try.underlying22 (by kernel_rfl) (tells_int Try.underlying3)) _ _ _ t0_0
  obtain rfl : c0_0 = .slice A0 l0.length n0 := by simpa using q0
  obtain ⟨l1, ⟨A1, n1, q1, hc1, hr1⟩, g1⟩ := (tells_slice (d := (Kd.int .i64)) Try.underlying22 (by kernel_rfl) (tells_int Try.underlying3)) _ _ _ t0_1
  obtain rfl : c0_1 = .slice A1 l1.length n1 := by simpa using q1
  obtain ⟨l2, ⟨A2, n2, q2, hc2, hr2⟩, g2⟩ := (tells_slice (d := (Kd.int .i64)) Try.underlying22 (by kernel_rfl) (tells_int Try.underlying3)) _ _ _ t0_2
  obtain rfl : c0_2 = .slice A2 l2.length n2 := by simpa using q2
  clear hA0 hval0
  refine (Pure.bounds_walk _ _ l0 _ _ l1 _ _ l2 W hr0 hc0 hr1 hc1 hr2 hc2 g0 g1 g2).mono fun e W' ⟨he, bel⟩ => ?_
  subst he
  exact ⟨_, rfl, _, _, _, [], _, [], hW', trodAll_mk1 (shut_bool Try.underlying4 _), (trodAll_cons_mk (Below.trod laidOut (by kernel_rfl) (of_decide_eq_true (by kernel_rfl)) k0 bel lt0) trodAll_mk0), rfl, bel.frame _, fun h => by cases h⟩
theorem over : Rows.partBoundsRow.holds Try.pinned (OpenSpec.ofChange Rows.partBoundsSpec) :=
  OpenClaim.holds_of_wide 8 Try.f8 rfl rfl rfl rfl rfl rfl rfl ⟨rfl, rfl, rfl, rfl, rfl⟩ rfl rfl rfl rfl rfl (by kernel_rfl) Try.func8 (by kernel_rfl)
    (of_decide_eq_true (by kernel_rfl)) (by unfold Func.isWrapper; first | (rw [if_pos (by decide +kernel)]; kernel_rfl) | (rw [if_neg (by decide +kernel)]; exact ⟨rfl, rfl⟩))
    (fun os started H enc _ => lifted os started H enc)
theorem proved : Rows.PartBoundsSaid := over
end Go.Proofs.Ytpcnpmcknknfcaa.partBounds
namespace Go.Proofs.Ytpcnpmcknknfcaa
/-- The row, under a short name, for the claim. -/
theorem partBounds_holds : Rows.PartBoundsSaid := partBounds.proved
end Go.Proofs.Ytpcnpmcknknfcaa
#print axioms Go.Proofs.Ytpcnpmcknknfcaa.partBounds_holds
