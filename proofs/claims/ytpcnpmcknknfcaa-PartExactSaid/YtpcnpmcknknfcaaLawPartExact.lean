/- PartExact: for every input the law PartExact returns true and its arguments read as before. Conditions: none beside the row's own. -/
import Derived.Test.YtpcnpmcknknfcaaRows
import Derived.Test.YtpcnpmcknknfcaaPurePartExact
import Derived.Test.YtpcnpmcknknfcaaOpen
import Derived.WalkKit
import Derived.ProofKit
import Derived.OpenShut
import Derived.ShutString
import Derived.ChangeOld
import Derived.Below
namespace Go.Proofs.Ytpcnpmcknknfcaa.partExact
open Go.ChangeShapes Go.WideShapes Go.ChangeAt Go.RowKit Go.Proofs.YtpcnpmcknknfcaaW.PrintWords Go.Proofs.Ytpcnpmcknknfcaa.Open Go.Proofs.Ytpcnpmcknknfcaa.PPex
set_option linter.unusedVariables false
theorem own : ownKnob Try.prog.godebug = none := by kernel_rfl
theorem laidOut : laidOutB Try.prog = true := by kernel_rfl
theorem cells_6 {cs : List Value} {c0 c1 c2 c3 c4 c5 : Value} (hl : cs.length = 6) (e0 : cs[0]? = some c0) (e1 : cs[1]? = some c1) (e2 : cs[2]? = some c2) (e3 : cs[3]? = some c3) (e4 : cs[4]? = some c4) (e5 : cs[5]? = some c5) : cs = [c0, c1, c2, c3, c4, c5] := by
  match cs, hl with
  | [x0, x1, x2, x3, x4, x5], _ => simp at e0 e1 e2 e3 e4 e5; rw [e0, e1, e2, e3, e4, e5]
set_option maxRecDepth 100000 in
theorem lifted (os : Os) (started : os.Started) (H : Type) (enc : TypeId × Value → H) :
    ReturnsInHanded {} Try.checked os 9 .any (Rows.partExactSpec.pre6 enc Try.prog Try.f9 Rows.partExactRow.domain false) (Rows.partExactSpec.post enc Try.prog Try.f9 false true false false) := by
  refine returnsInHanded_of_change (C := Try.checked) own started (by kernel_rfl) Try.func9
    (ChangeSpec.witness6 (enc := enc) (C := Try.checked) false ⟨#[], #[.agg #[.slice none 0 0, .slice none 0 0, .int .i64 0, .int .i64 0, .int .i64 0, .int .u64 0]], []⟩ 8 (by kernel_rfl) (by kernel_rfl) (by kernel_rfl) (by kernel_rfl)) ?_
  intro W base args ds gs before hval0 hW hcnd _
  have hval : ∀ (j : Nat) t v, Try.f9.params[j]? = some t → args[j]? = some v → Value.okWide Try.prog W .any base t v := hval0
  have hW' := hW
  obtain ⟨p, q, hA0, hV, rfl, hfz, hnd⟩ := hW
  have hA : DataW.TrodAll enc Try.prog W 0 (fun _ => true) true Try.f9.params.toList args.toList ds p := hA0
  rw [Try.params9] at hA hval
  obtain ⟨v0, vs0, d0, ds0, p0, q0, hargs, rfl, rfl, h0, r0⟩ := trodAll_cons hA
  obtain ⟨rfl, rfl, rfl⟩ := trodAll_nil r0
  obtain rfl : args = #[v0] := by cases args; simp_all
  obtain ⟨rfl, rfl⟩ := trodVars_none hV
  have k0 := h0
  have lt0 : ∀ x ∈ p0, x.block < W.heap.size := by obtain ⟨m, hm⟩ := k0; exact DataW.trod_lt m _ _ _ hm
  obtain ⟨cs0, rfl, hl0, m0, hf0⟩ := open_agg Try.underlying58 (by kernel_rfl) (by kernel_rfl) (hval 0 58 v0 rfl rfl) h0
  obtain ⟨c0_0, z0_0, e0_0, t0_0⟩ := hf0 0 _ rfl
  obtain ⟨c0_1, z0_1, e0_1, t0_1⟩ := hf0 1 _ rfl
  obtain ⟨c0_2, z0_2, e0_2, t0_2⟩ := hf0 2 _ rfl
  obtain ⟨c0_3, z0_3, e0_3, t0_3⟩ := hf0 3 _ rfl
  obtain ⟨c0_4, z0_4, e0_4, t0_4⟩ := hf0 4 _ rfl
  obtain ⟨c0_5, z0_5, e0_5, t0_5⟩ := hf0 5 _ rfl
  have hcs0 : cs0 = [c0_0, c0_1, c0_2, c0_3, c0_4, c0_5] := cells_6 hl0 e0_0 e0_1 e0_2 e0_3 e0_4 e0_5
  subst hcs0
  obtain ⟨l0, ⟨A0, n0, q0, hc0, hr0⟩, g0⟩ := (tells_slice (d := (Kd.int .i64)) Try.underlying22 (by kernel_rfl) (tells_int Try.underlying3)) _ _ _ t0_0
  obtain rfl : c0_0 = .slice A0 l0.length n0 := by simpa using q0
  obtain ⟨l1, ⟨A1, n1, q1, hc1, hr1⟩, g1⟩ := (tells_slice (d := (Kd.int .i64)) Try.underlying22 (by kernel_rfl) (tells_int Try.underlying3)) _ _ _ t0_1
  obtain rfl : c0_1 = .slice A1 l1.length n1 := by simpa using q1
  obtain ⟨a2, kk2, g2⟩ := (tells_int Try.underlying3) _ _ _ t0_2
  obtain rfl : c0_2 = .int .i64 a2 := by have := kk2; simpa [Kd.int, Kd.scalar] using this
  obtain ⟨a3, kk3, g3⟩ := (tells_int Try.underlying3) _ _ _ t0_3
  obtain rfl : c0_3 = .int .i64 a3 := by have := kk3; simpa [Kd.int, Kd.scalar] using this
  obtain ⟨a4, kk4, g4⟩ := (tells_int Try.underlying3) _ _ _ t0_4
  obtain rfl : c0_4 = .int .i64 a4 := by have := kk4; simpa [Kd.int, Kd.scalar] using this
  obtain ⟨a5, kk5, g5⟩ := (tells_int Try.underlying45) _ _ _ t0_5
  obtain rfl : c0_5 = .int .u64 a5 := by have := kk5; simpa [Kd.int, Kd.scalar] using this
  clear hA0 hval0
  refine (Pure.exact_walk _ _ l0 _ _ l1 a2 a3 a4 a5 W hr0 hc0 hr1 hc1 g0 g1 g2 g3 g4 g5).mono fun e W' ⟨he, bel⟩ => ?_
  subst he
  exact ⟨_, rfl, _, _, _, [], _, [], hW', trodAll_mk1 (shut_bool Try.underlying4 _), (trodAll_cons_mk (Below.trod laidOut (by kernel_rfl) (of_decide_eq_true (by kernel_rfl)) k0 bel lt0) trodAll_mk0), rfl, bel.frame _, fun h => by cases h⟩
theorem over : Rows.partExactRow.holds Try.pinned (OpenSpec.ofChange Rows.partExactSpec) :=
  OpenClaim.holds_of_wide 9 Try.f9 rfl rfl rfl rfl rfl rfl rfl ⟨rfl, rfl, rfl, rfl, rfl⟩ rfl rfl rfl rfl rfl (by kernel_rfl) Try.func9 (by kernel_rfl)
    (of_decide_eq_true (by kernel_rfl)) (by unfold Func.isWrapper; first | (rw [if_pos (by decide +kernel)]; kernel_rfl) | (rw [if_neg (by decide +kernel)]; exact ⟨rfl, rfl⟩))
    (fun os started H enc _ => lifted os started H enc)
theorem proved : Rows.PartExactSaid := over
end Go.Proofs.Ytpcnpmcknknfcaa.partExact
namespace Go.Proofs.Ytpcnpmcknknfcaa
/-- The row, under a short name, for the claim. -/
theorem partExact_holds : Rows.PartExactSaid := partExact.proved
end Go.Proofs.Ytpcnpmcknknfcaa
#print axioms Go.Proofs.Ytpcnpmcknknfcaa.partExact_holds
