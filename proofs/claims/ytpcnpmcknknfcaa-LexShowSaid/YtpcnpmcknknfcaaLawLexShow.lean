/- LexShow: for every input the law LexShow returns true and its arguments read as before. Conditions: none beside the row's own. -/
import Derived.Test.YtpcnpmcknknfcaaRows
import Derived.Test.YtpcnpmcknknfcaaPureLexShow
import Derived.Test.YtpcnpmcknknfcaaOpen
import Derived.WalkKit
import Derived.ProofKit
import Derived.OpenShut
import Derived.ShutString
import Derived.ChangeOld
import Derived.Below
namespace Go.Proofs.Ytpcnpmcknknfcaa.lexShow
open Go.ChangeShapes Go.WideShapes Go.ChangeAt Go.RowKit Go.Proofs.YtpcnpmcknknfcaaW.PrintWords Go.Proofs.Ytpcnpmcknknfcaa.Open Go.Proofs.Ytpcnpmcknknfcaa.PLsh
set_option linter.unusedVariables false
theorem own : ownKnob Try.prog.godebug = none := by kernel_rfl
theorem laidOut : laidOutB Try.prog = true := by kernel_rfl
theorem cells_5 {cs : List Value} {c0 c1 c2 c3 c4 : Value} (hl : cs.length = 5) (e0 : cs[0]? = some c0) (e1 : cs[1]? = some c1) (e2 : cs[2]? = some c2) (e3 : cs[3]? = some c3) (e4 : cs[4]? = some c4) : cs = [c0, c1, c2, c3, c4] := by
  match cs, hl with
  | [x0, x1, x2, x3, x4], _ => simp at e0 e1 e2 e3 e4; rw [e0, e1, e2, e3, e4]
def G40 (x : S40) : Prop := (Lit.int .i64 x.f0).wf = true ∧ x.f1.size ≤ maxLen ∧ (Lit.int .i64 x.f2).wf = true ∧ (Lit.int .i64 x.f3).wf = true ∧ (Lit.int .i64 x.f4).wf = true
theorem tells_40 {H : Type} {enc : TypeId × Value → H} {W : World} {base : Nat} {sp : Nat → Bool} {held : Bool} : Tells enc Try.prog W base sp held k40 G40 40 := by
  intro fuel cs x h
  obtain ⟨hl, n, hf⟩ := struct_cells Try.underlying40 (by kernel_rfl) (by kernel_rfl) h
  obtain ⟨c0, z0, e0, t0⟩ := hf 0 _ rfl
  obtain ⟨c1, z1, e1, t1⟩ := hf 1 _ rfl
  obtain ⟨c2, z2, e2, t2⟩ := hf 2 _ rfl
  obtain ⟨c3, z3, e3, t3⟩ := hf 3 _ rfl
  obtain ⟨c4, z4, e4, t4⟩ := hf 4 _ rfl
  obtain ⟨a0, kk0, g0⟩ := (tells_int Try.underlying3) _ _ _ t0
  obtain rfl : c0 = .int .i64 a0 := by have := kk0; simpa [Kd.int, Kd.scalar] using this
  obtain ⟨a1, kk1, g1⟩ := (tells_string Try.underlying9) _ _ _ t1
  obtain rfl : c1 = .string a1 := by have := kk1; simpa [Kd.string, Kd.scalar] using this
  obtain ⟨a2, kk2, g2⟩ := (tells_int Try.underlying3) _ _ _ t2
  obtain rfl : c2 = .int .i64 a2 := by have := kk2; simpa [Kd.int, Kd.scalar] using this
  obtain ⟨a3, kk3, g3⟩ := (tells_int Try.underlying3) _ _ _ t3
  obtain rfl : c3 = .int .i64 a3 := by have := kk3; simpa [Kd.int, Kd.scalar] using this
  obtain ⟨a4, kk4, g4⟩ := (tells_int Try.underlying3) _ _ _ t4
  obtain rfl : c4 = .int .i64 a4 := by have := kk4; simpa [Kd.int, Kd.scalar] using this
  have hcs : cs = [.int .i64 a0, .string a1, .int .i64 a2, .int .i64 a3, .int .i64 a4] := cells_5 hl e0 e1 e2 e3 e4
  subst hcs
  exact ⟨⟨a0, a1, a2, a3, a4⟩, k40_mk W ⟨a0, a1, a2, a3, a4⟩ , g0, g1, g2, g3, g4⟩
set_option maxRecDepth 100000 in
theorem lifted (os : Os) (started : os.Started) (H : Type) (enc : TypeId × Value → H) :
    ReturnsInHanded {} Try.checked os 12 .any (Rows.lexShowSpec.pre6 enc Try.prog Try.f12 Rows.lexShowRow.domain false) (Rows.lexShowSpec.post enc Try.prog Try.f12 false true false false) := by
  refine returnsInHanded_of_change (C := Try.checked) own started (by kernel_rfl) Try.func12
    (ChangeSpec.witness6 (enc := enc) (C := Try.checked) false ⟨#[], #[.slice none 0 0], []⟩ 8 (by kernel_rfl) (by kernel_rfl) (by kernel_rfl) (by kernel_rfl)) ?_
  intro W base args ds gs before hval0 hW hcnd _
  have hval : ∀ (j : Nat) t v, Try.f12.params[j]? = some t → args[j]? = some v → Value.okWide Try.prog W .any base t v := hval0
  have hW' := hW
  obtain ⟨p, q, hA0, hV, rfl, hfz, hnd⟩ := hW
  have hA : DataW.TrodAll enc Try.prog W 0 (fun _ => true) true Try.f12.params.toList args.toList ds p := hA0
  rw [Try.params12] at hA hval
  obtain ⟨v0, vs0, d0, ds0, p0, q0, hargs, rfl, rfl, h0, r0⟩ := trodAll_cons hA
  obtain ⟨rfl, rfl, rfl⟩ := trodAll_nil r0
  obtain rfl : args = #[v0] := by cases args; simp_all
  obtain ⟨rfl, rfl⟩ := trodVars_none hV
  have k0 := h0
  have lt0 : ∀ x ∈ p0, x.block < W.heap.size := by obtain ⟨m, hm⟩ := k0; exact DataW.trod_lt m _ _ _ hm
  obtain ⟨ya0, yl0, yc0, rfl⟩ := okWide_slice Try.underlying32 (hval 0 32 v0 rfl rfl)
  obtain ⟨m0, t0⟩ := h0
  obtain ⟨l0, ⟨A0, n0, q0, hc0, hr0⟩, g0⟩ := (tells_slice (d := k40) Try.underlying32 (by kernel_rfl) tells_40) _ _ _ t0
  simp only [Value.cells, List.cons.injEq, and_true, Value.slice.injEq] at q0
  obtain ⟨rfl, rfl, rfl⟩ := q0
  clear hA0 hval0
  refine (Pure.show_walk _ _ l0 W hr0 hc0 g0).mono fun e W' ⟨he, bel⟩ => ?_
  subst he
  exact ⟨_, rfl, _, _, _, [], _, [], hW', trodAll_mk1 (shut_bool Try.underlying4 _), (trodAll_cons_mk (Below.trod laidOut (by kernel_rfl) (of_decide_eq_true (by kernel_rfl)) k0 bel lt0) trodAll_mk0), rfl, bel.frame _, fun h => by cases h⟩
theorem over : Rows.lexShowRow.holds Try.pinned (OpenSpec.ofChange Rows.lexShowSpec) :=
  OpenClaim.holds_of_wide 12 Try.f12 rfl rfl rfl rfl rfl rfl rfl ⟨rfl, rfl, rfl, rfl, rfl⟩ rfl rfl rfl rfl rfl (by kernel_rfl) Try.func12 (by kernel_rfl)
    (of_decide_eq_true (by kernel_rfl)) (by unfold Func.isWrapper; first | (rw [if_pos (by decide +kernel)]; kernel_rfl) | (rw [if_neg (by decide +kernel)]; exact ⟨rfl, rfl⟩))
    (fun os started H enc _ => lifted os started H enc)
theorem proved : Rows.LexShowSaid := over
end Go.Proofs.Ytpcnpmcknknfcaa.lexShow
namespace Go.Proofs.Ytpcnpmcknknfcaa
/-- The row, under a short name, for the claim. -/
theorem lexShow_holds : Rows.LexShowSaid := lexShow.proved
end Go.Proofs.Ytpcnpmcknknfcaa
#print axioms Go.Proofs.Ytpcnpmcknknfcaa.lexShow_holds
