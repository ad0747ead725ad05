/- ruleEarly: for every input the law RuleEarly returns true and its argument reads as before. Conditions: none beside the row's own. -/
import Derived.Test.YthdkmohgphbdeaaRows
import Derived.Test.YthdkmohgphbdeaaPureEarly
import Derived.Test.YthdkmohgphbdeaaOpen
import Derived.WalkKit
import Derived.ProofKit
import Derived.OpenShut
import Derived.ShutString
import Derived.ChangeOld
import Derived.Below
namespace Go.Proofs.Ythdkmohgphbdeaa.ruleEarly
open Go.ChangeShapes Go.WideShapes Go.ChangeAt Go.RowKit Go.Proofs.YthdkmohgphbdeaaW.PrintWords Go.Proofs.Ythdkmohgphbdeaa.Open Go.Proofs.Ythdkmohgphbdeaa.PRule
set_option linter.unusedVariables false
theorem own : ownKnob Try.prog.godebug = none := by kernel_rfl
theorem laidOut : laidOutB Try.prog = true := by kernel_rfl
theorem tells_rule {H : Type} {enc : TypeId × Value → H} {W : World} {base : Nat} {sp : Nat → Bool} {held : Bool} :
    Tells enc Try.prog W base sp held k55 (fun x => (Lit.int .i64 x.f0).wf = true ∧ (Lit.int .i64 x.f1).wf = true ∧ (x.f2.length ≤ maxLen ∧ ∀ y ∈ x.f2, (Lit.int .i64 y).wf = true)) 55 := by
  intro fuel cs x h
  obtain ⟨hl, n, hf⟩ := struct_cells Try.underlying55 (by kernel_rfl) (by kernel_rfl) h
  obtain ⟨c0, z0, e0, t0⟩ := hf 0 _ rfl
  obtain ⟨c1, z1, e1, t1⟩ := hf 1 _ rfl
  obtain ⟨c2, z2, e2, t2⟩ := hf 2 _ rfl
  obtain ⟨a0, k0, g0⟩ := tells_int Try.underlying3 _ _ _ t0
  obtain ⟨a1, k1, g1⟩ := tells_int Try.underlying3 _ _ _ t1
  obtain ⟨l2, k2, g2⟩ := tells_slice (d := Kd.int .i64) Try.underlying47 (by kernel_rfl) (tells_int Try.underlying3) _ _ _ t2
  obtain ⟨A2, n2, q2, hc2, hr2⟩ := k2
  obtain rfl : c0 = .int .i64 a0 := by have := k0; simpa [Kd.int, Kd.scalar] using this
  obtain rfl : c1 = .int .i64 a1 := by have := k1; simpa [Kd.int, Kd.scalar] using this
  obtain rfl : c2 = .slice A2 l2.length n2 := by simpa using q2
  have hcs : cs = [.int .i64 a0, .int .i64 a1, .slice A2 l2.length n2] := by
    have hl' : cs.length = 3 := hl
    match cs, hl' with
    | [x0, x1, x2], _ => simp at e0 e1 e2; rw [e0, e1, e2]
  subst hcs
  exact ⟨⟨a0, a1, l2⟩, k55_mk W ⟨a0, a1, l2⟩ hc2 hr2, g0, g1, g2⟩
set_option maxRecDepth 100000 in
theorem lifted (os : Os) (started : os.Started) (H : Type) (enc : TypeId × Value → H) :
    ReturnsInHanded {} Try.checked os 8 .any (Rows.ruleEarlySpec.pre6 enc Try.prog Try.f8 Rows.ruleEarlyRow.domain false) (Rows.ruleEarlySpec.post enc Try.prog Try.f8 false true false false) := by
  refine returnsInHanded_of_change (C := Try.checked) own started (by kernel_rfl) Try.func8
    (ChangeSpec.witness6 (enc := enc) (C := Try.checked) false ⟨#[], #[.agg #[.int .i64 0, .slice none 0 0, .slice none 0 0, .slice none 0 0]], []⟩ 8 (by kernel_rfl) (by kernel_rfl) (by kernel_rfl) (by kernel_rfl)) ?_
  intro W base args ds gs before hval0 hW hcnd _
  have hval : ∀ (j : Nat) t v, Try.f8.params[j]? = some t → args[j]? = some v → Value.okWide Try.prog W .any base t v := hval0
  have hW' := hW
  obtain ⟨p, q, hA0, hV, rfl, hfz, hnd⟩ := hW
  have hA : DataW.TrodAll enc Try.prog W 0 (fun _ => true) true Try.f8.params.toList args.toList ds p := hA0
  rw [Try.params8] at hA hval
  obtain ⟨v0, vs0, d0, ds0, p0, q0, hargs, rfl, rfl, h0, r0⟩ := trodAll_cons hA
  obtain ⟨rfl, rfl, rfl⟩ := trodAll_nil r0
  obtain rfl : args = #[v0] := by cases args; simp_all
  obtain ⟨rfl, rfl⟩ := trodVars_none hV
  have k0 := h0
  have lt0 : ∀ x ∈ p0, x.block < W.heap.size := by obtain ⟨m, hm⟩ := k0; exact DataW.trod_lt m _ _ _ hm
  obtain ⟨c0, c1, c2, c3, y0, y1, y2, y3, m, rfl, _, _, hy0, hy1, hy2, hy3⟩ := Joins.open_agg4 Try.underlying50 (by kernel_rfl) (by kernel_rfl) (hval 0 50 v0 rfl rfl) h0
  obtain ⟨a0, kk0, g0⟩ := tells_int Try.underlying3 _ _ _ hy0
  obtain ⟨l1, ⟨A1, n1, q1, hc1, hr1⟩, g1⟩ := tells_slice (d := k55) Try.underlying46 (by kernel_rfl) tells_rule _ _ _ hy1
  obtain ⟨l2, ⟨A2, n2, q2, hc2, hr2⟩, g2⟩ := tells_slice (d := Kd.int .i64) Try.underlying47 (by kernel_rfl) (tells_int Try.underlying3) _ _ _ hy2
  obtain ⟨l3, ⟨A3, n3, q3, hc3, hr3⟩, g3⟩ := tells_slice (d := Kd.string) Try.underlying48 (by kernel_rfl) (tells_string Try.underlying9) _ _ _ hy3
  obtain rfl : c0 = .int .i64 a0 := by have := kk0; simpa [Kd.int, Kd.scalar] using this
  obtain rfl : c1 = .slice A1 l1.length n1 := by simpa using q1
  obtain rfl : c2 = .slice A2 l2.length n2 := by simpa using q2
  obtain rfl : c3 = .slice A3 l3.length n3 := by simpa using q3
  clear hA0 hval0
  refine (early_walk a0 A1 n1 l1 A2 n2 l2 A3 n3 l3 W hr1 hc1 hr2 hc2 hr3 hc3 g0 g1 g2 g3).mono fun e W' ⟨he, bel⟩ => ?_
  subst he
  exact ⟨_, rfl, _, _, _, [], _, [], hW', trodAll_mk1 (shut_bool Try.underlying4 _), (trodAll_cons_mk (Below.trod laidOut (by kernel_rfl) (of_decide_eq_true (by kernel_rfl)) k0 bel lt0) trodAll_mk0), rfl, bel.frame _, fun h => by cases h⟩
theorem over : Rows.ruleEarlyRow.holds Try.pinned (OpenSpec.ofChange Rows.ruleEarlySpec) :=
  OpenClaim.holds_of_wide 8 Try.f8 rfl rfl rfl rfl rfl rfl rfl ⟨rfl, rfl, rfl, rfl, rfl⟩ rfl rfl rfl rfl rfl (by kernel_rfl) Try.func8 (by kernel_rfl)
    (of_decide_eq_true (by kernel_rfl)) (by unfold Func.isWrapper; first | (rw [if_pos (by decide +kernel)]; kernel_rfl) | (rw [if_neg (by decide +kernel)]; exact ⟨rfl, rfl⟩))
    (fun os started H enc _ => lifted os started H enc)
theorem proved : Rows.RuleEarlySaid := over
end Go.Proofs.Ythdkmohgphbdeaa.ruleEarly
namespace Go.Proofs.Ythdkmohgphbdeaa
/-- The row, under a short name, for the claim. -/
theorem ruleEarly_holds : Rows.RuleEarlySaid := ruleEarly.proved
end Go.Proofs.Ythdkmohgphbdeaa
#print axioms Go.Proofs.Ythdkmohgphbdeaa.ruleEarly_holds
