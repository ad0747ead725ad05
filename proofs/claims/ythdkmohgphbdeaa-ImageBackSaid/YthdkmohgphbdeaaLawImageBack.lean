/- ImageBack: for every input the law ImageBack returns true and its arguments read as before. Conditions: none beside the row's own. -/
import Derived.Test.YthdkmohgphbdeaaRows
import Derived.Test.YthdkmohgphbdeaaPureImgBack
import Derived.Test.YthdkmohgphbdeaaOpen
import Derived.WalkKit
import Derived.ProofKit
import Derived.OpenShut
import Derived.ShutString
import Derived.ChangeOld
import Derived.Below
import Derived.SizedLaws
import Derived.Test.YthdkmohgphbdeaaWSized
namespace Go.Proofs.Ythdkmohgphbdeaa.imageBack
open Go.ChangeShapes Go.WideShapes Go.ChangeAt Go.RowKit Go.Proofs.YthdkmohgphbdeaaW.PrintWords Go.Proofs.Ythdkmohgphbdeaa.Open Go.Proofs.Ythdkmohgphbdeaa.PImR
set_option linter.unusedVariables false
theorem own : ownKnob Try.prog.godebug = none := by kernel_rfl
theorem laidOut : laidOutB Try.prog = true := by kernel_rfl
theorem cells_6 {cs : List Value} {c0 c1 c2 c3 c4 c5 : Value} (hl : cs.length = 6) (e0 : cs[0]? = some c0) (e1 : cs[1]? = some c1) (e2 : cs[2]? = some c2) (e3 : cs[3]? = some c3) (e4 : cs[4]? = some c4) (e5 : cs[5]? = some c5) : cs = [c0, c1, c2, c3, c4, c5] := by
  match cs, hl with
  | [x0, x1, x2, x3, x4, x5], _ => simp at e0 e1 e2 e3 e4 e5; rw [e0, e1, e2, e3, e4, e5]
set_option maxRecDepth 100000 in
theorem lifted (os : Os) (started : os.Started) (H : Type) (enc : TypeId × Value → H) :
    ReturnsInHanded {} Try.checked os 5 .any (Rows.imageBackSpec.pre6 enc Try.prog Try.f5 Rows.imageBackRow.domain false) (Rows.imageBackSpec.post enc Try.prog Try.f5 false true false false) := by
  refine returnsInHanded_of_change_sized (C := Try.checked) own started (by kernel_rfl) Try.func5
    (ChangeSpec.witness6 (enc := enc) (C := Try.checked) false ⟨#[], #[.agg #[.int .i64 0, .string ByteArray.empty, .string ByteArray.empty, .string ByteArray.empty, .int .i64 0, .string ByteArray.empty], .slice none 0 0, .int .u8 0], []⟩ 8 (by kernel_rfl) (by kernel_rfl) (by kernel_rfl) (by kernel_rfl)) ?_
  intro W base args ds gs before hval0 hW hcnd hsz0 _
  have hsz : (DataW.weightsEach Try.prog (Try.f5.params.toList ++ Rows.imageBackSpec.plain.varTypes Try.prog) (ds ++ gs)).all (· ≤ reachBytes) = true := hsz0
  have hval : ∀ (j : Nat) t v, Try.f5.params[j]? = some t → args[j]? = some v → Value.okWide Try.prog W .any base t v := hval0
  have hW' := hW
  obtain ⟨p, q, hA0, hV, rfl, hfz, hnd⟩ := hW
  have hA : DataW.TrodAll enc Try.prog W 0 (fun _ => true) true Try.f5.params.toList args.toList ds p := hA0
  rw [Try.params5] at hA hval hsz
  obtain ⟨v0, vs0, d0, ds0, p0, q0, hargs, rfl, rfl, h0, r0⟩ := trodAll_cons hA
  obtain ⟨v1, vs1, d1, ds1, p1, q1, rfl, rfl, rfl, h1, r1⟩ := trodAll_cons r0
  obtain ⟨v2, vs2, d2, ds2, p2, q2, rfl, rfl, rfl, h2, r2⟩ := trodAll_cons r1
  obtain ⟨rfl, rfl, rfl⟩ := trodAll_nil r2
  obtain rfl : args = #[v0, v1, v2] := by cases args; simp_all
  obtain ⟨rfl, rfl⟩ := trodVars_none hV
  have k0 := h0
  have lt0 : ∀ x ∈ p0, x.block < W.heap.size := by obtain ⟨m, hm⟩ := k0; exact DataW.trod_lt m _ _ _ hm
  obtain ⟨cs0, rfl, hl0, m0, hf0⟩ := open_agg Try.underlying23 (by kernel_rfl) (by kernel_rfl) (hval 0 23 v0 rfl rfl) h0
  obtain ⟨c0_0, z0_0, e0_0, t0_0⟩ := hf0 0 _ rfl
  obtain ⟨c0_1, z0_1, e0_1, t0_1⟩ := hf0 1 _ rfl
  obtain ⟨c0_2, z0_2, e0_2, t0_2⟩ := hf0 2 _ rfl
  obtain ⟨c0_3, z0_3, e0_3, t0_3⟩ := hf0 3 _ rfl
  obtain ⟨c0_4, z0_4, e0_4, t0_4⟩ := hf0 4 _ rfl
  obtain ⟨c0_5, z0_5, e0_5, t0_5⟩ := hf0 5 _ rfl
  have hcs0 : cs0 = [c0_0, c0_1, c0_2, c0_3, c0_4, c0_5] := cells_6 hl0 e0_0 e0_1 e0_2 e0_3 e0_4 e0_5
  subst hcs0
  obtain ⟨a0, kk0, g0⟩ := (tells_int Try.underlying3) _ _ _ t0_0
  obtain rfl : c0_0 = .int .i64 a0 := by have := kk0; simpa [Kd.int, Kd.scalar] using this
  obtain ⟨a1, kk1, g1⟩ := (tells_string Try.underlying9) _ _ _ t0_1
  obtain rfl : c0_1 = .string a1 := by have := kk1; simpa [Kd.string, Kd.scalar] using this
  obtain ⟨a2, kk2, g2⟩ := (tells_string Try.underlying9) _ _ _ t0_2
  obtain rfl : c0_2 = .string a2 := by have := kk2; simpa [Kd.string, Kd.scalar] using this
  obtain ⟨a3, kk3, g3⟩ := (tells_string Try.underlying9) _ _ _ t0_3
  obtain rfl : c0_3 = .string a3 := by have := kk3; simpa [Kd.string, Kd.scalar] using this
  obtain ⟨a4, kk4, g4⟩ := (tells_int Try.underlying3) _ _ _ t0_4
  obtain rfl : c0_4 = .int .i64 a4 := by have := kk4; simpa [Kd.int, Kd.scalar] using this
  obtain ⟨a5, kk5, g5⟩ := (tells_string Try.underlying9) _ _ _ t0_5
  obtain rfl : c0_5 = .string a5 := by have := kk5; simpa [Kd.string, Kd.scalar] using this
  have k1 := h1
  have lt1 : ∀ x ∈ p1, x.block < W.heap.size := by obtain ⟨m, hm⟩ := k1; exact DataW.trod_lt m _ _ _ hm
  obtain ⟨ya1, yl1, yc1, rfl⟩ := okWide_slice Try.underlying24 (hval 1 24 v1 rfl rfl)
  have y1 : yl1 * 1 ≤ 140737488351232 := sized_ints hsz (j := 1) (t := 24) rfl rfl Try.underlying24 Try.underlying5 (by kernel_rfl) (by kernel_rfl) h1
  obtain ⟨m1, t1⟩ := h1
  obtain ⟨l6, ⟨A6, n6, q6, hc6, hr6⟩, g6⟩ := (tells_slice (d := (Kd.int .u8)) Try.underlying24 (by kernel_rfl) (tells_int Try.underlying5)) _ _ _ t1
  simp only [Value.cells, List.cons.injEq, and_true, Value.slice.injEq] at q6
  obtain ⟨rfl, rfl, rfl⟩ := q6
  have k2 := h2
  have lt2 : ∀ x ∈ p2, x.block < W.heap.size := by obtain ⟨m, hm⟩ := k2; exact DataW.trod_lt m _ _ _ hm
  obtain ⟨a7, rfl, rfl, rfl, g7⟩ := open_int Try.underlying5 (hval 2 5 v2 rfl rfl) h2
  clear hA0 hval0 hsz0 hsz
  refine (back_walk a0 a1 a2 a3 a4 a5 _ _ l6 a7 W hr6 hc6 g0 g1 g2 g3 g4 g5 g6 g7 y1).mono fun e W' ⟨he, bel⟩ => ?_
  subst he
  exact ⟨_, rfl, _, _, _, [], _, [], hW', trodAll_mk1 (shut_bool Try.underlying4 _), (trodAll_cons_mk (Below.trod laidOut (by kernel_rfl) (of_decide_eq_true (by kernel_rfl)) k0 bel lt0) (trodAll_cons_mk (Below.trod laidOut (by kernel_rfl) (of_decide_eq_true (by kernel_rfl)) k1 bel lt1) (trodAll_cons_mk (Below.trod laidOut (by kernel_rfl) (of_decide_eq_true (by kernel_rfl)) k2 bel lt2) trodAll_mk0))), rfl, bel.frame _, fun h => by cases h⟩
theorem over : Rows.imageBackRow.holds Try.pinned (OpenSpec.ofChange Rows.imageBackSpec) :=
  OpenClaim.holds_of_wide 5 Try.f5 rfl rfl rfl rfl rfl rfl rfl ⟨rfl, rfl, rfl, rfl, rfl⟩ rfl rfl rfl rfl rfl (by kernel_rfl) Try.func5 (by kernel_rfl)
    (of_decide_eq_true (by kernel_rfl)) (by unfold Func.isWrapper; first | (rw [if_pos (by decide +kernel)]; kernel_rfl) | (rw [if_neg (by decide +kernel)]; exact ⟨rfl, rfl⟩))
    (fun os started H enc _ => lifted os started H enc)
theorem proved : Rows.ImageBackSaid := over
end Go.Proofs.Ythdkmohgphbdeaa.imageBack
namespace Go.Proofs.Ythdkmohgphbdeaa
/-- The row, under a short name, for the claim. -/
theorem imageBack_holds : Rows.ImageBackSaid := imageBack.proved
end Go.Proofs.Ythdkmohgphbdeaa
#print axioms Go.Proofs.Ythdkmohgphbdeaa.imageBack_holds
