/- RuleText: for every input of bulk at most 2 ^ 20 the law RuleText returns true and its argument reads as before; the tied card over it. Conditions: none beside the row's own (the bulk's bound; the listed tables of the library lie as the program's text lays them). -/
import Derived.Test.YtbcdlfodgoiodaaDoorRows
import Derived.Test.YtbcdlfodgoiodaaDoorCards
import Derived.Test.YtbcdlfodgoiodaaDoorTie
import Derived.Test.YtbcdlfodgoiodaaDoorTab
import Derived.Deep.DeepHandedRow
import Derived.Lib.LaidTab
import Derived.Stop.LaidErr
import Derived.Test.YtbcdlfodgoiodaaDoorPureRuleText
import Derived.Test.YtbcdlfodgoiodaaDoorOpen
import Derived.WalkKit
import Derived.ProofKit
import Derived.OpenShut
import Derived.ShutString
import Derived.ChangeOld
import Derived.Below
namespace Go.Proofs.YtbcdlfodgoiodaaDoor.ruleText
open Go.ChangeShapes Go.WideShapes Go.ChangeAt Go.RowKit Go.Proofs.YtbcdlfodgoiodaaDoorW.PrintWords Go.Proofs.YtbcdlfodgoiodaaDoor.Open Go.Proofs.YtbcdlfodgoiodaaDoor.PRtx
set_option linter.unusedVariables false
theorem own : ownKnob Tryd.prog.godebug = none := by kernel_rfl
theorem laidOut : laidOutB Tryd.prog = true := by kernel_rfl
theorem tells_rule {H : Type} {enc : TypeId × Value → H} {W : World} {base : Nat} {sp : Nat → Bool} {held : Bool} :
    Tells enc Tryd.prog W base sp held k53 (fun x => (Lit.int .i64 x.f0).wf = true ∧ (Lit.int .i64 x.f1).wf = true ∧ (x.f2.length ≤ maxLen ∧ ∀ y ∈ x.f2, (Lit.int .i64 y).wf = true)) 53 := by
  intro fuel cs x h
  obtain ⟨hl, n, hf⟩ := struct_cells Tryd.underlying53 (by kernel_rfl) (by kernel_rfl) h
  obtain ⟨c0, z0, e0, t0⟩ := hf 0 _ rfl
  obtain ⟨c1, z1, e1, t1⟩ := hf 1 _ rfl
  obtain ⟨c2, z2, e2, t2⟩ := hf 2 _ rfl
  obtain ⟨a0, k0, g0⟩ := tells_int Tryd.underlying3 _ _ _ t0
  obtain ⟨a1, k1, g1⟩ := tells_int Tryd.underlying3 _ _ _ t1
  obtain ⟨l2, k2, g2⟩ := tells_slice (d := Kd.int .i64) Tryd.underlying23 (by kernel_rfl) (tells_int Tryd.underlying3) _ _ _ t2
  obtain ⟨A2, n2, q2, hc2, hr2⟩ := k2
  obtain rfl : c0 = .int .i64 a0 := by have := k0; simpa [Kd.int, Kd.scalar] using this
  obtain rfl : c1 = .int .i64 a1 := by have := k1; simpa [Kd.int, Kd.scalar] using this
  obtain rfl : c2 = .slice A2 l2.length n2 := by simpa using q2
  have hcs : cs = [.int .i64 a0, .int .i64 a1, .slice A2 l2.length n2] := by
    have hl' : cs.length = 3 := hl
    match cs, hl' with
    | [x0, x1, x2], _ => simp at e0 e1 e2; rw [e0, e1, e2]
  subst hcs
  exact ⟨⟨a0, a1, l2⟩, k53_mk W ⟨a0, a1, l2⟩ hc2 hr2, g0, g1, g2⟩
theorem bulk_part {H : Type} {d : DataW H} {l : List (DataW H)} (h : d ∈ l) : Rows.uptoBulk d ≤ Rows.uptoBulkAll l := by
  induction l with
  | nil => cases h
  | cons x r ih =>
    simp only [Rows.uptoBulkAll]
    cases List.mem_cons.1 h with
    | inl e => subst e; omega
    | inr e => have := ih e; omega
/-- A list of texts: each text is no longer than the list's bulk. -/
theorem tells_names {H : Type} {enc : TypeId × Value → H} {W : World} {base : Nat} {sp : Nat → Bool} {held : Bool} {fuel : Nat} {cs : List Value} {x : DataW H × List MemPlace} (h : DataW.trod enc Tryd.prog W base sp held fuel 24 cs = some x) :
    ∃ xs : List ByteArray, (Kd.slice 9 Kd.string).K W xs cs ∧ ∀ s ∈ xs, s.size ≤ Rows.uptoBulk x.1 := by
  rcases Deep.open_slice Tryd.underlying24 h with ⟨rfl, _⟩ | ⟨a, len, cap, m, n, D, Pl, rfl, hb, hl, hm, hmm, rfl, hx⟩
  · exact ⟨[], ⟨none, 0, rfl, Nat.le_refl _, rfl, by simp, fun hp => absurd hp (Nat.lt_irrefl 0)⟩, by simp⟩
  · have hlm : len ≤ m := by rw [hmm]; split <;> omega
    by_cases hz : len = 0
    · subst hz
      exact ⟨[], ⟨some a, cap, rfl, by simp, rfl, by simp, fun hp => absurd hp (Nat.lt_irrefl 0)⟩, by simp⟩
    have hc : Tryd.prog.cellsOf 9 = Kd.string.sz := by kernel_rfl
    obtain ⟨f, hf⟩ := Deep.choose_lt (α := ByteArray) (n := len) (p := fun i v => ∃ cs', W.cells? base (a.add (i * Tryd.prog.cellsOf 9)) (Tryd.prog.cellsOf 9) = some cs' ∧ Kd.string.K W v cs' ∧ v.size ≤ Rows.uptoBulk (D i)) (fun i hi => by
      obtain ⟨cs', h1, h2⟩ := hx i (by omega)
      obtain ⟨v, h3, h4, _⟩ := DataW.trod_string Tryd.underlying9 h2
      refine ⟨v, cs', h1, h3, ?_⟩
      have h5 := congrArg Prod.fst h4
      simp only at h5
      rw [h5]
      simp only [Rows.uptoBulk]
      have e : v.data.toList.length = v.size := by rw [Array.length_toList]; rfl
      omega)
    have hm' : cap ≤ 9223372036854775807 := by simpa [maxLen] using hm
    refine ⟨(List.range len).map f, ⟨some a, cap, ?_, ?_, ?_, ?_, fun _ => ⟨a, rfl, fun j p hj => ?_⟩⟩, ?_⟩
    · simp
    · simpa using hl
    · rfl
    · simp; omega
    · have hjl : j < len := by
        have := (List.getElem?_eq_some_iff.1 hj).1
        simpa using this
      have hp : f j = p := by simpa [hjl] using hj
      obtain ⟨cs', h1, h2, _⟩ := hf j hjl
      obtain ⟨_, hlen, hcell⟩ := World.cells?_some h1
      refine ⟨cs', by rw [hlen, hc], by rw [← hp]; exact h2, fun i u hu => ?_⟩
      have hi : i < cs'.length := (List.getElem?_eq_some_iff.1 hu).1
      rw [← hu, ← hcell i (by omega), Deep.add_add, hc]
    · intro x hx'
      obtain ⟨i, hi, rfl⟩ := List.mem_map.1 hx'
      obtain ⟨_, _, _, hg⟩ := hf i (List.mem_range.1 hi)
      refine Nat.le_trans hg ?_
      have h6 := bulk_part (d := D i) (l := (List.range len).map D) (List.mem_map.2 ⟨i, hi, rfl⟩)
      simp only [Rows.uptoBulk]
      omega
theorem dataP : (Rows.laid_internal_strconv_uint64pow10 : DataW Unit) = Go.Lib.tabData .u64 Go.Lib.pow10Tab := by kernel_rfl
theorem tabs {W : World} (h : laidMetH Tryd.prog Rows.ruleTextUptoRow.laid W) : Go.Proofs.YtbcdlfodgoiodaaDoorW.Tab.TabW W := by
  have h1 : laidMet Tryd.prog Rows.ruleTextUptoRow.laid W := h
  have h2 : laidMet Tryd.prog (("internal/strconv.uint64pow10", Go.Lib.tabData .u64 Go.Lib.pow10Tab) :: []) W := by rw [← dataP]; exact h1.tail.tail
  exact Go.Lib.tabIs_of_head (P := Tryd.prog) (g := 1) (t := 119) (e := 56) (n := 20) (by kernel_rfl) (by kernel_rfl) Tryd.underlying119 Tryd.underlying56 (by kernel_rfl) (by kernel_rfl) h2
set_option maxRecDepth 100000 in
theorem contract (H : Type) (enc : TypeId × Value → H) (W : World) (base : Nat) (args : Array Value) (ds gs : List (DataW H)) (before : List MemPlace)
    (hval0 : ∀ (j : Nat) t v, Tryd.f6.params[j]? = some t → args[j]? = some v → Value.okWide Tryd.prog W .any base t v)
    (hW : DataW.Whole enc Tryd.prog Tryd.f6.params.toList Rows.ruleTextSpec.vars false W args.toList ds gs before) (hL : laidMetH Tryd.prog Rows.ruleTextUptoRow.laid W) (hk : Rows.uptoSmall H (ds ++ gs) = true) :
    Calls Tryd.prog 6 args W fun e W' => ∃ v, e = .returned v ∧ Rows.ruleTextSpec.post enc Tryd.prog Tryd.f6 false true false false W args v W' := by
  have HL := Aside0.mk (tabs hL)
  clear hL
  have hval := hval0
  have hW' := hW
  obtain ⟨p, q, hA0, hV, rfl, hfz, hnd⟩ := hW
  have hA : DataW.TrodAll enc Tryd.prog W 0 (fun _ => true) true Tryd.f6.params.toList args.toList ds p := hA0
  rw [Tryd.params6] at hA hval
  obtain ⟨v0, vs0, d0, ds0, p0, q0, hargs, rfl, rfl, h0, r0⟩ := trodAll_cons hA
  obtain ⟨rfl, rfl, rfl⟩ := trodAll_nil r0
  obtain rfl : args = #[v0] := by cases args; simp_all
  obtain ⟨rfl, rfl⟩ := trodVars_none hV
  have k0 := h0
  have lt0 : ∀ x ∈ p0, x.block < W.heap.size := by obtain ⟨m, hm⟩ := k0; exact DataW.trod_lt m _ _ _ hm
  obtain ⟨c0, c1, c2, c3, y0, y1, y2, y3, m, rfl, hd, _, hy0, hy1, hy2, hy3⟩ := Joins.open_agg4 Tryd.underlying26 (by kernel_rfl) (by kernel_rfl) (hval 0 26 _ rfl rfl) h0
  have hbulk : Rows.uptoBulk y3.1 ≤ 1048576 := by
    have h9 : Rows.uptoBulkAll ([d0] ++ []) ≤ 1048576 := of_decide_eq_true hk
    rw [hd] at h9
    simp only [List.append_nil, Rows.uptoBulkAll, Rows.uptoBulk] at h9
    omega
  obtain ⟨a0, kk0, g0⟩ := tells_int Tryd.underlying3 _ _ _ hy0
  obtain ⟨l1, ⟨A1, n1, q1, hc1, hr1⟩, g1⟩ := tells_slice (d := k53) Tryd.underlying22 (by kernel_rfl) tells_rule _ _ _ hy1
  obtain ⟨l2, ⟨A2, n2, q2, hc2, hr2⟩, g2⟩ := tells_slice (d := Kd.int .i64) Tryd.underlying23 (by kernel_rfl) (tells_int Tryd.underlying3) _ _ _ hy2
  obtain ⟨l3, ⟨A3, n3, q3, hc3, hr3⟩, g3⟩ := tells_names hy3
  obtain rfl : c0 = .int .i64 a0 := by have := kk0; simpa [Kd.int, Kd.scalar] using this
  obtain rfl : c1 = .slice A1 l1.length n1 := by simpa using q1
  obtain rfl : c2 = .slice A2 l2.length n2 := by simpa using q2
  obtain rfl : c3 = .slice A3 l3.length n3 := by simpa using q3
  clear hA0 hval0
  have hl1 : l1.length ≤ 9223372036854775807 := by have := g1.1; simpa [maxLen] using this
  refine (text_walk a0 A1 n1 l1 A2 n2 l2 A3 n3 l3 W hr1 hc1 hr3 hc3 hl1 (fun x hx => Nat.le_trans (g3 x hx) hbulk) HL.out).mono fun e W' ⟨he, bel⟩ => ?_
  subst he
  exact ⟨_, rfl, _, _, _, [], _, [], hW', trodAll_mk1 (shut_bool Tryd.underlying4 _), (trodAll_cons_mk (Below.trod laidOut (by kernel_rfl) (of_decide_eq_true (by kernel_rfl)) k0 bel lt0) trodAll_mk0), rfl, bel.frame _, fun h => by cases h⟩
noncomputable def laidWorld (os : Os) : World :=
  { World.holding Tryd.prog os ⟨#[], #[], []⟩ with heap := ((((World.holding Tryd.prog os ⟨#[], #[], []⟩).heap.modify 3 fun
      | .cells _ t frozen => .cells #[.int .u8 0, .int .u8 1, .int .u8 28, .int .u8 2, .int .u8 29, .int .u8 14, .int .u8 24, .int .u8 3, .int .u8 30, .int .u8 22, .int .u8 20, .int .u8 15, .int .u8 25, .int .u8 17, .int .u8 4, .int .u8 8, .int .u8 31, .int .u8 27, .int .u8 13, .int .u8 23, .int .u8 21, .int .u8 19, .int .u8 16, .int .u8 7, .int .u8 26, .int .u8 12, .int .u8 18, .int .u8 6, .int .u8 11, .int .u8 5, .int .u8 10, .int .u8 9] t frozen
      | o => o).modify 0 fun
      | .cells _ t frozen => .cells #[.int .u8 0, .int .u8 1, .int .u8 56, .int .u8 2, .int .u8 57, .int .u8 49, .int .u8 28, .int .u8 3, .int .u8 61, .int .u8 58, .int .u8 42, .int .u8 50, .int .u8 38, .int .u8 29, .int .u8 17, .int .u8 4, .int .u8 62, .int .u8 47, .int .u8 59, .int .u8 36, .int .u8 45, .int .u8 43, .int .u8 51, .int .u8 22, .int .u8 53, .int .u8 39, .int .u8 33, .int .u8 30, .int .u8 24, .int .u8 18, .int .u8 12, .int .u8 5, .int .u8 63, .int .u8 55, .int .u8 48, .int .u8 27, .int .u8 60, .int .u8 41, .int .u8 37, .int .u8 16, .int .u8 46, .int .u8 35, .int .u8 44, .int .u8 21, .int .u8 52, .int .u8 32, .int .u8 23, .int .u8 11, .int .u8 54, .int .u8 26, .int .u8 40, .int .u8 15, .int .u8 34, .int .u8 20, .int .u8 31, .int .u8 10, .int .u8 25, .int .u8 14, .int .u8 19, .int .u8 9, .int .u8 13, .int .u8 8, .int .u8 7, .int .u8 6] t frozen
      | o => o).modify 1 fun
      | .cells _ t frozen => .cells #[.int .u64 1, .int .u64 10, .int .u64 100, .int .u64 1000, .int .u64 10000, .int .u64 100000, .int .u64 1000000, .int .u64 10000000, .int .u64 100000000, .int .u64 1000000000, .int .u64 10000000000, .int .u64 100000000000, .int .u64 1000000000000, .int .u64 10000000000000, .int .u64 100000000000000, .int .u64 1000000000000000, .int .u64 10000000000000000, .int .u64 100000000000000000, .int .u64 1000000000000000000, .int .u64 10000000000000000000] t frozen
      | o => o) }
theorem laid_met (os : Os) : laidMet Tryd.prog Rows.ruleTextUptoRow.laid ((laidWorld os).forCall (fun _ _ => 0) ⟨#[], #[.agg #[.int .i64 0, .slice none 0 0, .slice none 0 0, .slice none 0 0]], []⟩).memory :=
  laidMet_of_run' 8 (by kernel_rfl) (by kernel_rfl)
theorem reads (os : Os) {H : Type} (enc : TypeId × Value → H) : ∃ places, DataW.whole enc Tryd.prog ((laidWorld os).forCall (fun _ _ => 0) ⟨#[], #[.agg #[.int .i64 0, .slice none 0 0, .slice none 0 0, .slice none 0 0]], []⟩).memory Tryd.f6.params.toList Rows.ruleTextSpec.vars false (#[.agg #[.int .i64 0, .slice none 0 0, .slice none 0 0, .slice none 0 0]] : Array Value).toList 8 = some ([.agg [.lit (.int .i64 0), .nil, .nil, .nil]], [], places) :=
  ⟨[], by kernel_rfl⟩
set_option maxRecDepth 100000 in
theorem lifted (os : Os) (started : os.Started) (H : Type) (enc : TypeId × Value → H) (F : Stop.Interp) :
    ReturnsInHanded {} Tryd.checked os 6 .any ((Rows.OpenSpec.upto Rows.ruleTextSpec).preRow enc Tryd.prog Tryd.f6 Rows.ruleTextUptoRow.domain false Rows.ruleTextUptoRow.laid) (((Rows.OpenSpec.upto Rows.ruleTextSpec).at F).post enc Tryd.prog Tryd.f6 false true false false) := by
  obtain ⟨places, hx⟩ := reads os enc
  refine returnsInHanded_of_row (C := Tryd.checked) (s := Rows.OpenSpec.upto Rows.ruleTextSpec) own started (by kernel_rfl) Tryd.func6
    (witness_row_at (enc := enc) (C := Tryd.checked) false (laidWorld os) #[.agg #[.int .i64 0, .slice none 0 0, .slice none 0 0, .slice none 0 0]] rfl (by kernel_rfl) (by kernel_rfl) (by kernel_rfl)
      (OpenSpec.preRow_of_cond 8 hx (by kernel_rfl) (fun k hk => by cases hk; kernel_rfl) (by kernel_rfl) (laid_met os))) ?_
  intro W base args ds gs before hval hW _ hcond _ hL _ _
  exact contract H enc W base args ds gs before hval hW hL (hcond _ rfl)
theorem over : Rows.RuleTextUptoSaid :=
  OpenClaim.holds_of_cond 6 Tryd.f6 rfl rfl rfl rfl rfl rfl rfl ⟨rfl, rfl, rfl, rfl, rfl⟩ rfl rfl rfl rfl rfl (by kernel_rfl) Tryd.func6 (by kernel_rfl)
    (of_decide_eq_true (by kernel_rfl)) (by unfold Func.isWrapper; first | (rw [if_pos (by decide +kernel)]; kernel_rfl) | (rw [if_neg (by decide +kernel)]; exact ⟨rfl, rfl⟩))
    (fun os started H enc _ F => by rw [OpenClaim.pre_eq_preRow]; exact lifted os started H enc F)
theorem plain (f : FuncId) (fn : Func) (hf : Tryd.pinned.checked.prog.funcNamed "provost/provostlaw06.RuleText" = some f) (hfn : Tryd.pinned.checked.prog.funcs[f]? = some fn) :
    false = Tryd.pinned.checked.prog.looks [] ∧ ∀ (j : Nat) t, fn.params[j]? = some t → Tryd.pinned.checked.prog.wantsStandIn t = false := by
  obtain rfl : f = 6 := Option.some.inj ((show Tryd.prog.funcNamed "provost/provostlaw06.RuleText" = some 6 by kernel_rfl).symm.trans hf) |>.symm
  obtain rfl : fn = Tryd.f6 := (Option.some.inj (Tryd.func6.symm.trans hfn)).symm
  refine ⟨by kernel_rfl, fun j t ht => ?_⟩
  rw [Tryd.params6] at ht
  have hm : t ∈ [26] := by simpa using Array.mem_of_getElem? ht
  have hall : ([26].all fun u => !Tryd.prog.wantsStandIn u) = true := by kernel_rfl
  exact (show Tryd.prog.wantsStandIn t = false by simpa using List.all_eq_true.1 hall t hm)
theorem proved : Rows.RuleTextUptoCardSaid :=
  Claim7.holds_tied_plain_at .later [] _ _ _ _ over (fun _ h => by cases h) (by kernel_rfl) (fun _ h => by cases h) ruleTextUpto_row_tie rfl ⟨rfl, rfl⟩ (by kernel_rfl) rfl plain (by kernel_rfl)
end Go.Proofs.YtbcdlfodgoiodaaDoor.ruleText
namespace Go.Proofs.YtbcdlfodgoiodaaDoor
/-- The tied card, under a short name, for the claim. -/
theorem ruleTextUpto_holds : Rows.RuleTextUptoCardSaid := ruleText.proved
end Go.Proofs.YtbcdlfodgoiodaaDoor
#print axioms Go.Proofs.YtbcdlfodgoiodaaDoor.ruleTextUpto_holds
