/- A text written by my program wip/gen/p2.py out of the translation and of my foreign texts; not trusted: Lean checks it. -/
import Derived.Test.YtpcnpmcknknfcaaPLscx0
import Derived.Test.YtpcnpmcknknfcaaPLscx3
import Derived.Test.YtpcnpmcknknfcaaPLscx4
namespace Go.Proofs.Ytpcnpmcknknfcaa.PLsc
open Go.RowKit Go.Proofs.YtpcnpmcknknfcaaW.PrintWords Go.Proofs.YtpcnpmcknknfcaaW.PrintLast Go.Proofs.YtpcnpmcknknfcaaW.PrintMore
attribute [local go_sem] max2_int min2_int max_two min_two max_three min_three max_four min_four   -- for this text's walks alone
set_option linter.unusedVariables false
set_option linter.unusedSimpArgs false

/-! ### lex_Scan: function 20 -/
section
open Go
open Go.Proofs.YtpcnpmcknknfcaaW.Mine
theorem ret_cell {P : Program} {fn : Func} {t p : Tmp} {ty : TypeId} (h : fn.results = #[.tmp t, .cell p ty]) (tmps : Array Value) (w : World) (g : Nat) (T : TypeId) (cs : Array Value) (fr : Nat × Nat) (d : TypeDesc)
    (hp : tmps.getD p undef = .pointer (some ⟨g, 0, none⟩)) (hg : w.heap[g]? = some (.cells cs T fr))
    (hu : P.underlying ty = some d) (hd : (match d with | .struct _ | .array _ _ => true | _ => false) = true) (hi : (P.info? ty).map (·.size) = some cs.size) :
    (results fn tmps).run P w = .ok (.tuple #[tmps.getD t undef, .agg cs]) w := by
  have hp' : tmps[p]?.getD undef = .pointer (some ⟨g, 0, none⟩) := by simpa using hp
  simp [results, h, hp', asAddr, run_loadVar_row w g T ty cs fr d hg hu hd hi, Sem.run_bind, Result.andThen]
theorem empt_yes (s : ByteArray) (h : s.size = 0) : s.toList.isEmpty = true := by
  rw [ByteArray.toList_eq, List.isEmpty_iff]
  exact List.eq_nil_of_length_eq_zero (by simpa using h)
theorem empt_no (s : ByteArray) (h : ¬ s.size = 0) : s.toList.isEmpty = false := by
  rw [ByteArray.toList_eq, Bool.eq_false_iff]
  intro e
  rw [List.isEmpty_iff] at e
  have h2 : s.data.toList.length = s.size := by simp
  rw [e] at h2
  exact h h2.symm
def szOf (w : World) (g : Nat) : Nat := match w.heap[g]? with
  | some (Obj.cells cs _ _) => (match cs[0]? with | some (Value.string s) => s.size | _ => 0)
  | _ => 0
theorem szOf_eq {w : World} {g : Nat} {s : ByteArray} {a b c d : Value} {t : TypeId} (h : w.heap[g]? = some (.cells #[.string s, a, b, c, d] t (0, 0))) : szOf w g = s.size := by
  unfold szOf; rw [h]; rfl
def scanR : Nat → ByteArray → Int → Int → List S40 → Bool → List S40 × Int × Int × Int
  | 0, _, _, _, _, _ => ([], 0, 0, 0)
  | k + 1, s, line, col, told, any => if s.size = 0 then (if any = true then (told ++ [(⟨4, ⟨#[]⟩, 0, line, col⟩ : S40)], 0, 0, 0) else (told, 0, 0, 0))
    else if (stepF s line col told any).1 = 0 then scanR k (stepF s line col told any).2.1 (stepF s line col told any).2.2.1 (stepF s line col told any).2.2.2.1 (stepF s line col told any).2.2.2.2.1 (stepF s line col told any).2.2.2.2.2 else ([], (stepF s line col told any).1, (stepF s line col told any).2.2.1, (stepF s line col told any).2.2.2.1)
theorem tl_size (s : ByteArray) (n : Nat) (h : n ≤ s.size) : (s.extract n s.size).size = s.size - n := by rw [ByteArray.size_extract]; omega
theorem bgn_pos (p : Int → Bool) (s : ByteArray) (h : 0 < s.size) (hp : p (bt s 0) = true) : 1 ≤ bgn p s := by
  obtain ⟨hl, e⟩ := bt_of s 0 h
  unfold bgn
  have h2 : bytesOf s = (bytesOf s)[0] :: (bytesOf s).drop 1 := by rw [← List.drop_eq_getElem_cons hl]; rfl
  have e' : (bytesOf s)[0] = bt s 0 := e
  rw [h2, e']
  simp [List.takeWhile, hp]
/-- what a step does to the bounds -/
theorem step_bd (s : ByteArray) (line col : Int) (told : List S40) (any : Bool) (h1 : 1 ≤ s.size) (h : (stepF s line col told any).1 = 0) (hl : 1 ≤ line) (hc : 1 ≤ col) :
    (stepF s line col told any).2.1.size < s.size ∧ (stepF s line col told any).2.2.2.2.1.length + (stepF s line col told any).2.1.size ≤ told.length + s.size ∧
    1 ≤ (stepF s line col told any).2.2.1 ∧ (stepF s line col told any).2.2.1 + (stepF s line col told any).2.1.size ≤ line + s.size ∧
    1 ≤ (stepF s line col told any).2.2.2.1 ∧ ((stepF s line col told any).2.2.2.1 + (stepF s line col told any).2.1.size ≤ col + s.size) := by
  have e1 := tl_size s 1 h1
  have l1 := bgn_le notNl s
  have l2 := bgn_le isIn s
  have e2 := tl_size s _ l1
  have e3 := tl_size s _ l2
  obtain ⟨n0, n1⟩ := numF_bd s
  have e4 := tl_size s (numF s).1.toNat (by omega)
  have p1 := bgn_pos notNl s (by omega)
  have p2 := bgn_pos isIn s (by omega)
  unfold stepF at h ⊢
  by_cases c1 : bt s 0 = 32 ∨ bt s 0 = 9
  · simp only [if_pos c1] at h ⊢; omega
  · simp only [if_neg c1] at h ⊢
    by_cases c2 : bt s 0 = 35
    · have := p1 (by rw [c2]; rfl)
      simp only [if_pos c2] at h ⊢; omega
    · simp only [if_neg c2] at h ⊢
      by_cases c3 : bt s 0 = 10
      · simp only [if_pos c3] at h ⊢
        split <;> (try simp only [List.length_append, List.length_cons, List.length_nil]) <;> omega
      · simp only [if_neg c3] at h ⊢
        by_cases c4 : isSml (bt s 0) = true
        · have := p2 (by unfold isIn; rw [c4]; rfl)
          simp only [if_pos c4] at h ⊢
          by_cases c5 : bgn isIn s > 24
          · simp only [if_pos c5] at h; cases h
          · simp only [if_neg c5, List.length_append, List.length_cons, List.length_nil] at h ⊢; omega
        · simp only [if_neg c4] at h ⊢
          by_cases c6 : isDig (bt s 0) = true
          · simp only [if_pos c6] at h ⊢
            by_cases c7 : (numF s).1 = 0
            · simp only [if_pos c7] at h; cases h
            · simp only [if_neg c7, List.length_append, List.length_cons, List.length_nil] at h ⊢; omega
          · simp only [if_neg c6] at h ⊢
            by_cases c8 : isMark (bt s 0) = true
            · simp only [if_pos c8, List.length_append, List.length_cons, List.length_nil] at h ⊢; omega
            · simp only [if_neg c8] at h; cases h
set_option maxHeartbeats 2000000 in
theorem lex_Scan.big (S : ByteArray) (w : World) (h : (S.size : Int) > 65536) :
    Calls Try.prog 20 #[.string S] w fun e w' => ∃ v0_ : Value, e = .returned (.tuple #[v0_, .agg #[.int .i64 2, .int .i64 0, .int .i64 0]]) ∧ Kd.R k40 40 w' w.heap.size (fun _ => True) v0_ [] ∧ Below w.heap.size w w' := by
  have d0 : decide (65536 < (S.size : Int)) = true := decide_eq_true (by omega)
  have d1 : decide (65536 < S.size) = true := decide_eq_true (by omega)
  go_enter Try.func20, Try.ntmps20
  go_wp2
  have n1 := heap_alloc_new w (.cells #[.int .i64 2, .int .i64 0, .int .i64 0] 34)
  have n2 := (Below.refl w.heap.size w).alloc (Nat.le_refl _) (.cells #[.int .i64 2, .int .i64 0, .int .i64 0] 34)
  generalize w.alloc (.cells #[.int .i64 2, .int .i64 0, .int .i64 0] 34) = W1 at *
  refine bodyPost_ret (ret_cell (t := 2) (p := 3) rfl _ _ w.heap.size _ _ _ _ rfl n1 Try.underlying34 rfl (by kernel_rfl)) rfl ?_
  exact ⟨_, rfl, Kd.R_nil _ _ _ _ _, n2⟩
def lex_Scan.T7 : Bool × List (List Nat × List Nat) := (true, [([], []), ([], []), ([1], [1]), ([2], [2]), ([3], [3]), ([], []), ([5], [5]), ([6], [6]), ([7], [7]), ([0, 4, 8], [0, 4, 8]), ([], []), ([9, 10, 0, 1, 2, 3, 4, 5, 6, 7, 8, 9, 10], [9])])
def lex_Scan.B7 : List Nat := [0, 0, 2, 6, 14, 0, 32, 96, 224, 511, 0, 2047]
theorem lex_Scan.tab7 : rtab .any (opsOf Try.f20 7) = lex_Scan.T7 := by kernel_rfl
theorem lex_Scan.bits7 : waitsOk lex_Scan.T7.2 lex_Scan.B7 = true := by kernel_rfl
set_option maxHeartbeats 2000000 in
set_option maxRecDepth 100000 in
theorem lex_Scan.good (S : ByteArray) (w : World) (h : (S.size : Int) ≤ 65536) :
    Calls Try.prog 20 #[.string S] w fun e w' => ∃ v0_ : Value, e = .returned (.tuple #[v0_, .agg #[.int .i64 (scanR (S.size + 1) S 1 1 [] false).2.1, .int .i64 (scanR (S.size + 1) S 1 1 [] false).2.2.1, .int .i64 (scanR (S.size + 1) S 1 1 [] false).2.2.2]]) ∧ Kd.R k40 40 w' w.heap.size (fun _ => True) v0_ (scanR (S.size + 1) S 1 1 [] false).1 ∧ Below w.heap.size w w' := by
  have d0 : decide (65536 < (S.size : Int)) = false := decide_eq_false (by omega)
  have d1 : decide (65536 < S.size) = false := decide_eq_false (by omega)
  generalize hRS : scanR (S.size + 1) S 1 1 [] false = RS
  have HRS := Aside0.mk hRS
  clear hRS
  go_enter Try.func20, Try.ntmps20
  go_wp2
  have n1 := heap_alloc2_new w (.cells #[.int .i64 0, .int .i64 0, .int .i64 0] 34) (.cells #[.string S, .int .i64 1, .int .i64 1, .slice none 0 0, .bool false] 89)
  have n3 := heap_alloc2_old w (.cells #[.int .i64 0, .int .i64 0, .int .i64 0] 34) (.cells #[.string S, .int .i64 1, .int .i64 1, .slice none 0 0, .bool false] 89)
  have n2 := below_alloc (below_alloc (Below.refl w.heap.size w) (.cells #[.int .i64 0, .int .i64 0, .int .i64 0] 34)) (.cells #[.string S, .int .i64 1, .int .i64 1, .slice none 0 0, .bool false] 89)
  generalize (w.alloc (.cells #[.int .i64 0, .int .i64 0, .int .i64 0] 34)).alloc (.cells #[.string S, .int .i64 1, .int .i64 1, .slice none 0 0, .bool false] 89) = W1 at *
  have BK0 := Aside0.mk n1
  have BC0 := Aside0.mk n3
  have HB0 := Aside0.mk n2
  clear n1 n2 n3
  go_loopw [5] (fun _ wr => ∃ (k : Nat) (s : ByteArray) (line col : Int) (v : Value) (any : Bool) (told : List S40), s.size < k ∧ scanR k s line col told any = RS ∧ told.length + s.size ≤ 65536 ∧ 1 ≤ line ∧ line + s.size ≤ 65537 ∧ 1 ≤ col ∧ col + s.size ≤ 65537 ∧
      wr.heap[w.heap.size + 1]? = some (.cells #[.string s, .int .i64 line, .int .i64 col, v, .bool any] 89 (0, 0)) ∧ wr.heap[w.heap.size]? = some (.cells #[.int .i64 0, .int .i64 0, .int .i64 0] 34 (0, 0)) ∧ Kd.R k40 40 wr (w.heap.size + 1 + 1) (fun _ => True) v told ∧ Below w.heap.size w wr) (fun _ wr => szOf wr (w.heap.size + 1))
  case atStart => exact ⟨S.size + 1, S, 1, 1, _, false, [], by omega, HRS.out, by simp; omega, by omega, by omega, by omega, by omega, BK0.out, BC0.out, Kd.R_nil _ _ _ _ _, HB0.out⟩
  case round =>
    clear BK0 BC0 HB0 HRS
    obtain ⟨k, s, line, col, v, any, told, hk, hsc, hts, hl1, hl2, hc1, hc2, hbk, hbc, hr, hb⟩ := hrel
    have BK := Aside0.mk hbk
    have BC := Aside0.mk hbc
    have HR := Aside0.mk hr
    have HB := Aside0.mk hb
    have hx0 : wr.cell? ⟨w.heap.size + 1, 0, none⟩ = some (.string s) := (blk_cell hbk 0).trans rfl
    clear hbk hbc hr hb
    obtain ⟨k, rfl⟩ : ∃ q, k = q + 1 := ⟨k - 1, by omega⟩
    rw [scanR] at hsc
    by_cases h0 : s.size = 0
    · rw [if_pos h0] at hsc
      have he := empt_yes s h0
      have he2 : (!s.toList.isEmpty) = false := by rw [he]; rfl
      have hx4 : wr.cell? ⟨w.heap.size + 1, 4, none⟩ = some (.bool any) := (blk_cell BK.out 4).trans rfl
      cases any with
      | true =>
        rw [if_pos rfl] at hsc
        have HSC := Aside0.mk hsc
        clear hsc
        go_wp2_with (go_at_call 59; (with_reducible refine (lex_scan_tell.calls (w.heap.size + 1) s line col v true told 4 0 0 _ BK.out HR.out (by omega) (by omega) (by omega)).mono ?_); rintro e w2 ⟨rfl, v2, hbk2, hr2, hbb⟩; have BC2 := Aside0.mk ((hbb.block w.heap.size (by omega)).trans BC.out); have HB2 := Aside0.mk (HB.out.trans (hbb.mono (by omega))); have hz3 : w2.cell? ⟨w.heap.size + 1, 3, none⟩ = some v2 := (blk_cell hbk2 3).trans rfl; rw [if_pos rfl] at hr2; have HR2 := Aside0.mk hr2; obtain ⟨A2, c2, e2, hq1, hq2⟩ := Kd.R_reads hr2; clear hq1 hq2 hr2 hbk2 hbb; subst e2; have hb0 : w2.cell? ⟨w.heap.size, 0, none⟩ = some (.int .i64 0) := (blk_cell BC2.out 0).trans rfl; have hb1 : w2.cell? ⟨w.heap.size, 1, none⟩ = some (.int .i64 0) := (blk_cell BC2.out 1).trans rfl; have hb2 : w2.cell? ⟨w.heap.size, 2, none⟩ = some (.int .i64 0) := (blk_cell BC2.out 2).trans rfl; have hf0 := blk_frozen BC2.out 0; have hf1 := blk_frozen BC2.out 1; have hf2 := blk_frozen BC2.out 2)
        have n1 : (((w2.setCell ⟨w.heap.size, 0, none⟩ (.int .i64 0)).setCell ⟨w.heap.size, 1, none⟩ (.int .i64 0)).setCell ⟨w.heap.size, 2, none⟩ (.int .i64 0)).heap[w.heap.size]? = some (.cells #[.int .i64 0, .int .i64 0, .int .i64 0] 34 (0, 0)) := (blk_set (blk_set (blk_set BC2.out 0 _) 1 _) 2 _).trans rfl
        have n2 : Below w.heap.size w (((w2.setCell ⟨w.heap.size, 0, none⟩ (.int .i64 0)).setCell ⟨w.heap.size, 1, none⟩ (.int .i64 0)).setCell ⟨w.heap.size, 2, none⟩ (.int .i64 0)) := ((HB2.out.setCell (Nat.le_refl _) _).setCell (Nat.le_refl _) _).setCell (Nat.le_refl _) _
        have n3 : Kd.R k40 40 (((w2.setCell ⟨w.heap.size, 0, none⟩ (.int .i64 0)).setCell ⟨w.heap.size, 1, none⟩ (.int .i64 0)).setCell ⟨w.heap.size, 2, none⟩ (.int .i64 0)) (w.heap.size + 1 + 1) (fun _ => True) (.slice A2 (told.length + 1) c2) (told ++ [(⟨4, ⟨#[]⟩, 0, line, col⟩ : S40)]) := by
          have far : ∀ (U : World) (j : Nat) (u : Value), Kd.R k40 40 U (w.heap.size + 1 + 1) (fun _ => True) (.slice A2 (told.length + 1) c2) (told ++ [(⟨4, ⟨#[]⟩, 0, line, col⟩ : S40)]) → Kd.R k40 40 (U.setCell ⟨w.heap.size, j, none⟩ u) (w.heap.size + 1 + 1) (fun _ => True) (.slice A2 (told.length + 1) c2) (told ++ [(⟨4, ⟨#[]⟩, 0, line, col⟩ : S40)]) := fun U j u hh => Kd.R_mono (Kd.R_far (Kd.R_bound hh) (fun k hk => (show k ≠ w.heap.size from by have := hk.2.1; omega)) _) (fun _ _ => trivial)
          have HR3 := HR2.out
          (try simp only [List.length_append, List.length_cons, List.length_nil, Nat.zero_add] at HR3)
          exact far _ 2 _ (far _ 1 _ (far _ 0 _ HR3))
        generalize ((w2.setCell ⟨w.heap.size, 0, none⟩ (.int .i64 0)).setCell ⟨w.heap.size, 1, none⟩ (.int .i64 0)).setCell ⟨w.heap.size, 2, none⟩ (.int .i64 0) = W9 at *
        refine bodyPost_ret (ret_cell (t := 2) (p := 3) rfl _ _ w.heap.size _ _ _ _ rfl n1 Try.underlying34 rfl (by kernel_rfl)) rfl ?_
        rw [← HSC.out]
        exact ⟨_, rfl, Kd.R_lower n3 (show w.heap.size ≤ w.heap.size + 1 + 1 by omega), n2⟩
      | false =>
        rw [if_neg (by decide)] at hsc
        have HSC := Aside0.mk hsc
        clear hsc
        have BC2 := BC
        have HB2 := HB
        have HR2 := HR
        obtain ⟨A2, c2, e2, hq1, hq2⟩ := Kd.R_reads HR.out
        clear hq1 hq2
        subst e2
        have hz3 : wr.cell? ⟨w.heap.size + 1, 3, none⟩ = some (.slice A2 told.length c2) := (blk_cell BK.out 3).trans rfl
        have hb0 : wr.cell? ⟨w.heap.size, 0, none⟩ = some (.int .i64 0) := (blk_cell BC2.out 0).trans rfl; have hb1 : wr.cell? ⟨w.heap.size, 1, none⟩ = some (.int .i64 0) := (blk_cell BC2.out 1).trans rfl; have hb2 : wr.cell? ⟨w.heap.size, 2, none⟩ = some (.int .i64 0) := (blk_cell BC2.out 2).trans rfl; have hf0 := blk_frozen BC2.out 0; have hf1 := blk_frozen BC2.out 1; have hf2 := blk_frozen BC2.out 2
        go_wp2
        have n1 : (((wr.setCell ⟨w.heap.size, 0, none⟩ (.int .i64 0)).setCell ⟨w.heap.size, 1, none⟩ (.int .i64 0)).setCell ⟨w.heap.size, 2, none⟩ (.int .i64 0)).heap[w.heap.size]? = some (.cells #[.int .i64 0, .int .i64 0, .int .i64 0] 34 (0, 0)) := (blk_set (blk_set (blk_set BC2.out 0 _) 1 _) 2 _).trans rfl
        have n2 : Below w.heap.size w (((wr.setCell ⟨w.heap.size, 0, none⟩ (.int .i64 0)).setCell ⟨w.heap.size, 1, none⟩ (.int .i64 0)).setCell ⟨w.heap.size, 2, none⟩ (.int .i64 0)) := ((HB2.out.setCell (Nat.le_refl _) _).setCell (Nat.le_refl _) _).setCell (Nat.le_refl _) _
        have n3 : Kd.R k40 40 (((wr.setCell ⟨w.heap.size, 0, none⟩ (.int .i64 0)).setCell ⟨w.heap.size, 1, none⟩ (.int .i64 0)).setCell ⟨w.heap.size, 2, none⟩ (.int .i64 0)) (w.heap.size + 1 + 1) (fun _ => True) (.slice A2 told.length c2) told := by
          have far : ∀ (U : World) (j : Nat) (u : Value), Kd.R k40 40 U (w.heap.size + 1 + 1) (fun _ => True) (.slice A2 told.length c2) told → Kd.R k40 40 (U.setCell ⟨w.heap.size, j, none⟩ u) (w.heap.size + 1 + 1) (fun _ => True) (.slice A2 told.length c2) told := fun U j u hh => Kd.R_mono (Kd.R_far (Kd.R_bound hh) (fun k hk => (show k ≠ w.heap.size from by have := hk.2.1; omega)) _) (fun _ _ => trivial)
          have HR3 := HR2.out
          (try simp only [List.length_append, List.length_cons, List.length_nil, Nat.zero_add] at HR3)
          exact far _ 2 _ (far _ 1 _ (far _ 0 _ HR3))
        generalize ((wr.setCell ⟨w.heap.size, 0, none⟩ (.int .i64 0)).setCell ⟨w.heap.size, 1, none⟩ (.int .i64 0)).setCell ⟨w.heap.size, 2, none⟩ (.int .i64 0) = W9 at *
        refine bodyPost_ret (ret_cell (t := 2) (p := 3) rfl _ _ w.heap.size _ _ _ _ rfl n1 Try.underlying34 rfl (by kernel_rfl)) rfl ?_
        rw [← HSC.out]
        exact ⟨_, rfl, Kd.R_lower n3 (show w.heap.size ≤ w.heap.size + 1 + 1 by omega), n2⟩
    · rw [if_neg h0] at hsc
      have hsd := step_bd s line col told any (by omega)
      have hstep := lex_scan_step.calls (w.heap.size + 1) s line col v any told wr BK.out HR.out (by omega) (by omega) ⟨by omega, by omega⟩ ⟨by omega, by omega⟩ (by omega)
      generalize hq : stepF s line col told any = q at *
      obtain ⟨e2, s2, l2, c2, t2, a2⟩ := q
      simp only at hsc hsd
      have HSC := Aside0.mk hsc
      have HSD := Aside0.mk hsd
      have HST := Aside0.mk hstep
      clear hsc hsd hstep hq
      have he := empt_no s h0
      have he2 : (!s.toList.isEmpty) = true := by rw [he]; rfl
      by_cases h2 : e2 = 0
      · subst h2
        rw [if_pos rfl] at HSC
        have HD := Aside0.mk (HSD.out (by rfl) hl1 hc1)
        go_wp2_with (go_at_call 58; (with_reducible refine HST.out.mono ?_); rintro e w2 ⟨rfl, v2, hbk2, hr2, hbb⟩; have BC2 := Aside0.mk ((hbb.block w.heap.size (by omega)).trans BC.out); have HB2 := Aside0.mk (HB.out.trans (hbb.mono (by omega))); have HR2 := Aside0.mk hr2; have BK2 := Aside0.mk hbk2; clear hbk2 hr2 hbb)
        go_roundw
        case rel =>
          obtain ⟨d1, d2, d3, d4, d5, d6⟩ := HD.out
          exact ⟨k, s2, l2, c2, v2, a2, t2, by omega, HSC.out, by omega, d3, by omega, d5, by omega, BK2.out, BC2.out, HR2.out, HB2.out⟩
        case measure =>
          obtain ⟨d1, _⟩ := HD.out
          rw [szOf_eq BK2.out, szOf_eq BK.out]
          exact d1
      · rw [if_neg h2] at HSC
        have q2 : (e2 != 0) = true := bne_iff_ne.2 h2
        have q3 : (e2 == 0) = false := beq_eq_false_iff_ne.2 h2
        go_wp2_with (go_at_call 58; (with_reducible refine HST.out.mono ?_); rintro e w2 ⟨rfl, v2, hbk2, hr2, hbb⟩; have BC2 := Aside0.mk ((hbb.block w.heap.size (by omega)).trans BC.out); have HB2 := Aside0.mk (HB.out.trans (hbb.mono (by omega))); have hz1 : w2.cell? ⟨w.heap.size + 1, 1, none⟩ = some (.int .i64 l2) := (blk_cell hbk2 1).trans rfl; have hz2 : w2.cell? ⟨w.heap.size + 1, 2, none⟩ = some (.int .i64 c2) := (blk_cell hbk2 2).trans rfl; have hb0 : w2.cell? ⟨w.heap.size, 0, none⟩ = some (.int .i64 0) := (blk_cell BC2.out 0).trans rfl; have hb1 : w2.cell? ⟨w.heap.size, 1, none⟩ = some (.int .i64 0) := (blk_cell BC2.out 1).trans rfl; have hb2 : w2.cell? ⟨w.heap.size, 2, none⟩ = some (.int .i64 0) := (blk_cell BC2.out 2).trans rfl; have hf0 := blk_frozen BC2.out 0; have hf1 := blk_frozen BC2.out 1; have hf2 := blk_frozen BC2.out 2; clear hbk2 hr2 hbb)
        refine start_ (n := 12) (S := fun w' => w'.cell? ⟨w.heap.size + 1, 1, none⟩ = some (.int .i64 l2) ∧ w'.cell? ⟨w.heap.size + 1, 2, none⟩ = some (.int .i64 c2)) (ds := [11]) #[false, false, false, false, false, false, false, false, false, false, false, false] (by kernel_rfl) rfl rfl (⟨hz1, hz2⟩) (fun hHeld => ?_); refine with_tabW lex_Scan.tab7 lex_Scan.bits7 (fun HT_ HW_ => ?_)
        refine pure_ (i := 0) (N := (some 22)) (v := ?_) (a' := ?_) #[true, false, false, false, false, false, false, false, false, false, false, false] rfl rfl (any_of HT_.out (by kernel_rfl)) (fun _ _ _ h => h) (Or.inl ⟨by rfl, ?_⟩) ?_ ?_
        rotate_left
        · intro w'
          go_simp
          with_reducible rfl
        rotate_left
        · simp only [Act.put, List.setIfInBounds_toArray, List.set_cons_zero, List.set_cons_succ, i64_w, i32_w]
          rfl
        refine pure_ (i := 1) (N := (some 23)) (v := ?_) (a' := ?_) #[true, true, false, false, false, false, false, false, false, false, false, false] rfl rfl (any_of HT_.out (by kernel_rfl)) (fun _ _ _ h => h) (Or.inl ⟨by rfl, ?_⟩) ?_ ?_
        rotate_left
        · intro w'
          go_simp
          with_reducible rfl
        rotate_left
        · simp only [Act.put, List.setIfInBounds_toArray, List.set_cons_zero, List.set_cons_succ, i64_w, i32_w]
          rfl
        refine pure_ (i := 2) (N := (some 24)) (v := ?_) (a' := ?_) #[true, true, true, false, false, false, false, false, false, false, false, false] rfl rfl (any_of HT_.out (by kernel_rfl)) (fun _ _ _ h => h) (Or.inl ⟨by rfl, ?_⟩) ?_ ?_
        rotate_left
        · intro w'
          go_simp
          with_reducible rfl
        rotate_left
        · simp only [Act.put, List.setIfInBounds_toArray, List.set_cons_zero, List.set_cons_succ, i64_w, i32_w]
          rfl
        refine pure_ (i := 3) (N := (some 25)) (v := ?_) (a' := ?_) #[true, true, true, true, false, false, false, false, false, false, false, false] rfl rfl (any_of HT_.out (by kernel_rfl)) (fun _ _ _ h => h) (Or.inl ⟨by rfl, ?_⟩) ?_ ?_
        rotate_left
        · intro w'
          go_simp
          with_reducible rfl
        rotate_left
        · simp only [Act.put, List.setIfInBounds_toArray, List.set_cons_zero, List.set_cons_succ, i64_w, i32_w]
          rfl
        refine take_ (i := 4) (N := (some 26)) (v := ?_) (a' := ?_) #[true, true, true, true, true, false, false, false, false, false, false, false] rfl rfl (take_ofW HT_.out HW_.out (by kernel_rfl)) (fun _ _ _ h => h) (Or.inl ⟨by rfl, ?_⟩) hHeld ?_ ?_
        rotate_left
        · intro w' ⟨s0, s1⟩
          go_simp
          with_reducible rfl
        rotate_left
        · simp only [Act.put, List.setIfInBounds_toArray, List.set_cons_zero, List.set_cons_succ, i64_w, i32_w]
          rfl
        refine pure_ (i := 5) (N := (some 27)) (v := ?_) (a' := ?_) #[true, true, true, true, true, true, false, false, false, false, false, false] rfl rfl (any_of HT_.out (by kernel_rfl)) (fun _ _ _ h => h) (Or.inl ⟨by rfl, ?_⟩) ?_ ?_
        rotate_left
        · intro w'
          go_simp
          with_reducible rfl
        rotate_left
        · simp only [Act.put, List.setIfInBounds_toArray, List.set_cons_zero, List.set_cons_succ, i64_w, i32_w]
          rfl
        refine pure_ (i := 6) (N := (some 28)) (v := ?_) (a' := ?_) #[true, true, true, true, true, true, true, false, false, false, false, false] rfl rfl (any_of HT_.out (by kernel_rfl)) (fun _ _ _ h => h) (Or.inl ⟨by rfl, ?_⟩) ?_ ?_
        rotate_left
        · intro w'
          go_simp
          with_reducible rfl
        rotate_left
        · simp only [Act.put, List.setIfInBounds_toArray, List.set_cons_zero, List.set_cons_succ, i64_w, i32_w]
          rfl
        refine pure_ (i := 7) (N := (some 29)) (v := ?_) (a' := ?_) #[true, true, true, true, true, true, true, true, false, false, false, false] rfl rfl (any_of HT_.out (by kernel_rfl)) (fun _ _ _ h => h) (Or.inl ⟨by rfl, ?_⟩) ?_ ?_
        rotate_left
        · intro w'
          go_simp
          with_reducible rfl
        rotate_left
        · simp only [Act.put, List.setIfInBounds_toArray, List.set_cons_zero, List.set_cons_succ, i64_w, i32_w]
          rfl
        refine take_ (i := 8) (N := (some 30)) (v := ?_) (a' := ?_) #[true, true, true, true, true, true, true, true, true, false, false, false] rfl rfl (take_ofW HT_.out HW_.out (by kernel_rfl)) (fun _ _ _ h => h) (Or.inl ⟨by rfl, ?_⟩) hHeld ?_ ?_
        rotate_left
        · intro w' ⟨s0, s1⟩
          go_simp
          with_reducible rfl
        rotate_left
        · simp only [Act.put, List.setIfInBounds_toArray, List.set_cons_zero, List.set_cons_succ, i64_w, i32_w]
          rfl
        refine pure_ (i := 9) (N := (some 31)) (v := ?_) (a' := ?_) #[true, true, true, true, true, true, true, true, true, true, false, false] rfl rfl (any_of HT_.out (by kernel_rfl)) (fun _ _ _ h => h) (Or.inl ⟨by rfl, ?_⟩) ?_ ?_
        rotate_left
        · intro w'
          go_simp
          with_reducible rfl
        rotate_left
        · simp only [Act.put, List.setIfInBounds_toArray, List.set_cons_zero, List.set_cons_succ, i64_w, i32_w]
          rfl
        refine pure_ (i := 10) (N := (some 2)) (v := ?_) (a' := ?_) #[true, true, true, true, true, true, true, true, true, true, true, false] rfl rfl (any_of HT_.out (by kernel_rfl)) (fun _ _ _ h => h) (Or.inl ⟨by rfl, ?_⟩) ?_ ?_
        rotate_left
        · intro w'
          go_simp
          with_reducible rfl
        rotate_left
        · simp only [Act.put, List.setIfInBounds_toArray, List.set_cons_zero, List.set_cons_succ, i64_w, i32_w]
          rfl
        refine last_ (i := 11) (N := none) #[true, true, true, true, true, true, true, true, true, true, true, true] rfl rfl (one_of HT_.out (by kernel_rfl)) (by decide) (fun K hK => ?_)
        refine skip_ (w1 := ?_) (by rfl) rfl ?_ ?_
        rotate_left
        · go_simp
          rfl
        refine hK.out _ _ ?_
        clear hK K
        refine done_ (done_of HT_.out (by kernel_rfl)) ?_
        go_wp2
        have n1 : ((((w2.setCell ⟨w.heap.size, 0, none⟩ (.int .i64 e2)).setCell ⟨w.heap.size, 1, none⟩ (.int .i64 l2)).setCell ⟨w.heap.size, 2, none⟩ (.int .i64 c2)).drew).heap[w.heap.size]? = some (.cells #[.int .i64 e2, .int .i64 l2, .int .i64 c2] 34 (0, 0)) := (blk_set (blk_set (blk_set BC2.out 0 _) 1 _) 2 _).trans rfl
        have n2 : Below w.heap.size w ((((w2.setCell ⟨w.heap.size, 0, none⟩ (.int .i64 e2)).setCell ⟨w.heap.size, 1, none⟩ (.int .i64 l2)).setCell ⟨w.heap.size, 2, none⟩ (.int .i64 c2)).drew) := below_drew (((HB2.out.setCell (Nat.le_refl _) _).setCell (Nat.le_refl _) _).setCell (Nat.le_refl _) _)
        refine bodyPost_ret (ret_cell (t := 2) (p := 3) rfl _ _ w.heap.size _ _ _ _ rfl n1 Try.underlying34 rfl (by kernel_rfl)) rfl ?_
        rw [← HSC.out]
        exact ⟨_, rfl, Kd.R_nil _ _ _ _ _, n2⟩
def lex_Scan.f (s : ByteArray) : Option (List S40 × Int × Int × Int) := if (s.size : Int) > 65536 then some ([], 2, 0, 0) else some (scanR (s.size + 1) s 1 1 [] false)
theorem lex_Scan.calls (a0 : ByteArray) (r1 : List S40) (r2 r3 r4 : Int) (w : World) (h : lex_Scan.f a0 = some (r1, r2, r3, r4)) :
    Calls Try.prog 20 #[.string a0] w fun e w' => ∃ v0_ : Value, e = .returned (.tuple #[v0_, .agg #[.int .i64 r2, .int .i64 r3, .int .i64 r4]]) ∧ Kd.R k40 40 w' w.heap.size (fun _ => True) v0_ r1 ∧ Below w.heap.size w w' := by
  unfold lex_Scan.f at h
  split at h
  next h1 => simp only [Option.some.injEq, Prod.mk.injEq] at h; obtain ⟨rfl, rfl, rfl, rfl⟩ := h; exact lex_Scan.big a0 w h1
  next h1 =>
    have hg := lex_Scan.good a0 w (by omega)
    injection h with h
    rw [h] at hg
    exact hg
end


/-! ### provostref05_fault: function 60 -/
def provostref05_fault.f (a0 : Int) (a1 : Int) (a2 : Int) : Option (Int × Int × Int) := some (a0, a1, a2)
set_option maxHeartbeats 8000000 in
set_option maxRecDepth 100000 in
theorem provostref05_fault.calls (a0 : Int) (a1 : Int) (a2 : Int) (r1 : Int) (r2 : Int) (r3 : Int) (w : World) (h : provostref05_fault.f a0 a1 a2 = some (r1, r2, r3)) :
    Calls Try.prog 60 #[.int .i64 a0, .int .i64 a1, .int .i64 a2] w fun e w' => e = .returned (.agg #[.int .i64 r1, .int .i64 r2, .int .i64 r3]) ∧ Below w.heap.size w w' := by
  have hu34 := Try.underlying34
  have HB := Aside0.mk (Below.refl w.heap.size w)
  have H : (some (a0, a1, a2)) = some (r1, r2, r3) := h
  clear h
  simp only [Option.some.injEq, Prod.mk.injEq] at H
  obtain ⟨rfl, rfl, rfl⟩ := H
  go_enter Try.func60, Try.ntmps60
  go_wp2_with (first | ((with_reducible refine gate_dst (N := 6) rfl ?_); refine box_event ?hg (N := 6) ?hd (cs := #[.int .i64 0, .int .i64 0, .int .i64 0]) (t := 34) ?hr ?_; (case hd => rfl); (case hg => rfl); (case hr => first | (go_simp; done) | (go_simp; rfl)); intro gb103 hg w4 hbox hb; have n0_ := Aside0.mk (below_step (by repeat (first | (with_reducible first | exact HB.out | apply below_alloc | apply pw_below_drewN | apply below_drew1) | exact HB.out)) hb); have n1_ := Aside0.mk (hbox); have n2_ := Aside0.mk ((by rw [hg]; exact (below_size (by repeat (first | (with_reducible first | exact HB.out | apply below_alloc | apply pw_below_drewN | apply below_drew1) | exact HB.out))) : w.heap.size ≤ gb103)); have n3_ := Aside0.mk ((by rw [hg]; exact (below_size (by repeat (first | (with_reducible first | exact HB.out | apply below_alloc | apply pw_below_drewN | apply below_drew1) | exact HB.out))) : w.heap.size ≤ gb103)); clear HB; have HB := n0_; have BK103 := n1_; have GW103 := n2_; have GE103 := n3_; clear n0_ n1_ n2_ n3_; clear hb hbox hg; have hcz5_0 : w4.cell? ⟨gb103, 0, none⟩ = some (.int .i64 0) := (blk_cell BK103.out 0).trans rfl; have hcz5_1 : w4.cell? ⟨gb103, 1, none⟩ = some (.int .i64 0) := (blk_cell BK103.out 1).trans rfl; have hcz5_2 : w4.cell? ⟨gb103, 2, none⟩ = some (.int .i64 0) := (blk_cell BK103.out 2).trans rfl; have hfz5_0 := blk_frozen BK103.out 0; have hfz5_1 := blk_frozen BK103.out 1; have hfz5_2 := blk_frozen BK103.out 2))
  refine bodyPost_ret (results_cell_row rfl _ _ gb103 34 #[.int .i64 a0, .int .i64 a1, .int .i64 a2] (0, 0) _ rfl (by (with_reducible repeat (first | refine blk_drewN ?_ _ | refine blk_drew ?_ | refine blk_alloc ?_ _)); refine blk_put (cs := #[.int .i64 a0, .int .i64 a1, .int .i64 0]) ?_ 2 _ rfl; (with_reducible repeat (first | refine blk_drewN ?_ _ | refine blk_drew ?_ | refine blk_alloc ?_ _)); refine blk_put (cs := #[.int .i64 a0, .int .i64 0, .int .i64 0]) ?_ 1 _ rfl; (with_reducible repeat (first | refine blk_drewN ?_ _ | refine blk_drew ?_ | refine blk_alloc ?_ _)); refine blk_put (cs := #[.int .i64 0, .int .i64 0, .int .i64 0]) ?_ 0 _ rfl; (with_reducible repeat (first | refine blk_drewN ?_ _ | refine blk_drew ?_ | refine blk_alloc ?_ _)); exact BK103.out) Try.underlying34 rfl (by kernel_rfl)) rfl ?_
  exact ⟨by first | rfl | (simp [errW_none, errW_some] <;> rfl) | (simp [*, errW_none, errW_some] <;> rfl), by repeat (first | (with_reducible first | exact HB.out | apply below_alloc | apply pw_below_drewN | apply below_drew1 | refine below_set ?_ GE103.out) | exact HB.out)⟩

/-! ### provostref05_letter: function 61 -/
def provostref05_letter.f (a0 : Int) : Option (Bool) := if a0 ≥ 97 then (some (decide (a0 ≤ 122))) else (some false)
set_option maxHeartbeats 8000000 in
set_option maxRecDepth 100000 in
theorem provostref05_letter.calls (a0 : Int) (r : Bool) (w : World) (h : provostref05_letter.f a0 = some r) :
    Calls Try.prog 61 #[.int .u8 a0] w fun e w' => e = .returned (.bool r) ∧ Drawn0 w w' := by
  have H : (if a0 ≥ 97 then (some (decide (a0 ≤ 122))) else (some false)) = some r := h
  clear h
  by_cases c2 : a0 ≥ 97
  · rw [if_pos c2] at H
    have c2b0 : decide (97 ≤ a0) = true := decide_eq_true c2
    clear c2
    obtain rfl := Option.some.inj H
    go_enter Try.func61, Try.ntmps61
    go_wp2
    go_ret
    exact ⟨by first | rfl | (simp; done) | (simp [*]; done), by repeat (first | exact Drawn0.refl _ | apply Drawn0.step)⟩
  · rw [if_neg c2] at H
    have c2b0 : decide (97 ≤ a0) = false := decide_eq_false c2
    clear c2
    obtain rfl := Option.some.inj H
    go_enter Try.func61, Try.ntmps61
    go_wp2
    go_ret
    exact ⟨by first | rfl | (simp; done) | (simp [*]; done), by repeat (first | exact Drawn0.refl _ | apply Drawn0.step)⟩

/-! ### provostref05_digit: function 63 -/
def provostref05_digit.f (a0 : Int) : Option (Bool) := if a0 ≥ 48 then (some (decide (a0 ≤ 57))) else (some false)
set_option maxHeartbeats 8000000 in
set_option maxRecDepth 100000 in
theorem provostref05_digit.calls (a0 : Int) (r : Bool) (w : World) (h : provostref05_digit.f a0 = some r) :
    Calls Try.prog 63 #[.int .u8 a0] w fun e w' => e = .returned (.bool r) ∧ Drawn0 w w' := by
  have H : (if a0 ≥ 48 then (some (decide (a0 ≤ 57))) else (some false)) = some r := h
  clear h
  by_cases c2 : a0 ≥ 48
  · rw [if_pos c2] at H
    have c2b0 : decide (48 ≤ a0) = true := decide_eq_true c2
    clear c2
    obtain rfl := Option.some.inj H
    go_enter Try.func63, Try.ntmps63
    go_wp2
    go_ret
    exact ⟨by first | rfl | (simp; done) | (simp [*]; done), by repeat (first | exact Drawn0.refl _ | apply Drawn0.step)⟩
  · rw [if_neg c2] at H
    have c2b0 : decide (48 ≤ a0) = false := decide_eq_false c2
    clear c2
    obtain rfl := Option.some.inj H
    go_enter Try.func63, Try.ntmps63
    go_wp2
    go_ret
    exact ⟨by first | rfl | (simp; done) | (simp [*]; done), by repeat (first | exact Drawn0.refl _ | apply Drawn0.step)⟩

/-! ### provostref05_inner: function 62 -/
def provostref05_inner.f (a0 : Int) : Option (Bool) := (provostref05_letter.f a0).bind fun t104 => (if t104 = true then (some true) else ((provostref05_digit.f a0).bind fun t105 => (if t105 = true then (some true) else (some (a0 == 45)))))
set_option maxHeartbeats 8000000 in
set_option maxRecDepth 100000 in
theorem provostref05_inner.calls (a0 : Int) (r : Bool) (w : World) (h : provostref05_inner.f a0 = some r) :
    Calls Try.prog 62 #[.int .u8 a0] w fun e w' => e = .returned (.bool r) ∧ Drawn0 w w' := by
  have H : ((provostref05_letter.f a0).bind fun t104 => (if t104 = true then (some true) else ((provostref05_digit.f a0).bind fun t105 => (if t105 = true then (some true) else (some (a0 == 45)))))) = some r := h
  clear h
  replace H := Option.bind_eq_some_iff.mp H
  obtain ⟨t104, A20, H⟩ := H
  replace H : (if t104 = true then (some true) else ((provostref05_digit.f a0).bind fun t105 => (if t105 = true then (some true) else (some (a0 == 45))))) = some r := H
  have A2 := Aside0.mk A20
  clear A20
  by_cases c3 : t104 = true
  · subst c3
    have H1 : (some true) = some r := by rw [if_pos rfl] at H; exact H
    clear H
    have H := H1
    clear H1
    obtain rfl := Option.some.inj H
    go_enter Try.func62, Try.ntmps62
    go_wp2_with (first | ((with_reducible refine gate_callee (f := 61) rfl ?_); refine goesL_ (some 4) rfl rfl Try.func61 (by kernel_rfl) rfl #[.int .u8 a0] rfl (by (try simp only [List.map_toArray, List.map_cons, List.map_nil]); first | done | rfl | (simp only [List.length_drop, List.length_take]; rfl)) ?_; (with_reducible refine (provostref05_letter.calls a0 true _ A2.out).mono ?_); rintro e w' ⟨rfl, ⟨nd, rfl⟩⟩; refine ⟨_, rfl, ?_⟩))
    go_ret
    exact ⟨by first | rfl | (simp; done) | (simp [*]; done), by repeat (first | exact Drawn0.refl _ | apply Drawn0.step)⟩
  · replace c3 := Bool.eq_false_iff.mpr c3
    subst c3
    have H1 : ((provostref05_digit.f a0).bind fun t105 => (if t105 = true then (some true) else (some (a0 == 45)))) = some r := by rw [if_neg (show ¬ (false = true) by decide)] at H; exact H
    clear H
    have H := H1
    clear H1
    replace H := Option.bind_eq_some_iff.mp H
    obtain ⟨t105, A40, H⟩ := H
    replace H : (if t105 = true then (some true) else (some (a0 == 45))) = some r := H
    have A4 := Aside0.mk A40
    clear A40
    by_cases c5 : t105 = true
    · subst c5
      have H1 : (some true) = some r := by rw [if_pos rfl] at H; exact H
      clear H
      have H := H1
      clear H1
      obtain rfl := Option.some.inj H
      go_enter Try.func62, Try.ntmps62
      go_wp2_with (first | ((with_reducible refine gate_callee (f := 61) rfl ?_); refine goesL_ (some 4) rfl rfl Try.func61 (by kernel_rfl) rfl #[.int .u8 a0] rfl (by (try simp only [List.map_toArray, List.map_cons, List.map_nil]); first | done | rfl | (simp only [List.length_drop, List.length_take]; rfl)) ?_; (with_reducible refine (provostref05_letter.calls a0 false _ A2.out).mono ?_); rintro e w' ⟨rfl, ⟨nd, rfl⟩⟩; refine ⟨_, rfl, ?_⟩) | (go_at_call 63; (with_reducible refine (provostref05_digit.calls a0 true _ A4.out).mono ?_); rintro e w' ⟨rfl, ⟨nd, rfl⟩⟩))
      go_ret
      exact ⟨by first | rfl | (simp; done) | (simp [*]; done), by repeat (first | exact Drawn0.refl _ | apply Drawn0.step)⟩
    · replace c5 := Bool.eq_false_iff.mpr c5
      subst c5
      have H1 : (some (a0 == 45)) = some r := by rw [if_neg (show ¬ (false = true) by decide)] at H; exact H
      clear H
      have H := H1
      clear H1
      obtain rfl := Option.some.inj H
      go_enter Try.func62, Try.ntmps62
      go_wp2_with (first | ((with_reducible refine gate_callee (f := 61) rfl ?_); refine goesL_ (some 4) rfl rfl Try.func61 (by kernel_rfl) rfl #[.int .u8 a0] rfl (by (try simp only [List.map_toArray, List.map_cons, List.map_nil]); first | done | rfl | (simp only [List.length_drop, List.length_take]; rfl)) ?_; (with_reducible refine (provostref05_letter.calls a0 false _ A2.out).mono ?_); rintro e w' ⟨rfl, ⟨nd, rfl⟩⟩; refine ⟨_, rfl, ?_⟩) | (go_at_call 63; (with_reducible refine (provostref05_digit.calls a0 false _ A4.out).mono ?_); rintro e w' ⟨rfl, ⟨nd, rfl⟩⟩))
      go_ret
      exact ⟨by first | rfl | (simp; done) | (simp [*]; done), by repeat (first | exact Drawn0.refl _ | apply Drawn0.step)⟩

/-! ### provostref05_Right: function 64 -/
mutual
def provostref05_Right.j0 : Nat → ByteArray → Bool → Option (Bool)
  | 0, _, _ => none
  | k + 1, x0, x21 => if x21 = true then (some false) else (provostref05_Right.l0 k x0 0)
def provostref05_Right.l0 : Nat → ByteArray → Int → Option (Bool)
  | 0, _, _ => none
  | k + 1, x0, x3 => if x3 < (x0.size : Int) then (if 0 ≤ x3 then ((provostref05_digit.f (bt x0 x3)).bind fun t106 => (if t106 = true then (provostref05_Right.l0 k x0 (wrap64 (x3 + 1))) else (some false))) else (none)) else (some true)
end
def provostref05_Right.f (k : Nat) (a0 : ByteArray) : Option (Bool) := if (a0.size : Int) < 1 then (provostref05_Right.j0 k a0 true) else (if (a0.size : Int) > 9 then (provostref05_Right.j0 k a0 true) else (if (a0.size : Int) > 1 then (if 0 < (a0.size : Int) then (provostref05_Right.j0 k a0 ((bt a0 0) == 48)) else (none)) else (provostref05_Right.j0 k a0 false)))
theorem provostref05_Right.mono_l : ∀ k, (∀ y0 y1, LeO (provostref05_Right.j0 k y0 y1) (provostref05_Right.j0 (k + 1) y0 y1)) ∧ (∀ y0 y1, LeO (provostref05_Right.l0 k y0 y1) (provostref05_Right.l0 (k + 1) y0 y1))
  | 0 => ⟨fun _ _ r h => by simp [provostref05_Right.j0] at h, fun _ _ r h => by simp [provostref05_Right.l0] at h⟩
  | k + 1 => by
    obtain ⟨ih0, ih1⟩ := provostref05_Right.mono_l k
    refine ⟨?_, ?_⟩
    · intro y0 y1
      unfold provostref05_Right.j0
      repeat' first
      | (with_reducible exact ih0 _ _)
      | (with_reducible exact ih1 _ _)
      | (with_reducible exact LeO.refl _)
      | (with_reducible exact LeO.none _)
      | (with_reducible refine LeO.ite ?_ ?_)
      | (with_reducible refine LeO.bind ?_ (fun _ => ?_))
      | exact ih0 _ _
      | exact ih1 _ _
      | exact LeO.none _
      | refine LeO.ite ?_ ?_
      | refine LeO.bind ?_ (fun _ => ?_)
    · intro y0 y1
      unfold provostref05_Right.l0
      repeat' first
      | (with_reducible exact ih0 _ _)
      | (with_reducible exact ih1 _ _)
      | (with_reducible exact LeO.refl _)
      | (with_reducible exact LeO.none _)
      | (with_reducible refine LeO.ite ?_ ?_)
      | (with_reducible refine LeO.bind ?_ (fun _ => ?_))
      | exact ih0 _ _
      | exact ih1 _ _
      | exact LeO.none _
      | refine LeO.ite ?_ ?_
      | refine LeO.bind ?_ (fun _ => ?_)
theorem provostref05_Right.mono : ∀ a0 k, LeO (provostref05_Right.f k a0) (provostref05_Right.f (k + 1) a0) := by
  intro a0 k
  obtain ⟨ih0, ih1⟩ := provostref05_Right.mono_l k
  unfold provostref05_Right.f
  repeat' first
      | (with_reducible exact ih0 _ _)
      | (with_reducible exact ih1 _ _)
      | (with_reducible exact LeO.refl _)
      | (with_reducible exact LeO.none _)
      | (with_reducible refine LeO.ite ?_ ?_)
      | (with_reducible refine LeO.bind ?_ (fun _ => ?_))
      | exact ih0 _ _
      | exact ih1 _ _
      | exact LeO.none _
      | refine LeO.ite ?_ ?_
      | refine LeO.bind ?_ (fun _ => ?_)
set_option maxHeartbeats 8000000 in
set_option maxRecDepth 100000 in
theorem provostref05_Right.calls (k : Nat) (a0 : ByteArray) (r : Bool) (w : World) (h : provostref05_Right.f k a0 = some r) :
    Calls Try.prog 64 #[.string a0] w fun e w' => e = .returned (.bool r) ∧ Drawn0 w w' := by
  have H : (if (a0.size : Int) < 1 then (provostref05_Right.j0 k a0 true) else (if (a0.size : Int) > 9 then (provostref05_Right.j0 k a0 true) else (if (a0.size : Int) > 1 then (if 0 < (a0.size : Int) then (provostref05_Right.j0 k a0 ((bt a0 0) == 48)) else (none)) else (provostref05_Right.j0 k a0 false)))) = some r := h
  clear h
  have HC2 := Aside0.mk H
  clear H
  go_enter Try.func64, Try.ntmps64
  go_upto_region 1 with (fail)
  go_cut [21] (fun v21 wc => ∃ (kq : Nat) (x21_1 : Bool), v21 = .bool x21_1 ∧ Aside0 (provostref05_Right.j0 kq a0 x21_1 = some r) ∧ Aside0 (kq ≤ k) ∧ Drawn0 w wc)
  case first =>
    have H := HC2.out
    clear HC2
    by_cases c3 : (a0.size : Int) < 1
    · rw [if_pos c3] at H
      have c3b0 : decide ((a0.size : Int) < 1) = true := decide_eq_true c3
      have c3b1 : decide (a0.size < 1) = true := decide_eq_true (by omega)
      clear c3
      (first | rw [c3b0] | (simp only [i64_w, i32_w]; rw [c3b0]) | skip)
      have H' := Aside0.mk H
      clear H
      go_wp2
      go_meet
      case rel => exact ⟨_, (true), (by first | rfl | (simp; done) | (simp [*]; done)), H', ⟨by first | omega | exact Nat.le_refl _⟩, by repeat (first | exact Drawn0.refl _ | apply Drawn0.step)⟩
    · rw [if_neg c3] at H
      have c3b0 : decide ((a0.size : Int) < 1) = false := decide_eq_false c3
      have c3b1 : decide (a0.size < 1) = false := decide_eq_false (by omega)
      clear c3
      (first | rw [c3b0] | (simp only [i64_w, i32_w]; rw [c3b0]) | skip)
      by_cases c4 : (a0.size : Int) > 9
      · rw [if_pos c4] at H
        have c4b0 : decide (9 < (a0.size : Int)) = true := decide_eq_true c4
        have c4b1 : decide (9 < a0.size) = true := decide_eq_true (by omega)
        clear c4
        have H' := Aside0.mk H
        clear H
        go_wp2
        go_meet
        case rel => exact ⟨_, (true), (by first | rfl | (simp; done) | (simp [*]; done)), H', ⟨by first | omega | exact Nat.le_refl _⟩, by repeat (first | exact Drawn0.refl _ | apply Drawn0.step)⟩
      · rw [if_neg c4] at H
        have c4b0 : decide (9 < (a0.size : Int)) = false := decide_eq_false c4
        have c4b1 : decide (9 < a0.size) = false := decide_eq_false (by omega)
        clear c4
        by_cases c5 : (a0.size : Int) > 1
        · rw [if_pos c5] at H
          have c5b0 : decide (1 < (a0.size : Int)) = true := decide_eq_true c5
          have c5b1 : decide (1 < a0.size) = true := decide_eq_true (by omega)
          clear c5
          by_cases c6 : 0 < (a0.size : Int)
          · rw [if_pos c6] at H
            have c6b0 : decide (0 < (a0.size : Int)) = true := decide_eq_true c6
            have c6b1 : decide (0 < a0.size) = true := decide_eq_true (by omega)
            clear c6
            have H' := Aside0.mk H
            clear H
            have p7 : 0 ≤ (0 : Int) := (by omega)
            have q7 : 0 < a0.size := (by have : (0 : Int) < (a0.size : Int) := of_decide_eq_true (by first | (with_reducible assumption) | assumption); omega)
            have hx7 : ∀ h : 0 < a0.size, ((a0[0]'h).toNat : Int) = bt a0 0 := bt_at a0 0
            clear p7
            have qi7 : (0 < (a0.size : Int)) = True := eq_true (of_decide_eq_true (by first | (with_reducible assumption) | assumption))
            replace q7 := eq_true q7
            go_wp2
            go_meet
            case rel => exact ⟨_, (((bt a0 0) == 48)), (by first | rfl | (simp; done) | (simp [*]; done)), H', ⟨by first | omega | exact Nat.le_refl _⟩, by repeat (first | exact Drawn0.refl _ | apply Drawn0.step)⟩
          · rw [if_neg c6] at H
            exact absurd H (by simp)
        · rw [if_neg c5] at H
          have c5b0 : decide (1 < (a0.size : Int)) = false := decide_eq_false c5
          have c5b1 : decide (1 < a0.size) = false := decide_eq_false (by omega)
          clear c5
          have H' := Aside0.mk H
          clear H
          go_wp2
          go_meet
          case rel => exact ⟨_, (false), (by first | rfl | (simp; done) | (simp [*]; done)), H', ⟨by first | omega | exact Nat.le_refl _⟩, by repeat (first | exact Drawn0.refl _ | apply Drawn0.step)⟩
  case rest =>
    clear HC2
    try clear p2
    try clear c3
    try clear c3b0
    try clear c3b1
    try clear c4
    try clear c4b0
    try clear c4b1
    try clear c5
    try clear c5b0
    try clear c5b1
    try clear c6
    try clear c6b0
    try clear c6b1
    try clear p7
    try clear q7
    try clear hx7
    try clear qi7
    try clear p7
    try clear q7
    obtain ⟨kq, x21_1, rfl, HA, HJ1, ⟨mc1, rfl⟩⟩ := hcut
    cases kq with
    | zero => exact absurd HA.out (by simp [provostref05_Right.j0])
    | succ kj1 =>
      have H := HA.out
      clear HA
      simp only [provostref05_Right.j0] at H
      by_cases c8 : x21_1 = true
      · subst c8
        have H1 : (some false) = some r := by rw [if_pos rfl] at H; exact H
        clear H
        have H := H1
        clear H1
        obtain rfl := Option.some.inj H
        go_wp2
        go_ret
        exact ⟨by first | rfl | (simp; done) | (simp [*]; done), by repeat (first | exact Drawn0.refl _ | apply Drawn0.step)⟩
      · replace c8 := Bool.eq_false_iff.mpr c8
        subst c8
        have H1 : (provostref05_Right.l0 kj1 a0 0) = some r := by rw [if_neg (show ¬ (false = true) by decide)] at H; exact H
        clear H
        have H := H1
        clear H1
        have H' := Aside0.mk H
        clear H
        go_wp2
        go_loopg [3] kj1 (fun kq v3 w' => ∃ (x3_2 : Int), v3 = .int .i64 x3_2 ∧ Aside0 (provostref05_Right.l0 kq a0 x3_2 = some r) ∧ Aside0 (kq ≤ kj1) ∧ Drawn0 w w')
        case atStart => exact ⟨(0), (by first | rfl | (simp; done) | (simp [*]; done)), H', ⟨Nat.le_refl _⟩, by repeat (first | exact Drawn0.refl _ | apply Drawn0.step)⟩
        case round =>
          clear H'
          try clear c1
          try clear p2
          try clear c3
          try clear c3b0
          try clear c3b1
          try clear c4
          try clear c4b0
          try clear c4b1
          try clear c5
          try clear c5b0
          try clear c5b1
          try clear c6
          try clear c6b0
          try clear c6b1
          try clear p7
          try clear q7
          try clear hx7
          try clear qi7
          try clear c8
          try clear p2
          try clear p7
          try clear q7
          obtain ⟨x3_2, rfl, HA, HK2, ⟨m2, rfl⟩⟩ := hrel
          cases gk with
          | zero => exact absurd HA.out (by simp [provostref05_Right.l0])
          | succ k2 =>
            have H := HA.out
            clear HA
            simp only [provostref05_Right.l0] at H
            by_cases c9 : x3_2 < (a0.size : Int)
            · rw [if_pos c9] at H
              have c9b0 : decide (x3_2 < (a0.size : Int)) = true := decide_eq_true c9
              clear c9
              by_cases c10 : 0 ≤ x3_2
              · rw [if_pos c10] at H
                have c10b0 : decide (0 ≤ x3_2) = true := decide_eq_true c10
                clear c10
                replace H := Option.bind_eq_some_iff.mp H
                obtain ⟨t106, A120, H⟩ := H
                replace H : (if t106 = true then (provostref05_Right.l0 k2 a0 (wrap64 (x3_2 + 1))) else (some false)) = some r := H
                have A12 := Aside0.mk A120
                clear A120
                by_cases c13 : t106 = true
                · subst c13
                  have H1 : (provostref05_Right.l0 k2 a0 (wrap64 (x3_2 + 1))) = some r := by rw [if_pos rfl] at H; exact H
                  clear H
                  have H := H1
                  clear H1
                  have H' := Aside0.mk H
                  clear H
                  have p11 : 0 ≤ (x3_2 : Int) := of_decide_eq_true (by first | (with_reducible assumption) | assumption)
                  have q11 : x3_2 < (a0.size : Int) := of_decide_eq_true (by first | (with_reducible assumption) | assumption)
                  have hx11 := bt_at a0 x3_2
                  replace p11 := eq_true p11
                  replace q11 := eq_true q11
                  go_wp2_with (first | ((with_reducible refine gate_callee (f := 63) rfl ?_); refine goesL_ (some 31) rfl rfl Try.func63 (by kernel_rfl) rfl #[.int .u8 (bt a0 x3_2)] rfl (by (try simp only [List.map_toArray, List.map_cons, List.map_nil]); first | done | rfl | (simp only [List.length_drop, List.length_take]; rfl)) ?_; (with_reducible refine (provostref05_digit.calls (bt a0 x3_2) true _ A12.out).mono ?_); rintro e w' ⟨rfl, ⟨nd, rfl⟩⟩; refine ⟨_, rfl, ?_⟩))
                  go_roundg k2
                  case measure => have := HJ1.out; have := HK2.out; omega
                  case rel => exact ⟨(wrap64 (x3_2 + 1)), (by first | rfl | (simp; done) | (simp [*]; done)), H', ⟨by have := HJ1.out; have := HK2.out; omega⟩, by repeat (first | exact Drawn0.refl _ | apply Drawn0.step)⟩
                · replace c13 := Bool.eq_false_iff.mpr c13
                  subst c13
                  have H1 : (some false) = some r := by rw [if_neg (show ¬ (false = true) by decide)] at H; exact H
                  clear H
                  have H := H1
                  clear H1
                  obtain rfl := Option.some.inj H
                  have p11 : 0 ≤ (x3_2 : Int) := of_decide_eq_true (by first | (with_reducible assumption) | assumption)
                  have q11 : x3_2 < (a0.size : Int) := of_decide_eq_true (by first | (with_reducible assumption) | assumption)
                  have hx11 := bt_at a0 x3_2
                  replace p11 := eq_true p11
                  replace q11 := eq_true q11
                  go_wp2_with (first | ((with_reducible refine gate_callee (f := 63) rfl ?_); refine goesL_ (some 31) rfl rfl Try.func63 (by kernel_rfl) rfl #[.int .u8 (bt a0 x3_2)] rfl (by (try simp only [List.map_toArray, List.map_cons, List.map_nil]); first | done | rfl | (simp only [List.length_drop, List.length_take]; rfl)) ?_; (with_reducible refine (provostref05_digit.calls (bt a0 x3_2) false _ A12.out).mono ?_); rintro e w' ⟨rfl, ⟨nd, rfl⟩⟩; refine ⟨_, rfl, ?_⟩))
                  go_ret
                  exact ⟨by first | rfl | (simp; done) | (simp [*]; done), by repeat (first | exact Drawn0.refl _ | apply Drawn0.step)⟩
              · rw [if_neg c10] at H
                exact absurd H (by simp)
            · rw [if_neg c9] at H
              have c9b0 : decide (x3_2 < (a0.size : Int)) = false := decide_eq_false c9
              clear c9
              obtain rfl := Option.some.inj H
              go_wp2
              go_ret
              exact ⟨by first | rfl | (simp; done) | (simp [*]; done), by repeat (first | exact Drawn0.refl _ | apply Drawn0.step)⟩

/-! ### provostref05_Value: function 65 -/
def provostref05_Value.l0 : Nat → ByteArray → Int → Int → Option (Int)
  | 0, _, _, _ => none
  | k + 1, x0, x3, x4 => if x4 < (x0.size : Int) then (if 0 ≤ x4 then (provostref05_Value.l0 k x0 (wrap64 ((wrap64 (10 * x3)) + (((bt x0 x4) - 48) % 256))) (wrap64 (x4 + 1))) else (none)) else (some x3)
def provostref05_Value.f (k : Nat) (a0 : ByteArray) : Option (Int) := provostref05_Value.l0 k a0 0 0
theorem provostref05_Value.mono_l : ∀ k, (∀ y0 y1 y2, LeO (provostref05_Value.l0 k y0 y1 y2) (provostref05_Value.l0 (k + 1) y0 y1 y2))
  | 0 => fun _ _ _ r h => by simp [provostref05_Value.l0] at h
  | k + 1 => by
    have ih0 := provostref05_Value.mono_l k
    · intro y0 y1 y2
      unfold provostref05_Value.l0
      repeat' first
      | (with_reducible exact ih0 _ _ _)
      | (with_reducible exact LeO.refl _)
      | (with_reducible exact LeO.none _)
      | (with_reducible refine LeO.ite ?_ ?_)
      | (with_reducible refine LeO.bind ?_ (fun _ => ?_))
      | exact ih0 _ _ _
      | exact LeO.none _
      | refine LeO.ite ?_ ?_
      | refine LeO.bind ?_ (fun _ => ?_)
theorem provostref05_Value.mono : ∀ a0 k, LeO (provostref05_Value.f k a0) (provostref05_Value.f (k + 1) a0) := by
  intro a0 k
  have ih0 := provostref05_Value.mono_l k
  unfold provostref05_Value.f
  repeat' first
      | (with_reducible exact ih0 _ _ _)
      | (with_reducible exact LeO.refl _)
      | (with_reducible exact LeO.none _)
      | (with_reducible refine LeO.ite ?_ ?_)
      | (with_reducible refine LeO.bind ?_ (fun _ => ?_))
      | exact ih0 _ _ _
      | exact LeO.none _
      | refine LeO.ite ?_ ?_
      | refine LeO.bind ?_ (fun _ => ?_)
set_option maxHeartbeats 8000000 in
set_option maxRecDepth 100000 in
theorem provostref05_Value.calls (k : Nat) (a0 : ByteArray) (r : Int) (w : World) (h : provostref05_Value.f k a0 = some r) :
    Calls Try.prog 65 #[.string a0] w fun e w' => e = .returned (.int .i64 r) ∧ Drawn0 w w' := by
  have H : (provostref05_Value.l0 k a0 0 0) = some r := h
  clear h
  have H' := Aside0.mk H
  clear H
  go_enter Try.func65, Try.ntmps65
  go_wp2
  go_loopg [3, 4] k (fun kq v3 v4 w' => ∃ (x3_1 : Int) (x4_1 : Int), v3 = .int .i64 x3_1 ∧ v4 = .int .i64 x4_1 ∧ Aside0 (provostref05_Value.l0 kq a0 x3_1 x4_1 = some r) ∧ Aside0 (kq ≤ k) ∧ Drawn0 w w')
  case atStart => exact ⟨(0), (0), (by first | rfl | (simp; done) | (simp [*]; done)), (by first | rfl | (simp; done) | (simp [*]; done)), H', ⟨Nat.le_refl _⟩, by repeat (first | exact Drawn0.refl _ | apply Drawn0.step)⟩
  case round =>
    clear H'
    obtain ⟨x3_1, x4_1, rfl, rfl, HA, HK1, ⟨m1, rfl⟩⟩ := hrel
    cases gk with
    | zero => exact absurd HA.out (by simp [provostref05_Value.l0])
    | succ k1 =>
      have H := HA.out
      clear HA
      simp only [provostref05_Value.l0] at H
      by_cases c2 : x4_1 < (a0.size : Int)
      · rw [if_pos c2] at H
        have c2b0 : decide (x4_1 < (a0.size : Int)) = true := decide_eq_true c2
        clear c2
        by_cases c3 : 0 ≤ x4_1
        · rw [if_pos c3] at H
          have c3b0 : decide (0 ≤ x4_1) = true := decide_eq_true c3
          clear c3
          have H' := Aside0.mk H
          clear H
          have p4 : 0 ≤ (x4_1 : Int) := of_decide_eq_true (by first | (with_reducible assumption) | assumption)
          have q4 : x4_1 < (a0.size : Int) := of_decide_eq_true (by first | (with_reducible assumption) | assumption)
          have hx4 := bt_at a0 x4_1
          replace p4 := eq_true p4
          replace q4 := eq_true q4
          go_wp2
          go_roundg k1
          case measure => have := HK1.out; omega
          case rel => exact ⟨(wrap64 ((wrap64 (10 * x3_1)) + (((bt a0 x4_1) - 48) % 256))), (wrap64 (x4_1 + 1)), (by first | rfl | (simp; done) | (simp [*]; done)), (by first | rfl | (simp; done) | (simp [*]; done)), H', ⟨by have := HK1.out; omega⟩, by repeat (first | exact Drawn0.refl _ | apply Drawn0.step)⟩
        · rw [if_neg c3] at H
          exact absurd H (by simp)
      · rw [if_neg c2] at H
        have c2b0 : decide (x4_1 < (a0.size : Int)) = false := decide_eq_false c2
        clear c2
        obtain rfl := Option.some.inj H
        go_wp2
        go_ret
        exact ⟨by first | rfl | (simp; done) | (simp [*]; done), by repeat (first | exact Drawn0.refl _ | apply Drawn0.step)⟩

/-! ### provostref05_mark: function 66 -/
def provostref05_mark.f (a0 : Int) : Option (Bool) := if a0 = 44 then (some true) else (if a0 = 58 then (some true) else (if a0 = 60 then (some true) else (if a0 = 62 then (some true) else (if a0 = 61 then (some true) else (if a0 = 40 then (some true) else (some (a0 == 41)))))))
set_option maxHeartbeats 8000000 in
set_option maxRecDepth 100000 in
theorem provostref05_mark.calls (a0 : Int) (r : Bool) (w : World) (h : provostref05_mark.f a0 = some r) :
    Calls Try.prog 66 #[.int .u8 a0] w fun e w' => e = .returned (.bool r) ∧ Drawn0 w w' := by
  have H : (if a0 = 44 then (some true) else (if a0 = 58 then (some true) else (if a0 = 60 then (some true) else (if a0 = 62 then (some true) else (if a0 = 61 then (some true) else (if a0 = 40 then (some true) else (some (a0 == 41)))))))) = some r := h
  clear h
  by_cases c2 : a0 = 44
  · rw [if_pos c2] at H
    have c2b0 : (a0 == 44) = true := beq_iff_eq.mpr c2
    have c2b1 : (a0 != 44) = false := bne_eq_false_iff_eq.mpr c2
    clear c2
    obtain rfl := Option.some.inj H
    go_enter Try.func66, Try.ntmps66
    go_wp2
    go_ret
    exact ⟨by first | rfl | (simp; done) | (simp [*]; done), by repeat (first | exact Drawn0.refl _ | apply Drawn0.step)⟩
  · rw [if_neg c2] at H
    have c2b0 : (a0 == 44) = false := beq_eq_false_iff_ne.mpr c2
    have c2b1 : (a0 != 44) = true := bne_iff_ne.mpr c2
    by_cases c3 : a0 = 58
    · rw [if_pos c3] at H
      have c3b0 : (a0 == 58) = true := beq_iff_eq.mpr c3
      have c3b1 : (a0 != 58) = false := bne_eq_false_iff_eq.mpr c3
      clear c3
      obtain rfl := Option.some.inj H
      go_enter Try.func66, Try.ntmps66
      go_wp2
      go_ret
      exact ⟨by first | rfl | (simp; done) | (simp [*]; done), by repeat (first | exact Drawn0.refl _ | apply Drawn0.step)⟩
    · rw [if_neg c3] at H
      have c3b0 : (a0 == 58) = false := beq_eq_false_iff_ne.mpr c3
      have c3b1 : (a0 != 58) = true := bne_iff_ne.mpr c3
      by_cases c4 : a0 = 60
      · rw [if_pos c4] at H
        have c4b0 : (a0 == 60) = true := beq_iff_eq.mpr c4
        have c4b1 : (a0 != 60) = false := bne_eq_false_iff_eq.mpr c4
        clear c4
        obtain rfl := Option.some.inj H
        go_enter Try.func66, Try.ntmps66
        go_wp2
        go_ret
        exact ⟨by first | rfl | (simp; done) | (simp [*]; done), by repeat (first | exact Drawn0.refl _ | apply Drawn0.step)⟩
      · rw [if_neg c4] at H
        have c4b0 : (a0 == 60) = false := beq_eq_false_iff_ne.mpr c4
        have c4b1 : (a0 != 60) = true := bne_iff_ne.mpr c4
        by_cases c5 : a0 = 62
        · rw [if_pos c5] at H
          have c5b0 : (a0 == 62) = true := beq_iff_eq.mpr c5
          have c5b1 : (a0 != 62) = false := bne_eq_false_iff_eq.mpr c5
          clear c5
          obtain rfl := Option.some.inj H
          go_enter Try.func66, Try.ntmps66
          go_wp2
          go_ret
          exact ⟨by first | rfl | (simp; done) | (simp [*]; done), by repeat (first | exact Drawn0.refl _ | apply Drawn0.step)⟩
        · rw [if_neg c5] at H
          have c5b0 : (a0 == 62) = false := beq_eq_false_iff_ne.mpr c5
          have c5b1 : (a0 != 62) = true := bne_iff_ne.mpr c5
          by_cases c6 : a0 = 61
          · rw [if_pos c6] at H
            have c6b0 : (a0 == 61) = true := beq_iff_eq.mpr c6
            have c6b1 : (a0 != 61) = false := bne_eq_false_iff_eq.mpr c6
            clear c6
            obtain rfl := Option.some.inj H
            go_enter Try.func66, Try.ntmps66
            go_wp2
            go_ret
            exact ⟨by first | rfl | (simp; done) | (simp [*]; done), by repeat (first | exact Drawn0.refl _ | apply Drawn0.step)⟩
          · rw [if_neg c6] at H
            have c6b0 : (a0 == 61) = false := beq_eq_false_iff_ne.mpr c6
            have c6b1 : (a0 != 61) = true := bne_iff_ne.mpr c6
            by_cases c7 : a0 = 40
            · rw [if_pos c7] at H
              have c7b0 : (a0 == 40) = true := beq_iff_eq.mpr c7
              have c7b1 : (a0 != 40) = false := bne_eq_false_iff_eq.mpr c7
              clear c7
              obtain rfl := Option.some.inj H
              go_enter Try.func66, Try.ntmps66
              go_wp2
              go_ret
              exact ⟨by first | rfl | (simp; done) | (simp [*]; done), by repeat (first | exact Drawn0.refl _ | apply Drawn0.step)⟩
            · rw [if_neg c7] at H
              have c7b0 : (a0 == 40) = false := beq_eq_false_iff_ne.mpr c7
              have c7b1 : (a0 != 40) = true := bne_iff_ne.mpr c7
              obtain rfl := Option.some.inj H
              go_enter Try.func66, Try.ntmps66
              go_wp2
              go_ret
              exact ⟨by first | rfl | (simp; done) | (simp [*]; done), by repeat (first | exact Drawn0.refl _ | apply Drawn0.step)⟩

end Go.Proofs.Ytpcnpmcknknfcaa.PLsc
