/- A text written by my program wip/gen/p2.py out of the translation and of my foreign texts; not trusted: Lean checks it. -/
import Derived.Test.YtpcnpmcknknfcaaShelf
import Derived.Test.YtpcnpmcknknfcaaPLshx0
import Derived.Test.YtpcnpmcknknfcaaPLshx2
import Derived.Test.YtpcnpmcknknfcaaPLshx3
namespace Go.Proofs.Ytpcnpmcknknfcaa.PLsh
open Go.RowKit Go.Proofs.YtpcnpmcknknfcaaW.PrintWords Go.Proofs.YtpcnpmcknknfcaaW.PrintLast Go.Proofs.YtpcnpmcknknfcaaW.PrintMore
attribute [local go_sem] max2_int min2_int max_two min_two max_three min_three max_four min_four   -- for this text's walks alone
set_option linter.unusedVariables false
set_option linter.unusedSimpArgs false

/-! ### lex_Scan: function 20 -/
section
open Go
open Go.Proofs.YtpcnpmcknknfcaaW.Mine
theorem ret_cell {P : Program} {fn : Func} {t p : Tmp} {ty : TypeId} (h : fn.results = #[.tmp t, .cell p ty]) (tmps : Array Value) (w : World) (g : Nat) (T : TypeId) (cs : Array Value) (fr : Nat × Nat) (d : TypeDesc)
    (hp : tmps.getD p undef = .pointer (some ⟨g, 0, none⟩)) (hg : w.heap[g]? = some (.cells cs T fr))
    (hu : P.underlying ty = some d) (hd : (match d with | .struct _ | .array _ _ => true | _ => false) = true) (hi : (P.info? ty).map (·.size) = some cs.size) :
    (results fn tmps).run P w = .ok (.tuple #[tmps.getD t undef, .agg cs]) w := by
  have hp' : tmps[p]?.getD undef = .pointer (some ⟨g, 0, none⟩) := by simpa using hp
  simp [results, h, hp', asAddr, run_loadVar_row w g T ty cs fr d hg hu hd hi, Sem.run_bind, Result.andThen]
theorem empt_yes (s : ByteArray) (h : s.size = 0) : s.toList.isEmpty = true := by
  rw [ByteArray.toList_eq, List.isEmpty_iff]
  exact List.eq_nil_of_length_eq_zero (by simpa using h)
theorem empt_no (s : ByteArray) (h : ¬ s.size = 0) : s.toList.isEmpty = false := by
  rw [ByteArray.toList_eq, Bool.eq_false_iff]
  intro e
  rw [List.isEmpty_iff] at e
  have h2 : s.data.toList.length = s.size := by simp
  rw [e] at h2
  exact h h2.symm
def szOf (w : World) (g : Nat) : Nat := match w.heap[g]? with
  | some (Obj.cells cs _ _) => (match cs[0]? with | some (Value.string s) => s.size | _ => 0)
  | _ => 0
theorem szOf_eq {w : World} {g : Nat} {s : ByteArray} {a b c d : Value} {t : TypeId} (h : w.heap[g]? = some (.cells #[.string s, a, b, c, d] t (0, 0))) : szOf w g = s.size := by
  unfold szOf; rw [h]; rfl
def scanR : Nat → ByteArray → Int → Int → List S40 → Bool → List S40 × Int × Int × Int
  | 0, _, _, _, _, _ => ([], 0, 0, 0)
  | k + 1, s, line, col, told, any => if s.size = 0 then (if any = true then (told ++ [(⟨4, ⟨#[]⟩, 0, line, col⟩ : S40)], 0, 0, 0) else (told, 0, 0, 0))
    else if (stepF s line col told any).1 = 0 then scanR k (stepF s line col told any).2.1 (stepF s line col told any).2.2.1 (stepF s line col told any).2.2.2.1 (stepF s line col told any).2.2.2.2.1 (stepF s line col told any).2.2.2.2.2 else ([], (stepF s line col told any).1, (stepF s line col told any).2.2.1, (stepF s line col told any).2.2.2.1)
theorem tl_size (s : ByteArray) (n : Nat) (h : n ≤ s.size) : (s.extract n s.size).size = s.size - n := by rw [ByteArray.size_extract]; omega
theorem bgn_pos (p : Int → Bool) (s : ByteArray) (h : 0 < s.size) (hp : p (bt s 0) = true) : 1 ≤ bgn p s := by
  obtain ⟨hl, e⟩ := bt_of s 0 h
  unfold bgn
  have h2 : bytesOf s = (bytesOf s)[0] :: (bytesOf s).drop 1 := by rw [← List.drop_eq_getElem_cons hl]; rfl
  have e' : (bytesOf s)[0] = bt s 0 := e
  rw [h2, e']
  simp [List.takeWhile, hp]
/-- what a step does to the bounds -/
theorem step_bd (s : ByteArray) (line col : Int) (told : List S40) (any : Bool) (h1 : 1 ≤ s.size) (h : (stepF s line col told any).1 = 0) (hl : 1 ≤ line) (hc : 1 ≤ col) :
    (stepF s line col told any).2.1.size < s.size ∧ (stepF s line col told any).2.2.2.2.1.length + (stepF s line col told any).2.1.size ≤ told.length + s.size ∧
    1 ≤ (stepF s line col told any).2.2.1 ∧ (stepF s line col told any).2.2.1 + (stepF s line col told any).2.1.size ≤ line + s.size ∧
    1 ≤ (stepF s line col told any).2.2.2.1 ∧ ((stepF s line col told any).2.2.2.1 + (stepF s line col told any).2.1.size ≤ col + s.size) := by
  have e1 := tl_size s 1 h1
  have l1 := bgn_le notNl s
  have l2 := bgn_le isIn s
  have e2 := tl_size s _ l1
  have e3 := tl_size s _ l2
  obtain ⟨n0, n1⟩ := numF_bd s
  have e4 := tl_size s (numF s).1.toNat (by omega)
  have p1 := bgn_pos notNl s (by omega)
  have p2 := bgn_pos isIn s (by omega)
  unfold stepF at h ⊢
  by_cases c1 : bt s 0 = 32 ∨ bt s 0 = 9
  · simp only [if_pos c1] at h ⊢; omega
  · simp only [if_neg c1] at h ⊢
    by_cases c2 : bt s 0 = 35
    · have := p1 (by rw [c2]; rfl)
      simp only [if_pos c2] at h ⊢; omega
    · simp only [if_neg c2] at h ⊢
      by_cases c3 : bt s 0 = 10
      · simp only [if_pos c3] at h ⊢
        split <;> (try simp only [List.length_append, List.length_cons, List.length_nil]) <;> omega
      · simp only [if_neg c3] at h ⊢
        by_cases c4 : isSml (bt s 0) = true
        · have := p2 (by unfold isIn; rw [c4]; rfl)
          simp only [if_pos c4] at h ⊢
          by_cases c5 : bgn isIn s > 24
          · simp only [if_pos c5] at h; cases h
          · simp only [if_neg c5, List.length_append, List.length_cons, List.length_nil] at h ⊢; omega
        · simp only [if_neg c4] at h ⊢
          by_cases c6 : isDig (bt s 0) = true
          · simp only [if_pos c6] at h ⊢
            by_cases c7 : (numF s).1 = 0
            · simp only [if_pos c7] at h; cases h
            · simp only [if_neg c7, List.length_append, List.length_cons, List.length_nil] at h ⊢; omega
          · simp only [if_neg c6] at h ⊢
            by_cases c8 : isMark (bt s 0) = true
            · simp only [if_pos c8, List.length_append, List.length_cons, List.length_nil] at h ⊢; omega
            · simp only [if_neg c8] at h; cases h
set_option maxHeartbeats 2000000 in
theorem lex_Scan.big (S : ByteArray) (w : World) (h : (S.size : Int) > 65536) :
    Calls Try.prog 20 #[.string S] w fun e w' => ∃ v0_ : Value, e = .returned (.tuple #[v0_, .agg #[.int .i64 2, .int .i64 0, .int .i64 0]]) ∧ Kd.R k40 40 w' w.heap.size (fun _ => True) v0_ [] ∧ Below w.heap.size w w' := by
  have d0 : decide (65536 < (S.size : Int)) = true := decide_eq_true (by omega)
  have d1 : decide (65536 < S.size) = true := decide_eq_true (by omega)
  go_enter Try.func20, Try.ntmps20
  go_wp2
  have n1 := heap_alloc_new w (.cells #[.int .i64 2, .int .i64 0, .int .i64 0] 34)
  have n2 := (Below.refl w.heap.size w).alloc (Nat.le_refl _) (.cells #[.int .i64 2, .int .i64 0, .int .i64 0] 34)
  generalize w.alloc (.cells #[.int .i64 2, .int .i64 0, .int .i64 0] 34) = W1 at *
  refine bodyPost_ret (ret_cell (t := 2) (p := 3) rfl _ _ w.heap.size _ _ _ _ rfl n1 Try.underlying34 rfl (by kernel_rfl)) rfl ?_
  exact ⟨_, rfl, Kd.R_nil _ _ _ _ _, n2⟩
def lex_Scan.T7 : Bool × List (List Nat × List Nat) := (true, [([], []), ([], []), ([1], [1]), ([2], [2]), ([3], [3]), ([], []), ([5], [5]), ([6], [6]), ([7], [7]), ([0, 4, 8], [0, 4, 8]), ([], []), ([9, 10, 0, 1, 2, 3, 4, 5, 6, 7, 8, 9, 10], [9])])
def lex_Scan.B7 : List Nat := [0, 0, 2, 6, 14, 0, 32, 96, 224, 511, 0, 2047]
theorem lex_Scan.tab7 : rtab .any (opsOf Try.f20 7) = lex_Scan.T7 := by kernel_rfl
theorem lex_Scan.bits7 : waitsOk lex_Scan.T7.2 lex_Scan.B7 = true := by kernel_rfl
set_option maxHeartbeats 2000000 in
set_option maxRecDepth 100000 in
theorem lex_Scan.good (S : ByteArray) (w : World) (h : (S.size : Int) ≤ 65536) :
    Calls Try.prog 20 #[.string S] w fun e w' => ∃ v0_ : Value, e = .returned (.tuple #[v0_, .agg #[.int .i64 (scanR (S.size + 1) S 1 1 [] false).2.1, .int .i64 (scanR (S.size + 1) S 1 1 [] false).2.2.1, .int .i64 (scanR (S.size + 1) S 1 1 [] false).2.2.2]]) ∧ Kd.R k40 40 w' w.heap.size (fun _ => True) v0_ (scanR (S.size + 1) S 1 1 [] false).1 ∧ Below w.heap.size w w' := by
  have d0 : decide (65536 < (S.size : Int)) = false := decide_eq_false (by omega)
  have d1 : decide (65536 < S.size) = false := decide_eq_false (by omega)
  generalize hRS : scanR (S.size + 1) S 1 1 [] false = RS
  have HRS := Aside0.mk hRS
  clear hRS
  go_enter Try.func20, Try.ntmps20
  go_wp2
  have n1 := heap_alloc2_new w (.cells #[.int .i64 0, .int .i64 0, .int .i64 0] 34) (.cells #[.string S, .int .i64 1, .int .i64 1, .slice none 0 0, .bool false] 89)
  have n3 := heap_alloc2_old w (.cells #[.int .i64 0, .int .i64 0, .int .i64 0] 34) (.cells #[.string S, .int .i64 1, .int .i64 1, .slice none 0 0, .bool false] 89)
  have n2 := below_alloc (below_alloc (Below.refl w.heap.size w) (.cells #[.int .i64 0, .int .i64 0, .int .i64 0] 34)) (.cells #[.string S, .int .i64 1, .int .i64 1, .slice none 0 0, .bool false] 89)
  generalize (w.alloc (.cells #[.int .i64 0, .int .i64 0, .int .i64 0] 34)).alloc (.cells #[.string S, .int .i64 1, .int .i64 1, .slice none 0 0, .bool false] 89) = W1 at *
  have BK0 := Aside0.mk n1
  have BC0 := Aside0.mk n3
  have HB0 := Aside0.mk n2
  clear n1 n2 n3
  go_loopw [5] (fun _ wr => ∃ (k : Nat) (s : ByteArray) (line col : Int) (v : Value) (any : Bool) (told : List S40), s.size < k ∧ scanR k s line col told any = RS ∧ told.length + s.size ≤ 65536 ∧ 1 ≤ line ∧ line + s.size ≤ 65537 ∧ 1 ≤ col ∧ col + s.size ≤ 65537 ∧
      wr.heap[w.heap.size + 1]? = some (.cells #[.string s, .int .i64 line, .int .i64 col, v, .bool any] 89 (0, 0)) ∧ wr.heap[w.heap.size]? = some (.cells #[.int .i64 0, .int .i64 0, .int .i64 0] 34 (0, 0)) ∧ Kd.R k40 40 wr (w.heap.size + 1 + 1) (fun _ => True) v told ∧ Below w.heap.size w wr) (fun _ wr => szOf wr (w.heap.size + 1))
  case atStart => exact ⟨S.size + 1, S, 1, 1, _, false, [], by omega, HRS.out, by simp; omega, by omega, by omega, by omega, by omega, BK0.out, BC0.out, Kd.R_nil _ _ _ _ _, HB0.out⟩
  case round =>
    clear BK0 BC0 HB0 HRS
    obtain ⟨k, s, line, col, v, any, told, hk, hsc, hts, hl1, hl2, hc1, hc2, hbk, hbc, hr, hb⟩ := hrel
    have BK := Aside0.mk hbk
    have BC := Aside0.mk hbc
    have HR := Aside0.mk hr
    have HB := Aside0.mk hb
    have hx0 : wr.cell? ⟨w.heap.size + 1, 0, none⟩ = some (.string s) := (blk_cell hbk 0).trans rfl
    clear hbk hbc hr hb
    obtain ⟨k, rfl⟩ : ∃ q, k = q + 1 := ⟨k - 1, by omega⟩
    rw [scanR] at hsc
    by_cases h0 : s.size = 0
    · rw [if_pos h0] at hsc
      have he := empt_yes s h0
      have he2 : (!s.toList.isEmpty) = false := by rw [he]; rfl
      have hx4 : wr.cell? ⟨w.heap.size + 1, 4, none⟩ = some (.bool any) := (blk_cell BK.out 4).trans rfl
      cases any with
      | true =>
        rw [if_pos rfl] at hsc
        have HSC := Aside0.mk hsc
        clear hsc
        go_wp2_with (go_at_call 59; (with_reducible refine (lex_scan_tell.calls (w.heap.size + 1) s line col v true told 4 0 0 _ BK.out HR.out (by omega) (by omega) (by omega)).mono ?_); rintro e w2 ⟨rfl, v2, hbk2, hr2, hbb⟩; have BC2 := Aside0.mk ((hbb.block w.heap.size (by omega)).trans BC.out); have HB2 := Aside0.mk (HB.out.trans (hbb.mono (by omega))); have hz3 : w2.cell? ⟨w.heap.size + 1, 3, none⟩ = some v2 := (blk_cell hbk2 3).trans rfl; rw [if_pos rfl] at hr2; have HR2 := Aside0.mk hr2; obtain ⟨A2, c2, e2, hq1, hq2⟩ := Kd.R_reads hr2; clear hq1 hq2 hr2 hbk2 hbb; subst e2; have hb0 : w2.cell? ⟨w.heap.size, 0, none⟩ = some (.int .i64 0) := (blk_cell BC2.out 0).trans rfl; have hb1 : w2.cell? ⟨w.heap.size, 1, none⟩ = some (.int .i64 0) := (blk_cell BC2.out 1).trans rfl; have hb2 : w2.cell? ⟨w.heap.size, 2, none⟩ = some (.int .i64 0) := (blk_cell BC2.out 2).trans rfl; have hf0 := blk_frozen BC2.out 0; have hf1 := blk_frozen BC2.out 1; have hf2 := blk_frozen BC2.out 2)
        have n1 : (((w2.setCell ⟨w.heap.size, 0, none⟩ (.int .i64 0)).setCell ⟨w.heap.size, 1, none⟩ (.int .i64 0)).setCell ⟨w.heap.size, 2, none⟩ (.int .i64 0)).heap[w.heap.size]? = some (.cells #[.int .i64 0, .int .i64 0, .int .i64 0] 34 (0, 0)) := (blk_set (blk_set (blk_set BC2.out 0 _) 1 _) 2 _).trans rfl
        have n2 : Below w.heap.size w (((w2.setCell ⟨w.heap.size, 0, none⟩ (.int .i64 0)).setCell ⟨w.heap.size, 1, none⟩ (.int .i64 0)).setCell ⟨w.heap.size, 2, none⟩ (.int .i64 0)) := ((HB2.out.setCell (Nat.le_refl _) _).setCell (Nat.le_refl _) _).setCell (Nat.le_refl _) _
        have n3 : Kd.R k40 40 (((w2.setCell ⟨w.heap.size, 0, none⟩ (.int .i64 0)).setCell ⟨w.heap.size, 1, none⟩ (.int .i64 0)).setCell ⟨w.heap.size, 2, none⟩ (.int .i64 0)) (w.heap.size + 1 + 1) (fun _ => True) (.slice A2 (told.length + 1) c2) (told ++ [(⟨4, ⟨#[]⟩, 0, line, col⟩ : S40)]) := by
          have far : ∀ (U : World) (j : Nat) (u : Value), Kd.R k40 40 U (w.heap.size + 1 + 1) (fun _ => True) (.slice A2 (told.length + 1) c2) (told ++ [(⟨4, ⟨#[]⟩, 0, line, col⟩ : S40)]) → Kd.R k40 40 (U.setCell ⟨w.heap.size, j, none⟩ u) (w.heap.size + 1 + 1) (fun _ => True) (.slice A2 (told.length + 1) c2) (told ++ [(⟨4, ⟨#[]⟩, 0, line, col⟩ : S40)]) := fun U j u hh => Kd.R_mono (Kd.R_far (Kd.R_bound hh) (fun k hk => (show k ≠ w.heap.size from by have := hk.2.1; omega)) _) (fun _ _ => trivial)
          have HR3 := HR2.out
          (try simp only [List.length_append, List.length_cons, List.length_nil, Nat.zero_add] at HR3)
          exact far _ 2 _ (far _ 1 _ (far _ 0 _ HR3))
        generalize ((w2.setCell ⟨w.heap.size, 0, none⟩ (.int .i64 0)).setCell ⟨w.heap.size, 1, none⟩ (.int .i64 0)).setCell ⟨w.heap.size, 2, none⟩ (.int .i64 0) = W9 at *
        refine bodyPost_ret (ret_cell (t := 2) (p := 3) rfl _ _ w.heap.size _ _ _ _ rfl n1 Try.underlying34 rfl (by kernel_rfl)) rfl ?_
        rw [← HSC.out]
        exact ⟨_, rfl, Kd.R_lower n3 (show w.heap.size ≤ w.heap.size + 1 + 1 by omega), n2⟩
      | false =>
        rw [if_neg (by decide)] at hsc
        have HSC := Aside0.mk hsc
        clear hsc
        have BC2 := BC
        have HB2 := HB
        have HR2 := HR
        obtain ⟨A2, c2, e2, hq1, hq2⟩ := Kd.R_reads HR.out
        clear hq1 hq2
        subst e2
        have hz3 : wr.cell? ⟨w.heap.size + 1, 3, none⟩ = some (.slice A2 told.length c2) := (blk_cell BK.out 3).trans rfl
        have hb0 : wr.cell? ⟨w.heap.size, 0, none⟩ = some (.int .i64 0) := (blk_cell BC2.out 0).trans rfl; have hb1 : wr.cell? ⟨w.heap.size, 1, none⟩ = some (.int .i64 0) := (blk_cell BC2.out 1).trans rfl; have hb2 : wr.cell? ⟨w.heap.size, 2, none⟩ = some (.int .i64 0) := (blk_cell BC2.out 2).trans rfl; have hf0 := blk_frozen BC2.out 0; have hf1 := blk_frozen BC2.out 1; have hf2 := blk_frozen BC2.out 2
        go_wp2
        have n1 : (((wr.setCell ⟨w.heap.size, 0, none⟩ (.int .i64 0)).setCell ⟨w.heap.size, 1, none⟩ (.int .i64 0)).setCell ⟨w.heap.size, 2, none⟩ (.int .i64 0)).heap[w.heap.size]? = some (.cells #[.int .i64 0, .int .i64 0, .int .i64 0] 34 (0, 0)) := (blk_set (blk_set (blk_set BC2.out 0 _) 1 _) 2 _).trans rfl
        have n2 : Below w.heap.size w (((wr.setCell ⟨w.heap.size, 0, none⟩ (.int .i64 0)).setCell ⟨w.heap.size, 1, none⟩ (.int .i64 0)).setCell ⟨w.heap.size, 2, none⟩ (.int .i64 0)) := ((HB2.out.setCell (Nat.le_refl _) _).setCell (Nat.le_refl _) _).setCell (Nat.le_refl _) _
        have n3 : Kd.R k40 40 (((wr.setCell ⟨w.heap.size, 0, none⟩ (.int .i64 0)).setCell ⟨w.heap.size, 1, none⟩ (.int .i64 0)).setCell ⟨w.heap.size, 2, none⟩ (.int .i64 0)) (w.heap.size + 1 + 1) (fun _ => True) (.slice A2 told.length c2) told := by
          have far : ∀ (U : World) (j : Nat) (u : Value), Kd.R k40 40 U (w.heap.size + 1 + 1) (fun _ => True) (.slice A2 told.length c2) told → Kd.R k40 40 (U.setCell ⟨w.heap.size, j, none⟩ u) (w.heap.size + 1 + 1) (fun _ => True) (.slice A2 told.length c2) told := fun U j u hh => Kd.R_mono (Kd.R_far (Kd.R_bound hh) (fun k hk => (show k ≠ w.heap.size from by have := hk.2.1; omega)) _) (fun _ _ => trivial)
          have HR3 := HR2.out
          (try simp only [List.length_append, List.length_cons, List.length_nil, Nat.zero_add] at HR3)
          exact far _ 2 _ (far _ 1 _ (far _ 0 _ HR3))
        generalize ((wr.setCell ⟨w.heap.size, 0, none⟩ (.int .i64 0)).setCell ⟨w.heap.size, 1, none⟩ (.int .i64 0)).setCell ⟨w.heap.size, 2, none⟩ (.int .i64 0) = W9 at *
        refine bodyPost_ret (ret_cell (t := 2) (p := 3) rfl _ _ w.heap.size _ _ _ _ rfl n1 Try.underlying34 rfl (by kernel_rfl)) rfl ?_
        rw [← HSC.out]
        exact ⟨_, rfl, Kd.R_lower n3 (show w.heap.size ≤ w.heap.size + 1 + 1 by omega), n2⟩
    · rw [if_neg h0] at hsc
      have hsd := step_bd s line col told any (by omega)
      have hstep := lex_scan_step.calls (w.heap.size + 1) s line col v any told wr BK.out HR.out (by omega) (by omega) ⟨by omega, by omega⟩ ⟨by omega, by omega⟩ (by omega)
      generalize hq : stepF s line col told any = q at *
      obtain ⟨e2, s2, l2, c2, t2, a2⟩ := q
      simp only at hsc hsd
      have HSC := Aside0.mk hsc
      have HSD := Aside0.mk hsd
      have HST := Aside0.mk hstep
      clear hsc hsd hstep hq
      have he := empt_no s h0
      have he2 : (!s.toList.isEmpty) = true := by rw [he]; rfl
      by_cases h2 : e2 = 0
      · subst h2
        rw [if_pos rfl] at HSC
        have HD := Aside0.mk (HSD.out (by rfl) hl1 hc1)
        go_wp2_with (go_at_call 58; (with_reducible refine HST.out.mono ?_); rintro e w2 ⟨rfl, v2, hbk2, hr2, hbb⟩; have BC2 := Aside0.mk ((hbb.block w.heap.size (by omega)).trans BC.out); have HB2 := Aside0.mk (HB.out.trans (hbb.mono (by omega))); have HR2 := Aside0.mk hr2; have BK2 := Aside0.mk hbk2; clear hbk2 hr2 hbb)
        go_roundw
        case rel =>
          obtain ⟨d1, d2, d3, d4, d5, d6⟩ := HD.out
          exact ⟨k, s2, l2, c2, v2, a2, t2, by omega, HSC.out, by omega, d3, by omega, d5, by omega, BK2.out, BC2.out, HR2.out, HB2.out⟩
        case measure =>
          obtain ⟨d1, _⟩ := HD.out
          rw [szOf_eq BK2.out, szOf_eq BK.out]
          exact d1
      · rw [if_neg h2] at HSC
        have q2 : (e2 != 0) = true := bne_iff_ne.2 h2
        have q3 : (e2 == 0) = false := beq_eq_false_iff_ne.2 h2
        go_wp2_with (go_at_call 58; (with_reducible refine HST.out.mono ?_); rintro e w2 ⟨rfl, v2, hbk2, hr2, hbb⟩; have BC2 := Aside0.mk ((hbb.block w.heap.size (by omega)).trans BC.out); have HB2 := Aside0.mk (HB.out.trans (hbb.mono (by omega))); have hz1 : w2.cell? ⟨w.heap.size + 1, 1, none⟩ = some (.int .i64 l2) := (blk_cell hbk2 1).trans rfl; have hz2 : w2.cell? ⟨w.heap.size + 1, 2, none⟩ = some (.int .i64 c2) := (blk_cell hbk2 2).trans rfl; have hb0 : w2.cell? ⟨w.heap.size, 0, none⟩ = some (.int .i64 0) := (blk_cell BC2.out 0).trans rfl; have hb1 : w2.cell? ⟨w.heap.size, 1, none⟩ = some (.int .i64 0) := (blk_cell BC2.out 1).trans rfl; have hb2 : w2.cell? ⟨w.heap.size, 2, none⟩ = some (.int .i64 0) := (blk_cell BC2.out 2).trans rfl; have hf0 := blk_frozen BC2.out 0; have hf1 := blk_frozen BC2.out 1; have hf2 := blk_frozen BC2.out 2; clear hbk2 hr2 hbb)
        refine start_ (n := 12) (S := fun w' => w'.cell? ⟨w.heap.size + 1, 1, none⟩ = some (.int .i64 l2) ∧ w'.cell? ⟨w.heap.size + 1, 2, none⟩ = some (.int .i64 c2)) (ds := [11]) #[false, false, false, false, false, false, false, false, false, false, false, false] (by kernel_rfl) rfl rfl (⟨hz1, hz2⟩) (fun hHeld => ?_); refine with_tabW lex_Scan.tab7 lex_Scan.bits7 (fun HT_ HW_ => ?_)
        refine pure_ (i := 0) (N := (some 22)) (v := ?_) (a' := ?_) #[true, false, false, false, false, false, false, false, false, false, false, false] rfl rfl (any_of HT_.out (by kernel_rfl)) (fun _ _ _ h => h) (Or.inl ⟨by rfl, ?_⟩) ?_ ?_
        rotate_left
        · intro w'
          go_simp
          with_reducible rfl
        rotate_left
        · simp only [Act.put, List.setIfInBounds_toArray, List.set_cons_zero, List.set_cons_succ, i64_w, i32_w]
          rfl
        refine pure_ (i := 1) (N := (some 23)) (v := ?_) (a' := ?_) #[true, true, false, false, false, false, false, false, false, false, false, false] rfl rfl (any_of HT_.out (by kernel_rfl)) (fun _ _ _ h => h) (Or.inl ⟨by rfl, ?_⟩) ?_ ?_
        rotate_left
        · intro w'
          go_simp
          with_reducible rfl
        rotate_left
        · simp only [Act.put, List.setIfInBounds_toArray, List.set_cons_zero, List.set_cons_succ, i64_w, i32_w]
          rfl
        refine pure_ (i := 2) (N := (some 24)) (v := ?_) (a' := ?_) #[true, true, true, false, false, false, false, false, false, false, false, false] rfl rfl (any_of HT_.out (by kernel_rfl)) (fun _ _ _ h => h) (Or.inl ⟨by rfl, ?_⟩) ?_ ?_
        rotate_left
        · intro w'
          go_simp
          with_reducible rfl
        rotate_left
        · simp only [Act.put, List.setIfInBounds_toArray, List.set_cons_zero, List.set_cons_succ, i64_w, i32_w]
          rfl
        refine pure_ (i := 3) (N := (some 25)) (v := ?_) (a' := ?_) #[true, true, true, true, false, false, false, false, false, false, false, false] rfl rfl (any_of HT_.out (by kernel_rfl)) (fun _ _ _ h => h) (Or.inl ⟨by rfl, ?_⟩) ?_ ?_
        rotate_left
        · intro w'
          go_simp
          with_reducible rfl
        rotate_left
        · simp only [Act.put, List.setIfInBounds_toArray, List.set_cons_zero, List.set_cons_succ, i64_w, i32_w]
          rfl
        refine take_ (i := 4) (N := (some 26)) (v := ?_) (a' := ?_) #[true, true, true, true, true, false, false, false, false, false, false, false] rfl rfl (take_ofW HT_.out HW_.out (by kernel_rfl)) (fun _ _ _ h => h) (Or.inl ⟨by rfl, ?_⟩) hHeld ?_ ?_
        rotate_left
        · intro w' ⟨s0, s1⟩
          go_simp
          with_reducible rfl
        rotate_left
        · simp only [Act.put, List.setIfInBounds_toArray, List.set_cons_zero, List.set_cons_succ, i64_w, i32_w]
          rfl
        refine pure_ (i := 5) (N := (some 27)) (v := ?_) (a' := ?_) #[true, true, true, true, true, true, false, false, false, false, false, false] rfl rfl (any_of HT_.out (by kernel_rfl)) (fun _ _ _ h => h) (Or.inl ⟨by rfl, ?_⟩) ?_ ?_
        rotate_left
        · intro w'
          go_simp
          with_reducible rfl
        rotate_left
        · simp only [Act.put, List.setIfInBounds_toArray, List.set_cons_zero, List.set_cons_succ, i64_w, i32_w]
          rfl
        refine pure_ (i := 6) (N := (some 28)) (v := ?_) (a' := ?_) #[true, true, true, true, true, true, true, false, false, false, false, false] rfl rfl (any_of HT_.out (by kernel_rfl)) (fun _ _ _ h => h) (Or.inl ⟨by rfl, ?_⟩) ?_ ?_
        rotate_left
        · intro w'
          go_simp
          with_reducible rfl
        rotate_left
        · simp only [Act.put, List.setIfInBounds_toArray, List.set_cons_zero, List.set_cons_succ, i64_w, i32_w]
          rfl
        refine pure_ (i := 7) (N := (some 29)) (v := ?_) (a' := ?_) #[true, true, true, true, true, true, true, true, false, false, false, false] rfl rfl (any_of HT_.out (by kernel_rfl)) (fun _ _ _ h => h) (Or.inl ⟨by rfl, ?_⟩) ?_ ?_
        rotate_left
        · intro w'
          go_simp
          with_reducible rfl
        rotate_left
        · simp only [Act.put, List.setIfInBounds_toArray, List.set_cons_zero, List.set_cons_succ, i64_w, i32_w]
          rfl
        refine take_ (i := 8) (N := (some 30)) (v := ?_) (a' := ?_) #[true, true, true, true, true, true, true, true, true, false, false, false] rfl rfl (take_ofW HT_.out HW_.out (by kernel_rfl)) (fun _ _ _ h => h) (Or.inl ⟨by rfl, ?_⟩) hHeld ?_ ?_
        rotate_left
        · intro w' ⟨s0, s1⟩
          go_simp
          with_reducible rfl
        rotate_left
        · simp only [Act.put, List.setIfInBounds_toArray, List.set_cons_zero, List.set_cons_succ, i64_w, i32_w]
          rfl
        refine pure_ (i := 9) (N := (some 31)) (v := ?_) (a' := ?_) #[true, true, true, true, true, true, true, true, true, true, false, false] rfl rfl (any_of HT_.out (by kernel_rfl)) (fun _ _ _ h => h) (Or.inl ⟨by rfl, ?_⟩) ?_ ?_
        rotate_left
        · intro w'
          go_simp
          with_reducible rfl
        rotate_left
        · simp only [Act.put, List.setIfInBounds_toArray, List.set_cons_zero, List.set_cons_succ, i64_w, i32_w]
          rfl
        refine pure_ (i := 10) (N := (some 2)) (v := ?_) (a' := ?_) #[true, true, true, true, true, true, true, true, true, true, true, false] rfl rfl (any_of HT_.out (by kernel_rfl)) (fun _ _ _ h => h) (Or.inl ⟨by rfl, ?_⟩) ?_ ?_
        rotate_left
        · intro w'
          go_simp
          with_reducible rfl
        rotate_left
        · simp only [Act.put, List.setIfInBounds_toArray, List.set_cons_zero, List.set_cons_succ, i64_w, i32_w]
          rfl
        refine last_ (i := 11) (N := none) #[true, true, true, true, true, true, true, true, true, true, true, true] rfl rfl (one_of HT_.out (by kernel_rfl)) (by decide) (fun K hK => ?_)
        refine skip_ (w1 := ?_) (by rfl) rfl ?_ ?_
        rotate_left
        · go_simp
          rfl
        refine hK.out _ _ ?_
        clear hK K
        refine done_ (done_of HT_.out (by kernel_rfl)) ?_
        go_wp2
        have n1 : ((((w2.setCell ⟨w.heap.size, 0, none⟩ (.int .i64 e2)).setCell ⟨w.heap.size, 1, none⟩ (.int .i64 l2)).setCell ⟨w.heap.size, 2, none⟩ (.int .i64 c2)).drew).heap[w.heap.size]? = some (.cells #[.int .i64 e2, .int .i64 l2, .int .i64 c2] 34 (0, 0)) := (blk_set (blk_set (blk_set BC2.out 0 _) 1 _) 2 _).trans rfl
        have n2 : Below w.heap.size w ((((w2.setCell ⟨w.heap.size, 0, none⟩ (.int .i64 e2)).setCell ⟨w.heap.size, 1, none⟩ (.int .i64 l2)).setCell ⟨w.heap.size, 2, none⟩ (.int .i64 c2)).drew) := below_drew (((HB2.out.setCell (Nat.le_refl _) _).setCell (Nat.le_refl _) _).setCell (Nat.le_refl _) _)
        refine bodyPost_ret (ret_cell (t := 2) (p := 3) rfl _ _ w.heap.size _ _ _ _ rfl n1 Try.underlying34 rfl (by kernel_rfl)) rfl ?_
        rw [← HSC.out]
        exact ⟨_, rfl, Kd.R_nil _ _ _ _ _, n2⟩
def lex_Scan.f (s : ByteArray) : Option (List S40 × Int × Int × Int) := if (s.size : Int) > 65536 then some ([], 2, 0, 0) else some (scanR (s.size + 1) s 1 1 [] false)
theorem lex_Scan.calls (a0 : ByteArray) (r1 : List S40) (r2 r3 r4 : Int) (w : World) (h : lex_Scan.f a0 = some (r1, r2, r3, r4)) :
    Calls Try.prog 20 #[.string a0] w fun e w' => ∃ v0_ : Value, e = .returned (.tuple #[v0_, .agg #[.int .i64 r2, .int .i64 r3, .int .i64 r4]]) ∧ Kd.R k40 40 w' w.heap.size (fun _ => True) v0_ r1 ∧ Below w.heap.size w w' := by
  unfold lex_Scan.f at h
  split at h
  next h1 => simp only [Option.some.injEq, Prod.mk.injEq] at h; obtain ⟨rfl, rfl, rfl, rfl⟩ := h; exact lex_Scan.big a0 w h1
  next h1 =>
    have hg := lex_Scan.good a0 w (by omega)
    injection h with h
    rw [h] at hg
    exact hg
end


/-! ### lex_Legal: function 23 -/
section
open Go
open Go.Proofs.YtpcnpmcknknfcaaW.Mine
def legF (s : ByteArray) : Bool := decide (s.size ≤ 24) && decide (bgn isIn s = s.size) && decide (0 < s.size) && isSml (bt s 0)
set_option maxHeartbeats 2000000 in
theorem lex_Legal.walk (s : ByteArray) (w : World) : Calls Try.prog 23 #[.string s] w fun e w' => e = .returned (.bool (legF s)) ∧ Below w.heap.size w w' := by
  unfold legF
  by_cases h1 : s.size ≤ 24
  · have a1 : decide ((s.size : Int) ≤ 24) = true := decide_eq_true (by omega)
    have a2 : decide (s.size ≤ 24) = true := decide_eq_true h1
    have hle := bgn_le isIn s
    by_cases h2 : bgn isIn s = s.size
    · have HB := Aside0.mk h2
      by_cases h3 : 0 < s.size
      · have q0 := eq_true h3
        have hx0 : ∀ h : 0 < s.size, ((s[0]'h).toNat : Int) = bt s 0 := bt_at s 0
        have he : s.toList.isEmpty = false := empt_no s (by omega)
        rw [a2, decide_eq_true h2, decide_eq_true h3, Bool.true_and, Bool.true_and, Bool.true_and]
        generalize hr : isSml (bt s 0) = r
        have HR := Aside0.mk hr
        clear hr h2
        go_enter Try.func23, Try.ntmps23
        go_wp2_with (first
          | (go_at_call 67; (with_reducible refine (begins_in s (by omega) _).mono ?_); rintro e w' ⟨rfl, ⟨⟨nd, rfl⟩⟩⟩; rw [HB.out])
          | (go_at_call 69; (with_reducible refine (lex_small.calls (bt s 0) r _ (by rw [sml_f, HR.out])).mono ?_); rintro e w' ⟨rfl, ⟨⟨nd2, rfl⟩⟩⟩))
        go_ret
        exact ⟨rfl, pw_below_drewN (Below.refl w.heap.size w) _⟩
      · have he : s.toList.isEmpty = true := empt_yes s (by omega)
        have hz : s.size = 0 := by omega
        rw [decide_eq_false h3, Bool.and_false, Bool.false_and]
        clear h2 h3
        go_enter Try.func23, Try.ntmps23
        go_wp2_with (first
          | (go_at_call 67; (with_reducible refine (begins_in s (by omega) _).mono ?_); rintro e w' ⟨rfl, ⟨⟨nd, rfl⟩⟩⟩; rw [HB.out]))
        go_ret
        exact ⟨rfl, pw_below_drewN (Below.refl w.heap.size w) _⟩
    · have b1 : (((bgn isIn s : Nat) : Int) == (s.size : Int)) = false := beq_eq_false_iff_ne.2 (by omega)
      rw [decide_eq_false h2, Bool.and_false, Bool.false_and, Bool.false_and]
      clear h2
      go_enter Try.func23, Try.ntmps23
      go_wp2_with (first
        | (go_at_call 67; (with_reducible refine (begins_in s (by omega) _).mono ?_); rintro e w' ⟨rfl, ⟨⟨nd, rfl⟩⟩⟩))
      go_ret
      exact ⟨rfl, pw_below_drewN (Below.refl w.heap.size w) _⟩
  · have a1 : decide ((s.size : Int) ≤ 24) = false := decide_eq_false (by omega)
    have a2 : decide (s.size ≤ 24) = false := decide_eq_false h1
    rw [a2, Bool.false_and, Bool.false_and, Bool.false_and]
    go_enter Try.func23, Try.ntmps23
    go_wp2
    go_ret
    exact ⟨rfl, Below.refl _ _⟩
def lex_Legal.f (s : ByteArray) : Option Bool := some (legF s)
theorem lex_Legal.calls (a0 : ByteArray) (r : Bool) (w : World) (h : lex_Legal.f a0 = some r) : Calls Try.prog 23 #[.string a0] w fun e w' => e = .returned (.bool r) ∧ Below w.heap.size w w' := by
  injection h with h
  subst h
  exact lex_Legal.walk a0 w
end


/-! ### provostlaw05_wakes: function 25 -/
def provostlaw05_wakes.f  : Option (Bool) := (lex_Scan.f (⟨#[97, 44, 32, 49, 50, 10]⟩ : ByteArray)).bind fun bt105 => (if bt105.2.1 = 0 then (if (bt105.1.length : Int) = 4 then (if 0 < (bt105.1.length : Int) then (if ((rd_T40 bt105.1 0).f1).toList = ([97] : List UInt8) then (if 2 < (bt105.1.length : Int) then (if ((rd_T40 bt105.1 2).f2) = 12 then ((lex_Legal.f (⟨#[97, 45, 49]⟩ : ByteArray)).bind fun t114 => (if t114 = true then ((lex_Legal.f (⟨#[]⟩ : ByteArray)).bind fun t115 => (some (!t115))) else (some false))) else (some false)) else (none)) else (some false)) else (none)) else (some false)) else (some false))
set_option maxHeartbeats 8000000 in
set_option maxRecDepth 100000 in
theorem provostlaw05_wakes.calls  (r : Bool) (w : World) (h : provostlaw05_wakes.f  = some r) :
    Calls Try.prog 25 #[] w fun e w' => e = .returned (.bool r) ∧ Below w.heap.size w w' := by
  have hu34 := Try.underlying34
  have HB := Aside0.mk (Below.refl w.heap.size w)
  have H : ((lex_Scan.f (⟨#[97, 44, 32, 49, 50, 10]⟩ : ByteArray)).bind fun bt105 => (if bt105.2.1 = 0 then (if (bt105.1.length : Int) = 4 then (if 0 < (bt105.1.length : Int) then (if ((rd_T40 bt105.1 0).f1).toList = ([97] : List UInt8) then (if 2 < (bt105.1.length : Int) then (if ((rd_T40 bt105.1 2).f2) = 12 then ((lex_Legal.f (⟨#[97, 45, 49]⟩ : ByteArray)).bind fun t114 => (if t114 = true then ((lex_Legal.f (⟨#[]⟩ : ByteArray)).bind fun t115 => (some (!t115))) else (some false))) else (some false)) else (none)) else (some false)) else (none)) else (some false)) else (some false))) = some r := h
  clear h
  replace H := Option.bind_eq_some_iff.mp H
  obtain ⟨⟨t105, t108, t109, t110⟩, A10, H⟩ := H
  replace H : (if t108 = 0 then (if (t105.length : Int) = 4 then (if 0 < (t105.length : Int) then (if ((rd_T40 t105 0).f1).toList = ([97] : List UInt8) then (if 2 < (t105.length : Int) then (if ((rd_T40 t105 2).f2) = 12 then ((lex_Legal.f (⟨#[97, 45, 49]⟩ : ByteArray)).bind fun t114 => (if t114 = true then ((lex_Legal.f (⟨#[]⟩ : ByteArray)).bind fun t115 => (some (!t115))) else (some false))) else (some false)) else (none)) else (some false)) else (none)) else (some false)) else (some false)) = some r := H
  have A1 := Aside0.mk A10
  clear A10
  by_cases c2 : t108 = 0
  · rw [if_pos c2] at H
    have c2b0 : (t108 == 0) = true := beq_iff_eq.mpr c2
    have c2b1 : (t108 != 0) = false := bne_eq_false_iff_eq.mpr c2
    clear c2
    by_cases c3 : (t105.length : Int) = 4
    · rw [if_pos c3] at H
      have c3b0 : ((t105.length : Int) == 4) = true := beq_iff_eq.mpr c3
      have c3b1 : ((t105.length : Int) != 4) = false := bne_eq_false_iff_eq.mpr c3
      clear c3
      by_cases c4 : 0 < (t105.length : Int)
      · rw [if_pos c4] at H
        have c4b0 : decide (0 < (t105.length : Int)) = true := decide_eq_true c4
        have c4b1 : decide (0 < t105.length) = true := decide_eq_true (by omega)
        clear c4
        by_cases c5 : ((rd_T40 t105 0).f1).toList = ([97] : List UInt8)
        · rw [if_pos c5] at H
          have c5b0 : (((rd_T40 t105 0).f1).toList == ([97] : List UInt8)) = true := beq_iff_eq.mpr c5
          have c5b1 : (((rd_T40 t105 0).f1).toList != ([97] : List UInt8)) = false := bne_eq_false_iff_eq.mpr c5
          clear c5
          by_cases c6 : 2 < (t105.length : Int)
          · rw [if_pos c6] at H
            have c6b0 : decide (2 < (t105.length : Int)) = true := decide_eq_true c6
            have c6b1 : decide (2 < t105.length) = true := decide_eq_true (by omega)
            clear c6
            by_cases c7 : ((rd_T40 t105 2).f2) = 12
            · rw [if_pos c7] at H
              have c7b0 : (((rd_T40 t105 2).f2) == 12) = true := beq_iff_eq.mpr c7
              have c7b1 : (((rd_T40 t105 2).f2) != 12) = false := bne_eq_false_iff_eq.mpr c7
              clear c7
              replace H := Option.bind_eq_some_iff.mp H
              obtain ⟨t114, A80, H⟩ := H
              replace H : (if t114 = true then ((lex_Legal.f (⟨#[]⟩ : ByteArray)).bind fun t115 => (some (!t115))) else (some false)) = some r := H
              have A8 := Aside0.mk A80
              clear A80
              by_cases c9 : t114 = true
              · subst c9
                have H1 : ((lex_Legal.f (⟨#[]⟩ : ByteArray)).bind fun t115 => (some (!t115))) = some r := by rw [if_pos rfl] at H; exact H
                clear H
                have H := H1
                clear H1
                replace H := Option.bind_eq_some_iff.mp H
                obtain ⟨t115, A100, H⟩ := H
                replace H : (some (!t115)) = some r := H
                have A10 := Aside0.mk A100
                clear A100
                obtain rfl := Option.some.inj H
                go_enter Try.func25, Try.ntmps25
                go_wp2_with (first | ((with_reducible refine gate_callee (f := 20) rfl ?_); refine goesL_ (some 4) rfl rfl Try.func20 (by kernel_rfl) rfl #[.string (⟨#[97, 44, 32, 49, 50, 10]⟩ : ByteArray)] rfl (by (try simp only [List.map_toArray, List.map_cons, List.map_nil]); first | done | rfl | (simp only [List.length_drop, List.length_take]; rfl)) ?_; (with_reducible refine (lex_Scan.calls (⟨#[97, 44, 32, 49, 50, 10]⟩ : ByteArray) t105 t108 t109 t110 _ A1.out).mono ?_); rintro e w11 ⟨v106, rfl, ho0, hb⟩; refine ⟨_, rfl, ?_⟩; have n0_ := Aside0.mk (Kd.R_lower ho0 (below_size (by repeat (first | (with_reducible first | exact HB.out | apply below_alloc | apply pw_below_drewN | apply below_drew1) | exact HB.out)))); have n1_ := Aside0.mk (below_step (by repeat (first | (with_reducible first | exact HB.out | apply below_alloc | apply pw_below_drewN | apply below_drew1) | exact HB.out)) hb); clear HB; have HO107 := n0_; have HB := n1_; clear n0_ n1_; (try clear hb); (try clear hb2); (try clear hk); (try clear hi); (try clear ho0)) | ((with_reducible refine gate_dst (N := 2) rfl ?_); (try (refine gate_guard (by rfl) ?_; dsimp only)); refine box_event ?hg (N := 2) ?hd (cs := #[.int .i64 0, .int .i64 0, .int .i64 0]) (t := 34) ?hr ?_; (case hd => rfl); (case hg => rfl); (case hr => first | (go_simp; done) | (go_simp; rfl)); intro gb111 hg w12 hbox hb; have n0_ := Aside0.mk (Kd.R_below (by (with_reducible repeat (first | apply Kd.R_alloc | apply Kd.R_drewN | apply Kd.R_drew)); exact HO107.out) hb); have n1_ := Aside0.mk (below_step (by repeat (first | (with_reducible first | exact HB.out | apply below_alloc | apply pw_below_drewN | apply below_drew1) | exact HB.out)) hb); have n2_ := Aside0.mk (hbox); have n3_ := Aside0.mk ((by rw [hg]; exact (below_size (by repeat (first | (with_reducible first | exact HB.out | apply below_alloc | apply pw_below_drewN | apply below_drew1) | exact HB.out))) : w.heap.size ≤ gb111)); have n4_ := Aside0.mk ((by rw [hg]; exact (below_size (by repeat (first | (with_reducible first | exact HB.out | apply below_alloc | apply pw_below_drewN | apply below_drew1) | exact HB.out))) : w.heap.size ≤ gb111)); clear HO107; clear HB; have HO107 := n0_; have HB := n1_; have BK111 := n2_; have GW111 := n3_; have GE111 := n4_; clear n0_ n1_ n2_ n3_ n4_; clear hb hbox hg; have hcz13_0 : w12.cell? ⟨gb111, 0, none⟩ = some (.int .i64 0) := (blk_cell BK111.out 0).trans rfl; have hcz13_1 : w12.cell? ⟨gb111, 1, none⟩ = some (.int .i64 0) := (blk_cell BK111.out 1).trans rfl; have hcz13_2 : w12.cell? ⟨gb111, 2, none⟩ = some (.int .i64 0) := (blk_cell BK111.out 2).trans rfl; have hfz13_0 := blk_frozen BK111.out 0; have hfz13_1 := blk_frozen BK111.out 1; have hfz13_2 := blk_frozen BK111.out 2; obtain ⟨Ao14, co14, eo14⟩ := Kd.R_slice HO107.out; subst eo14; have p112 : 0 ≤ (0 : Int) := (by omega); have q112 : 0 < (t105.length : Int) := of_decide_eq_true (by first | (with_reducible assumption) | assumption); obtain ⟨ad112, e112, hx112_0, hx112_1, hx112_2, hx112_3, hx112_4⟩ := at_T40 (Kd.R_reads' HO107.out).2.2 0 p112 q112; cases e112; have qi112 : (0 < t105.length) = True := eq_true (by omega); (try rw [show ((0 : Int)).toNat = 0 from rfl] at hx112_0); (try rw [show 0 * 5 = 0 from rfl] at hx112_0); (try rw [Addr.add_zero'] at hx112_0); (try rw [show ((0 : Int)).toNat = 0 from rfl] at hx112_1); (try rw [show 0 * 5 = 0 from rfl] at hx112_1); (try rw [Addr.add_zero'] at hx112_1); (try rw [show ((0 : Int)).toNat = 0 from rfl] at hx112_2); (try rw [show 0 * 5 = 0 from rfl] at hx112_2); (try rw [Addr.add_zero'] at hx112_2); (try rw [show ((0 : Int)).toNat = 0 from rfl] at hx112_3); (try rw [show 0 * 5 = 0 from rfl] at hx112_3); (try rw [Addr.add_zero'] at hx112_3); (try rw [show ((0 : Int)).toNat = 0 from rfl] at hx112_4); (try rw [show 0 * 5 = 0 from rfl] at hx112_4); (try rw [Addr.add_zero'] at hx112_4); have hn112_0 : ad112.block ≠ gb111 := Kd.own_blk (Kd.R_ne HO107.out BK111.out (by decide)); have hn112_1 : ad112.block ≠ gb111 := Kd.own_blk (Kd.R_ne HO107.out BK111.out (by decide)); have hn112_2 : ad112.block ≠ gb111 := Kd.own_blk (Kd.R_ne HO107.out BK111.out (by decide)); replace hx112_0 := (cell_far (p := ⟨gb111, 0, none⟩) (by first | (rw [add_block]; exact hn112_0) | (show (Addr.add _ _).block ≠ _; rw [add_block]; exact hn112_0) | exact hn112_0) (.int .i64 t108)).trans hx112_0; replace hx112_1 := (cell_far (p := ⟨gb111, 0, none⟩) (by first | (rw [add_block]; exact hn112_0) | (show (Addr.add _ _).block ≠ _; rw [add_block]; exact hn112_0) | exact hn112_0) (.int .i64 t108)).trans hx112_1; replace hx112_2 := (cell_far (p := ⟨gb111, 0, none⟩) (by first | (rw [add_block]; exact hn112_0) | (show (Addr.add _ _).block ≠ _; rw [add_block]; exact hn112_0) | exact hn112_0) (.int .i64 t108)).trans hx112_2; replace hx112_3 := (cell_far (p := ⟨gb111, 0, none⟩) (by first | (rw [add_block]; exact hn112_0) | (show (Addr.add _ _).block ≠ _; rw [add_block]; exact hn112_0) | exact hn112_0) (.int .i64 t108)).trans hx112_3; replace hx112_4 := (cell_far (p := ⟨gb111, 0, none⟩) (by first | (rw [add_block]; exact hn112_0) | (show (Addr.add _ _).block ≠ _; rw [add_block]; exact hn112_0) | exact hn112_0) (.int .i64 t108)).trans hx112_4; replace hx112_0 := (cell_far (p := ⟨gb111, 1, none⟩) (by first | (rw [add_block]; exact hn112_1) | (show (Addr.add _ _).block ≠ _; rw [add_block]; exact hn112_1) | exact hn112_1) (.int .i64 t109)).trans hx112_0; replace hx112_1 := (cell_far (p := ⟨gb111, 1, none⟩) (by first | (rw [add_block]; exact hn112_1) | (show (Addr.add _ _).block ≠ _; rw [add_block]; exact hn112_1) | exact hn112_1) (.int .i64 t109)).trans hx112_1; replace hx112_2 := (cell_far (p := ⟨gb111, 1, none⟩) (by first | (rw [add_block]; exact hn112_1) | (show (Addr.add _ _).block ≠ _; rw [add_block]; exact hn112_1) | exact hn112_1) (.int .i64 t109)).trans hx112_2; replace hx112_3 := (cell_far (p := ⟨gb111, 1, none⟩) (by first | (rw [add_block]; exact hn112_1) | (show (Addr.add _ _).block ≠ _; rw [add_block]; exact hn112_1) | exact hn112_1) (.int .i64 t109)).trans hx112_3; replace hx112_4 := (cell_far (p := ⟨gb111, 1, none⟩) (by first | (rw [add_block]; exact hn112_1) | (show (Addr.add _ _).block ≠ _; rw [add_block]; exact hn112_1) | exact hn112_1) (.int .i64 t109)).trans hx112_4; replace hx112_0 := (cell_far (p := ⟨gb111, 2, none⟩) (by first | (rw [add_block]; exact hn112_2) | (show (Addr.add _ _).block ≠ _; rw [add_block]; exact hn112_2) | exact hn112_2) (.int .i64 t110)).trans hx112_0; replace hx112_1 := (cell_far (p := ⟨gb111, 2, none⟩) (by first | (rw [add_block]; exact hn112_2) | (show (Addr.add _ _).block ≠ _; rw [add_block]; exact hn112_2) | exact hn112_2) (.int .i64 t110)).trans hx112_1; replace hx112_2 := (cell_far (p := ⟨gb111, 2, none⟩) (by first | (rw [add_block]; exact hn112_2) | (show (Addr.add _ _).block ≠ _; rw [add_block]; exact hn112_2) | exact hn112_2) (.int .i64 t110)).trans hx112_2; replace hx112_3 := (cell_far (p := ⟨gb111, 2, none⟩) (by first | (rw [add_block]; exact hn112_2) | (show (Addr.add _ _).block ≠ _; rw [add_block]; exact hn112_2) | exact hn112_2) (.int .i64 t110)).trans hx112_3; replace hx112_4 := (cell_far (p := ⟨gb111, 2, none⟩) (by first | (rw [add_block]; exact hn112_2) | (show (Addr.add _ _).block ≠ _; rw [add_block]; exact hn112_2) | exact hn112_2) (.int .i64 t110)).trans hx112_4; clear hn112_0; clear hn112_1; clear hn112_2; replace p112 := eq_true p112; replace q112 := eq_true q112; have p113 : 0 ≤ (2 : Int) := (by omega); have q113 : 2 < (t105.length : Int) := of_decide_eq_true (by first | (with_reducible assumption) | assumption); obtain ⟨ad113, e113, hx113_0, hx113_1, hx113_2, hx113_3, hx113_4⟩ := at_T40 (Kd.R_reads' HO107.out).2.2 2 p113 q113; obtain rfl : ad112 = ad113 := (by injection e113); (try simp only [show (2 : Int).toNat = 2 from rfl, Nat.reduceMul, Nat.reduceEqDiff, Go.Addr.add, ↓reduceIte] at hx113_0); (try simp only [show (2 : Int).toNat = 2 from rfl, Nat.reduceMul, Nat.reduceEqDiff, Go.Addr.add, ↓reduceIte] at hx113_1); (try simp only [show (2 : Int).toNat = 2 from rfl, Nat.reduceMul, Nat.reduceEqDiff, Go.Addr.add, ↓reduceIte] at hx113_2); (try simp only [show (2 : Int).toNat = 2 from rfl, Nat.reduceMul, Nat.reduceEqDiff, Go.Addr.add, ↓reduceIte] at hx113_3); (try simp only [show (2 : Int).toNat = 2 from rfl, Nat.reduceMul, Nat.reduceEqDiff, Go.Addr.add, ↓reduceIte] at hx113_4); have qi113 : (2 < t105.length) = True := eq_true (by omega); (try rw [show ((2 : Int)).toNat = 2 from rfl] at hx113_0); (try rw [show 2 * 5 = 10 from rfl] at hx113_0); (try rw [show ((2 : Int)).toNat = 2 from rfl] at hx113_1); (try rw [show 2 * 5 = 10 from rfl] at hx113_1); (try rw [show ((2 : Int)).toNat = 2 from rfl] at hx113_2); (try rw [show 2 * 5 = 10 from rfl] at hx113_2); (try rw [show ((2 : Int)).toNat = 2 from rfl] at hx113_3); (try rw [show 2 * 5 = 10 from rfl] at hx113_3); (try rw [show ((2 : Int)).toNat = 2 from rfl] at hx113_4); (try rw [show 2 * 5 = 10 from rfl] at hx113_4); have hn113_0 : ad112.block ≠ gb111 := Kd.own_blk (Kd.R_ne HO107.out BK111.out (by decide)); have hn113_1 : ad112.block ≠ gb111 := Kd.own_blk (Kd.R_ne HO107.out BK111.out (by decide)); have hn113_2 : ad112.block ≠ gb111 := Kd.own_blk (Kd.R_ne HO107.out BK111.out (by decide)); replace hx113_0 := (cell_far (p := ⟨gb111, 0, none⟩) (by first | (rw [add_block]; exact hn113_0) | (show (Addr.add _ _).block ≠ _; rw [add_block]; exact hn113_0) | exact hn113_0) (.int .i64 t108)).trans hx113_0; replace hx113_1 := (cell_far (p := ⟨gb111, 0, none⟩) (by first | (rw [add_block]; exact hn113_0) | (show (Addr.add _ _).block ≠ _; rw [add_block]; exact hn113_0) | exact hn113_0) (.int .i64 t108)).trans hx113_1; replace hx113_2 := (cell_far (p := ⟨gb111, 0, none⟩) (by first | (rw [add_block]; exact hn113_0) | (show (Addr.add _ _).block ≠ _; rw [add_block]; exact hn113_0) | exact hn113_0) (.int .i64 t108)).trans hx113_2; replace hx113_3 := (cell_far (p := ⟨gb111, 0, none⟩) (by first | (rw [add_block]; exact hn113_0) | (show (Addr.add _ _).block ≠ _; rw [add_block]; exact hn113_0) | exact hn113_0) (.int .i64 t108)).trans hx113_3; replace hx113_4 := (cell_far (p := ⟨gb111, 0, none⟩) (by first | (rw [add_block]; exact hn113_0) | (show (Addr.add _ _).block ≠ _; rw [add_block]; exact hn113_0) | exact hn113_0) (.int .i64 t108)).trans hx113_4; replace hx113_0 := (cell_far (p := ⟨gb111, 1, none⟩) (by first | (rw [add_block]; exact hn113_1) | (show (Addr.add _ _).block ≠ _; rw [add_block]; exact hn113_1) | exact hn113_1) (.int .i64 t109)).trans hx113_0; replace hx113_1 := (cell_far (p := ⟨gb111, 1, none⟩) (by first | (rw [add_block]; exact hn113_1) | (show (Addr.add _ _).block ≠ _; rw [add_block]; exact hn113_1) | exact hn113_1) (.int .i64 t109)).trans hx113_1; replace hx113_2 := (cell_far (p := ⟨gb111, 1, none⟩) (by first | (rw [add_block]; exact hn113_1) | (show (Addr.add _ _).block ≠ _; rw [add_block]; exact hn113_1) | exact hn113_1) (.int .i64 t109)).trans hx113_2; replace hx113_3 := (cell_far (p := ⟨gb111, 1, none⟩) (by first | (rw [add_block]; exact hn113_1) | (show (Addr.add _ _).block ≠ _; rw [add_block]; exact hn113_1) | exact hn113_1) (.int .i64 t109)).trans hx113_3; replace hx113_4 := (cell_far (p := ⟨gb111, 1, none⟩) (by first | (rw [add_block]; exact hn113_1) | (show (Addr.add _ _).block ≠ _; rw [add_block]; exact hn113_1) | exact hn113_1) (.int .i64 t109)).trans hx113_4; replace hx113_0 := (cell_far (p := ⟨gb111, 2, none⟩) (by first | (rw [add_block]; exact hn113_2) | (show (Addr.add _ _).block ≠ _; rw [add_block]; exact hn113_2) | exact hn113_2) (.int .i64 t110)).trans hx113_0; replace hx113_1 := (cell_far (p := ⟨gb111, 2, none⟩) (by first | (rw [add_block]; exact hn113_2) | (show (Addr.add _ _).block ≠ _; rw [add_block]; exact hn113_2) | exact hn113_2) (.int .i64 t110)).trans hx113_1; replace hx113_2 := (cell_far (p := ⟨gb111, 2, none⟩) (by first | (rw [add_block]; exact hn113_2) | (show (Addr.add _ _).block ≠ _; rw [add_block]; exact hn113_2) | exact hn113_2) (.int .i64 t110)).trans hx113_2; replace hx113_3 := (cell_far (p := ⟨gb111, 2, none⟩) (by first | (rw [add_block]; exact hn113_2) | (show (Addr.add _ _).block ≠ _; rw [add_block]; exact hn113_2) | exact hn113_2) (.int .i64 t110)).trans hx113_3; replace hx113_4 := (cell_far (p := ⟨gb111, 2, none⟩) (by first | (rw [add_block]; exact hn113_2) | (show (Addr.add _ _).block ≠ _; rw [add_block]; exact hn113_2) | exact hn113_2) (.int .i64 t110)).trans hx113_4; clear hn113_0; clear hn113_1; clear hn113_2; replace p113 := eq_true p113; replace q113 := eq_true q113) | (go_at_call 23; (with_reducible refine (lex_Legal.calls (⟨#[97, 45, 49]⟩ : ByteArray) true _ A8.out).mono ?_); rintro e w15 ⟨rfl, hb⟩; have n0_ := Aside0.mk (Kd.R_below (by (with_reducible repeat (first | apply Kd.R_alloc | apply Kd.R_drewN | apply Kd.R_drew)); exact (Kd.R_mono (Kd.R_far (p := ⟨gb111, 2, none⟩) (Kd.R_far (p := ⟨gb111, 1, none⟩) (Kd.R_far (p := ⟨gb111, 0, none⟩) (Kd.R_types HO107.out BK111.out (by decide)) (fun _ hk => hk.2) (.int .i64 t108)) (fun _ hk => hk.2) (.int .i64 t109)) (fun _ hk => hk.2) (.int .i64 t110)) (fun _ h_ => h_.1))) hb); have n1_ := Aside0.mk (blk_below (g := gb111) (o := .cells #[.int .i64 t108, .int .i64 t109, .int .i64 t110] 34 (0, 0)) (by (with_reducible repeat (first | refine blk_drewN ?_ _ | refine blk_drew ?_ | refine blk_alloc ?_ _)); refine blk_put (cs := #[.int .i64 t108, .int .i64 t109, .int .i64 0]) ?_ 2 _ rfl; (with_reducible repeat (first | refine blk_drewN ?_ _ | refine blk_drew ?_ | refine blk_alloc ?_ _)); refine blk_put (cs := #[.int .i64 t108, .int .i64 0, .int .i64 0]) ?_ 1 _ rfl; (with_reducible repeat (first | refine blk_drewN ?_ _ | refine blk_drew ?_ | refine blk_alloc ?_ _)); refine blk_put (cs := #[.int .i64 0, .int .i64 0, .int .i64 0]) ?_ 0 _ rfl; (with_reducible repeat (first | refine blk_drewN ?_ _ | refine blk_drew ?_ | refine blk_alloc ?_ _)); exact BK111.out) hb); have n2_ := Aside0.mk (below_step (by repeat (first | (with_reducible first | exact HB.out | apply below_alloc | apply pw_below_drewN | apply below_drew1 | refine below_set ?_ GE111.out) | exact HB.out)) hb); clear HO107; clear BK111; clear HB; have HO107 := n0_; have BK111 := n1_; have HB := n2_; clear n0_ n1_ n2_; (try clear hb); (try clear hb2); (try clear hk); (try clear hi)) | (go_at_call 23; (with_reducible refine (lex_Legal.calls (⟨#[]⟩ : ByteArray) t115 _ A10.out).mono ?_); rintro e w16 ⟨rfl, hb⟩; have n0_ := Aside0.mk (Kd.R_below (by (with_reducible repeat (first | apply Kd.R_alloc | apply Kd.R_drewN | apply Kd.R_drew)); exact HO107.out) hb); have n1_ := Aside0.mk (blk_below (g := gb111) (o := .cells #[.int .i64 t108, .int .i64 t109, .int .i64 t110] 34 (0, 0)) (by (with_reducible repeat (first | refine blk_drewN ?_ _ | refine blk_drew ?_ | refine blk_alloc ?_ _)); exact BK111.out) hb); have n2_ := Aside0.mk (below_step (by repeat (first | (with_reducible first | exact HB.out | apply below_alloc | apply pw_below_drewN | apply below_drew1 | refine below_set ?_ GE111.out) | exact HB.out)) hb); clear HO107; clear BK111; clear HB; have HO107 := n0_; have BK111 := n1_; have HB := n2_; clear n0_ n1_ n2_; (try clear hb); (try clear hb2); (try clear hk); (try clear hi)))
                go_ret
                exact ⟨by first | rfl | (simp [errW_none, errW_some] <;> rfl) | (simp [*, errW_none, errW_some] <;> rfl), by repeat (first | (with_reducible first | exact HB.out | apply below_alloc | apply pw_below_drewN | apply below_drew1 | refine below_set ?_ GE111.out) | exact HB.out)⟩
              · replace c9 := Bool.eq_false_iff.mpr c9
                subst c9
                have H1 : (some false) = some r := by rw [if_neg (show ¬ (false = true) by decide)] at H; exact H
                clear H
                have H := H1
                clear H1
                obtain rfl := Option.some.inj H
                go_enter Try.func25, Try.ntmps25
                go_wp2_with (first | ((with_reducible refine gate_callee (f := 20) rfl ?_); refine goesL_ (some 4) rfl rfl Try.func20 (by kernel_rfl) rfl #[.string (⟨#[97, 44, 32, 49, 50, 10]⟩ : ByteArray)] rfl (by (try simp only [List.map_toArray, List.map_cons, List.map_nil]); first | done | rfl | (simp only [List.length_drop, List.length_take]; rfl)) ?_; (with_reducible refine (lex_Scan.calls (⟨#[97, 44, 32, 49, 50, 10]⟩ : ByteArray) t105 t108 t109 t110 _ A1.out).mono ?_); rintro e w17 ⟨v106, rfl, ho0, hb⟩; refine ⟨_, rfl, ?_⟩; have n0_ := Aside0.mk (Kd.R_lower ho0 (below_size (by repeat (first | (with_reducible first | exact HB.out | apply below_alloc | apply pw_below_drewN | apply below_drew1) | exact HB.out)))); have n1_ := Aside0.mk (below_step (by repeat (first | (with_reducible first | exact HB.out | apply below_alloc | apply pw_below_drewN | apply below_drew1) | exact HB.out)) hb); clear HB; have HO107 := n0_; have HB := n1_; clear n0_ n1_; (try clear hb); (try clear hb2); (try clear hk); (try clear hi); (try clear ho0)) | ((with_reducible refine gate_dst (N := 2) rfl ?_); (try (refine gate_guard (by rfl) ?_; dsimp only)); refine box_event ?hg (N := 2) ?hd (cs := #[.int .i64 0, .int .i64 0, .int .i64 0]) (t := 34) ?hr ?_; (case hd => rfl); (case hg => rfl); (case hr => first | (go_simp; done) | (go_simp; rfl)); intro gb111 hg w18 hbox hb; have n0_ := Aside0.mk (Kd.R_below (by (with_reducible repeat (first | apply Kd.R_alloc | apply Kd.R_drewN | apply Kd.R_drew)); exact HO107.out) hb); have n1_ := Aside0.mk (below_step (by repeat (first | (with_reducible first | exact HB.out | apply below_alloc | apply pw_below_drewN | apply below_drew1) | exact HB.out)) hb); have n2_ := Aside0.mk (hbox); have n3_ := Aside0.mk ((by rw [hg]; exact (below_size (by repeat (first | (with_reducible first | exact HB.out | apply below_alloc | apply pw_below_drewN | apply below_drew1) | exact HB.out))) : w.heap.size ≤ gb111)); have n4_ := Aside0.mk ((by rw [hg]; exact (below_size (by repeat (first | (with_reducible first | exact HB.out | apply below_alloc | apply pw_below_drewN | apply below_drew1) | exact HB.out))) : w.heap.size ≤ gb111)); clear HO107; clear HB; have HO107 := n0_; have HB := n1_; have BK111 := n2_; have GW111 := n3_; have GE111 := n4_; clear n0_ n1_ n2_ n3_ n4_; clear hb hbox hg; have hcz19_0 : w18.cell? ⟨gb111, 0, none⟩ = some (.int .i64 0) := (blk_cell BK111.out 0).trans rfl; have hcz19_1 : w18.cell? ⟨gb111, 1, none⟩ = some (.int .i64 0) := (blk_cell BK111.out 1).trans rfl; have hcz19_2 : w18.cell? ⟨gb111, 2, none⟩ = some (.int .i64 0) := (blk_cell BK111.out 2).trans rfl; have hfz19_0 := blk_frozen BK111.out 0; have hfz19_1 := blk_frozen BK111.out 1; have hfz19_2 := blk_frozen BK111.out 2; obtain ⟨Ao20, co20, eo20⟩ := Kd.R_slice HO107.out; subst eo20; have p112 : 0 ≤ (0 : Int) := (by omega); have q112 : 0 < (t105.length : Int) := of_decide_eq_true (by first | (with_reducible assumption) | assumption); obtain ⟨ad112, e112, hx112_0, hx112_1, hx112_2, hx112_3, hx112_4⟩ := at_T40 (Kd.R_reads' HO107.out).2.2 0 p112 q112; cases e112; have qi112 : (0 < t105.length) = True := eq_true (by omega); (try rw [show ((0 : Int)).toNat = 0 from rfl] at hx112_0); (try rw [show 0 * 5 = 0 from rfl] at hx112_0); (try rw [Addr.add_zero'] at hx112_0); (try rw [show ((0 : Int)).toNat = 0 from rfl] at hx112_1); (try rw [show 0 * 5 = 0 from rfl] at hx112_1); (try rw [Addr.add_zero'] at hx112_1); (try rw [show ((0 : Int)).toNat = 0 from rfl] at hx112_2); (try rw [show 0 * 5 = 0 from rfl] at hx112_2); (try rw [Addr.add_zero'] at hx112_2); (try rw [show ((0 : Int)).toNat = 0 from rfl] at hx112_3); (try rw [show 0 * 5 = 0 from rfl] at hx112_3); (try rw [Addr.add_zero'] at hx112_3); (try rw [show ((0 : Int)).toNat = 0 from rfl] at hx112_4); (try rw [show 0 * 5 = 0 from rfl] at hx112_4); (try rw [Addr.add_zero'] at hx112_4); have hn112_0 : ad112.block ≠ gb111 := Kd.own_blk (Kd.R_ne HO107.out BK111.out (by decide)); have hn112_1 : ad112.block ≠ gb111 := Kd.own_blk (Kd.R_ne HO107.out BK111.out (by decide)); have hn112_2 : ad112.block ≠ gb111 := Kd.own_blk (Kd.R_ne HO107.out BK111.out (by decide)); replace hx112_0 := (cell_far (p := ⟨gb111, 0, none⟩) (by first | (rw [add_block]; exact hn112_0) | (show (Addr.add _ _).block ≠ _; rw [add_block]; exact hn112_0) | exact hn112_0) (.int .i64 t108)).trans hx112_0; replace hx112_1 := (cell_far (p := ⟨gb111, 0, none⟩) (by first | (rw [add_block]; exact hn112_0) | (show (Addr.add _ _).block ≠ _; rw [add_block]; exact hn112_0) | exact hn112_0) (.int .i64 t108)).trans hx112_1; replace hx112_2 := (cell_far (p := ⟨gb111, 0, none⟩) (by first | (rw [add_block]; exact hn112_0) | (show (Addr.add _ _).block ≠ _; rw [add_block]; exact hn112_0) | exact hn112_0) (.int .i64 t108)).trans hx112_2; replace hx112_3 := (cell_far (p := ⟨gb111, 0, none⟩) (by first | (rw [add_block]; exact hn112_0) | (show (Addr.add _ _).block ≠ _; rw [add_block]; exact hn112_0) | exact hn112_0) (.int .i64 t108)).trans hx112_3; replace hx112_4 := (cell_far (p := ⟨gb111, 0, none⟩) (by first | (rw [add_block]; exact hn112_0) | (show (Addr.add _ _).block ≠ _; rw [add_block]; exact hn112_0) | exact hn112_0) (.int .i64 t108)).trans hx112_4; replace hx112_0 := (cell_far (p := ⟨gb111, 1, none⟩) (by first | (rw [add_block]; exact hn112_1) | (show (Addr.add _ _).block ≠ _; rw [add_block]; exact hn112_1) | exact hn112_1) (.int .i64 t109)).trans hx112_0; replace hx112_1 := (cell_far (p := ⟨gb111, 1, none⟩) (by first | (rw [add_block]; exact hn112_1) | (show (Addr.add _ _).block ≠ _; rw [add_block]; exact hn112_1) | exact hn112_1) (.int .i64 t109)).trans hx112_1; replace hx112_2 := (cell_far (p := ⟨gb111, 1, none⟩) (by first | (rw [add_block]; exact hn112_1) | (show (Addr.add _ _).block ≠ _; rw [add_block]; exact hn112_1) | exact hn112_1) (.int .i64 t109)).trans hx112_2; replace hx112_3 := (cell_far (p := ⟨gb111, 1, none⟩) (by first | (rw [add_block]; exact hn112_1) | (show (Addr.add _ _).block ≠ _; rw [add_block]; exact hn112_1) | exact hn112_1) (.int .i64 t109)).trans hx112_3; replace hx112_4 := (cell_far (p := ⟨gb111, 1, none⟩) (by first | (rw [add_block]; exact hn112_1) | (show (Addr.add _ _).block ≠ _; rw [add_block]; exact hn112_1) | exact hn112_1) (.int .i64 t109)).trans hx112_4; replace hx112_0 := (cell_far (p := ⟨gb111, 2, none⟩) (by first | (rw [add_block]; exact hn112_2) | (show (Addr.add _ _).block ≠ _; rw [add_block]; exact hn112_2) | exact hn112_2) (.int .i64 t110)).trans hx112_0; replace hx112_1 := (cell_far (p := ⟨gb111, 2, none⟩) (by first | (rw [add_block]; exact hn112_2) | (show (Addr.add _ _).block ≠ _; rw [add_block]; exact hn112_2) | exact hn112_2) (.int .i64 t110)).trans hx112_1; replace hx112_2 := (cell_far (p := ⟨gb111, 2, none⟩) (by first | (rw [add_block]; exact hn112_2) | (show (Addr.add _ _).block ≠ _; rw [add_block]; exact hn112_2) | exact hn112_2) (.int .i64 t110)).trans hx112_2; replace hx112_3 := (cell_far (p := ⟨gb111, 2, none⟩) (by first | (rw [add_block]; exact hn112_2) | (show (Addr.add _ _).block ≠ _; rw [add_block]; exact hn112_2) | exact hn112_2) (.int .i64 t110)).trans hx112_3; replace hx112_4 := (cell_far (p := ⟨gb111, 2, none⟩) (by first | (rw [add_block]; exact hn112_2) | (show (Addr.add _ _).block ≠ _; rw [add_block]; exact hn112_2) | exact hn112_2) (.int .i64 t110)).trans hx112_4; clear hn112_0; clear hn112_1; clear hn112_2; replace p112 := eq_true p112; replace q112 := eq_true q112; have p113 : 0 ≤ (2 : Int) := (by omega); have q113 : 2 < (t105.length : Int) := of_decide_eq_true (by first | (with_reducible assumption) | assumption); obtain ⟨ad113, e113, hx113_0, hx113_1, hx113_2, hx113_3, hx113_4⟩ := at_T40 (Kd.R_reads' HO107.out).2.2 2 p113 q113; obtain rfl : ad112 = ad113 := (by injection e113); (try simp only [show (2 : Int).toNat = 2 from rfl, Nat.reduceMul, Nat.reduceEqDiff, Go.Addr.add, ↓reduceIte] at hx113_0); (try simp only [show (2 : Int).toNat = 2 from rfl, Nat.reduceMul, Nat.reduceEqDiff, Go.Addr.add, ↓reduceIte] at hx113_1); (try simp only [show (2 : Int).toNat = 2 from rfl, Nat.reduceMul, Nat.reduceEqDiff, Go.Addr.add, ↓reduceIte] at hx113_2); (try simp only [show (2 : Int).toNat = 2 from rfl, Nat.reduceMul, Nat.reduceEqDiff, Go.Addr.add, ↓reduceIte] at hx113_3); (try simp only [show (2 : Int).toNat = 2 from rfl, Nat.reduceMul, Nat.reduceEqDiff, Go.Addr.add, ↓reduceIte] at hx113_4); have qi113 : (2 < t105.length) = True := eq_true (by omega); (try rw [show ((2 : Int)).toNat = 2 from rfl] at hx113_0); (try rw [show 2 * 5 = 10 from rfl] at hx113_0); (try rw [show ((2 : Int)).toNat = 2 from rfl] at hx113_1); (try rw [show 2 * 5 = 10 from rfl] at hx113_1); (try rw [show ((2 : Int)).toNat = 2 from rfl] at hx113_2); (try rw [show 2 * 5 = 10 from rfl] at hx113_2); (try rw [show ((2 : Int)).toNat = 2 from rfl] at hx113_3); (try rw [show 2 * 5 = 10 from rfl] at hx113_3); (try rw [show ((2 : Int)).toNat = 2 from rfl] at hx113_4); (try rw [show 2 * 5 = 10 from rfl] at hx113_4); have hn113_0 : ad112.block ≠ gb111 := Kd.own_blk (Kd.R_ne HO107.out BK111.out (by decide)); have hn113_1 : ad112.block ≠ gb111 := Kd.own_blk (Kd.R_ne HO107.out BK111.out (by decide)); have hn113_2 : ad112.block ≠ gb111 := Kd.own_blk (Kd.R_ne HO107.out BK111.out (by decide)); replace hx113_0 := (cell_far (p := ⟨gb111, 0, none⟩) (by first | (rw [add_block]; exact hn113_0) | (show (Addr.add _ _).block ≠ _; rw [add_block]; exact hn113_0) | exact hn113_0) (.int .i64 t108)).trans hx113_0; replace hx113_1 := (cell_far (p := ⟨gb111, 0, none⟩) (by first | (rw [add_block]; exact hn113_0) | (show (Addr.add _ _).block ≠ _; rw [add_block]; exact hn113_0) | exact hn113_0) (.int .i64 t108)).trans hx113_1; replace hx113_2 := (cell_far (p := ⟨gb111, 0, none⟩) (by first | (rw [add_block]; exact hn113_0) | (show (Addr.add _ _).block ≠ _; rw [add_block]; exact hn113_0) | exact hn113_0) (.int .i64 t108)).trans hx113_2; replace hx113_3 := (cell_far (p := ⟨gb111, 0, none⟩) (by first | (rw [add_block]; exact hn113_0) | (show (Addr.add _ _).block ≠ _; rw [add_block]; exact hn113_0) | exact hn113_0) (.int .i64 t108)).trans hx113_3; replace hx113_4 := (cell_far (p := ⟨gb111, 0, none⟩) (by first | (rw [add_block]; exact hn113_0) | (show (Addr.add _ _).block ≠ _; rw [add_block]; exact hn113_0) | exact hn113_0) (.int .i64 t108)).trans hx113_4; replace hx113_0 := (cell_far (p := ⟨gb111, 1, none⟩) (by first | (rw [add_block]; exact hn113_1) | (show (Addr.add _ _).block ≠ _; rw [add_block]; exact hn113_1) | exact hn113_1) (.int .i64 t109)).trans hx113_0; replace hx113_1 := (cell_far (p := ⟨gb111, 1, none⟩) (by first | (rw [add_block]; exact hn113_1) | (show (Addr.add _ _).block ≠ _; rw [add_block]; exact hn113_1) | exact hn113_1) (.int .i64 t109)).trans hx113_1; replace hx113_2 := (cell_far (p := ⟨gb111, 1, none⟩) (by first | (rw [add_block]; exact hn113_1) | (show (Addr.add _ _).block ≠ _; rw [add_block]; exact hn113_1) | exact hn113_1) (.int .i64 t109)).trans hx113_2; replace hx113_3 := (cell_far (p := ⟨gb111, 1, none⟩) (by first | (rw [add_block]; exact hn113_1) | (show (Addr.add _ _).block ≠ _; rw [add_block]; exact hn113_1) | exact hn113_1) (.int .i64 t109)).trans hx113_3; replace hx113_4 := (cell_far (p := ⟨gb111, 1, none⟩) (by first | (rw [add_block]; exact hn113_1) | (show (Addr.add _ _).block ≠ _; rw [add_block]; exact hn113_1) | exact hn113_1) (.int .i64 t109)).trans hx113_4; replace hx113_0 := (cell_far (p := ⟨gb111, 2, none⟩) (by first | (rw [add_block]; exact hn113_2) | (show (Addr.add _ _).block ≠ _; rw [add_block]; exact hn113_2) | exact hn113_2) (.int .i64 t110)).trans hx113_0; replace hx113_1 := (cell_far (p := ⟨gb111, 2, none⟩) (by first | (rw [add_block]; exact hn113_2) | (show (Addr.add _ _).block ≠ _; rw [add_block]; exact hn113_2) | exact hn113_2) (.int .i64 t110)).trans hx113_1; replace hx113_2 := (cell_far (p := ⟨gb111, 2, none⟩) (by first | (rw [add_block]; exact hn113_2) | (show (Addr.add _ _).block ≠ _; rw [add_block]; exact hn113_2) | exact hn113_2) (.int .i64 t110)).trans hx113_2; replace hx113_3 := (cell_far (p := ⟨gb111, 2, none⟩) (by first | (rw [add_block]; exact hn113_2) | (show (Addr.add _ _).block ≠ _; rw [add_block]; exact hn113_2) | exact hn113_2) (.int .i64 t110)).trans hx113_3; replace hx113_4 := (cell_far (p := ⟨gb111, 2, none⟩) (by first | (rw [add_block]; exact hn113_2) | (show (Addr.add _ _).block ≠ _; rw [add_block]; exact hn113_2) | exact hn113_2) (.int .i64 t110)).trans hx113_4; clear hn113_0; clear hn113_1; clear hn113_2; replace p113 := eq_true p113; replace q113 := eq_true q113) | (go_at_call 23; (with_reducible refine (lex_Legal.calls (⟨#[97, 45, 49]⟩ : ByteArray) false _ A8.out).mono ?_); rintro e w21 ⟨rfl, hb⟩; have n0_ := Aside0.mk (Kd.R_below (by (with_reducible repeat (first | apply Kd.R_alloc | apply Kd.R_drewN | apply Kd.R_drew)); exact (Kd.R_mono (Kd.R_far (p := ⟨gb111, 2, none⟩) (Kd.R_far (p := ⟨gb111, 1, none⟩) (Kd.R_far (p := ⟨gb111, 0, none⟩) (Kd.R_types HO107.out BK111.out (by decide)) (fun _ hk => hk.2) (.int .i64 t108)) (fun _ hk => hk.2) (.int .i64 t109)) (fun _ hk => hk.2) (.int .i64 t110)) (fun _ h_ => h_.1))) hb); have n1_ := Aside0.mk (blk_below (g := gb111) (o := .cells #[.int .i64 t108, .int .i64 t109, .int .i64 t110] 34 (0, 0)) (by (with_reducible repeat (first | refine blk_drewN ?_ _ | refine blk_drew ?_ | refine blk_alloc ?_ _)); refine blk_put (cs := #[.int .i64 t108, .int .i64 t109, .int .i64 0]) ?_ 2 _ rfl; (with_reducible repeat (first | refine blk_drewN ?_ _ | refine blk_drew ?_ | refine blk_alloc ?_ _)); refine blk_put (cs := #[.int .i64 t108, .int .i64 0, .int .i64 0]) ?_ 1 _ rfl; (with_reducible repeat (first | refine blk_drewN ?_ _ | refine blk_drew ?_ | refine blk_alloc ?_ _)); refine blk_put (cs := #[.int .i64 0, .int .i64 0, .int .i64 0]) ?_ 0 _ rfl; (with_reducible repeat (first | refine blk_drewN ?_ _ | refine blk_drew ?_ | refine blk_alloc ?_ _)); exact BK111.out) hb); have n2_ := Aside0.mk (below_step (by repeat (first | (with_reducible first | exact HB.out | apply below_alloc | apply pw_below_drewN | apply below_drew1 | refine below_set ?_ GE111.out) | exact HB.out)) hb); clear HO107; clear BK111; clear HB; have HO107 := n0_; have BK111 := n1_; have HB := n2_; clear n0_ n1_ n2_; (try clear hb); (try clear hb2); (try clear hk); (try clear hi)))
                go_ret
                exact ⟨by first | rfl | (simp [errW_none, errW_some] <;> rfl) | (simp [*, errW_none, errW_some] <;> rfl), by repeat (first | (with_reducible first | exact HB.out | apply below_alloc | apply pw_below_drewN | apply below_drew1 | refine below_set ?_ GE111.out) | exact HB.out)⟩
            · rw [if_neg c7] at H
              have c7b0 : (((rd_T40 t105 2).f2) == 12) = false := beq_eq_false_iff_ne.mpr c7
              have c7b1 : (((rd_T40 t105 2).f2) != 12) = true := bne_iff_ne.mpr c7
              obtain rfl := Option.some.inj H
              go_enter Try.func25, Try.ntmps25
              go_wp2_with (first | ((with_reducible refine gate_callee (f := 20) rfl ?_); refine goesL_ (some 4) rfl rfl Try.func20 (by kernel_rfl) rfl #[.string (⟨#[97, 44, 32, 49, 50, 10]⟩ : ByteArray)] rfl (by (try simp only [List.map_toArray, List.map_cons, List.map_nil]); first | done | rfl | (simp only [List.length_drop, List.length_take]; rfl)) ?_; (with_reducible refine (lex_Scan.calls (⟨#[97, 44, 32, 49, 50, 10]⟩ : ByteArray) t105 t108 t109 t110 _ A1.out).mono ?_); rintro e w22 ⟨v106, rfl, ho0, hb⟩; refine ⟨_, rfl, ?_⟩; have n0_ := Aside0.mk (Kd.R_lower ho0 (below_size (by repeat (first | (with_reducible first | exact HB.out | apply below_alloc | apply pw_below_drewN | apply below_drew1) | exact HB.out)))); have n1_ := Aside0.mk (below_step (by repeat (first | (with_reducible first | exact HB.out | apply below_alloc | apply pw_below_drewN | apply below_drew1) | exact HB.out)) hb); clear HB; have HO107 := n0_; have HB := n1_; clear n0_ n1_; (try clear hb); (try clear hb2); (try clear hk); (try clear hi); (try clear ho0)) | ((with_reducible refine gate_dst (N := 2) rfl ?_); (try (refine gate_guard (by rfl) ?_; dsimp only)); refine box_event ?hg (N := 2) ?hd (cs := #[.int .i64 0, .int .i64 0, .int .i64 0]) (t := 34) ?hr ?_; (case hd => rfl); (case hg => rfl); (case hr => first | (go_simp; done) | (go_simp; rfl)); intro gb111 hg w23 hbox hb; have n0_ := Aside0.mk (Kd.R_below (by (with_reducible repeat (first | apply Kd.R_alloc | apply Kd.R_drewN | apply Kd.R_drew)); exact HO107.out) hb); have n1_ := Aside0.mk (below_step (by repeat (first | (with_reducible first | exact HB.out | apply below_alloc | apply pw_below_drewN | apply below_drew1) | exact HB.out)) hb); have n2_ := Aside0.mk (hbox); have n3_ := Aside0.mk ((by rw [hg]; exact (below_size (by repeat (first | (with_reducible first | exact HB.out | apply below_alloc | apply pw_below_drewN | apply below_drew1) | exact HB.out))) : w.heap.size ≤ gb111)); have n4_ := Aside0.mk ((by rw [hg]; exact (below_size (by repeat (first | (with_reducible first | exact HB.out | apply below_alloc | apply pw_below_drewN | apply below_drew1) | exact HB.out))) : w.heap.size ≤ gb111)); clear HO107; clear HB; have HO107 := n0_; have HB := n1_; have BK111 := n2_; have GW111 := n3_; have GE111 := n4_; clear n0_ n1_ n2_ n3_ n4_; clear hb hbox hg; have hcz24_0 : w23.cell? ⟨gb111, 0, none⟩ = some (.int .i64 0) := (blk_cell BK111.out 0).trans rfl; have hcz24_1 : w23.cell? ⟨gb111, 1, none⟩ = some (.int .i64 0) := (blk_cell BK111.out 1).trans rfl; have hcz24_2 : w23.cell? ⟨gb111, 2, none⟩ = some (.int .i64 0) := (blk_cell BK111.out 2).trans rfl; have hfz24_0 := blk_frozen BK111.out 0; have hfz24_1 := blk_frozen BK111.out 1; have hfz24_2 := blk_frozen BK111.out 2; obtain ⟨Ao25, co25, eo25⟩ := Kd.R_slice HO107.out; subst eo25; have p112 : 0 ≤ (0 : Int) := (by omega); have q112 : 0 < (t105.length : Int) := of_decide_eq_true (by first | (with_reducible assumption) | assumption); obtain ⟨ad112, e112, hx112_0, hx112_1, hx112_2, hx112_3, hx112_4⟩ := at_T40 (Kd.R_reads' HO107.out).2.2 0 p112 q112; cases e112; have qi112 : (0 < t105.length) = True := eq_true (by omega); (try rw [show ((0 : Int)).toNat = 0 from rfl] at hx112_0); (try rw [show 0 * 5 = 0 from rfl] at hx112_0); (try rw [Addr.add_zero'] at hx112_0); (try rw [show ((0 : Int)).toNat = 0 from rfl] at hx112_1); (try rw [show 0 * 5 = 0 from rfl] at hx112_1); (try rw [Addr.add_zero'] at hx112_1); (try rw [show ((0 : Int)).toNat = 0 from rfl] at hx112_2); (try rw [show 0 * 5 = 0 from rfl] at hx112_2); (try rw [Addr.add_zero'] at hx112_2); (try rw [show ((0 : Int)).toNat = 0 from rfl] at hx112_3); (try rw [show 0 * 5 = 0 from rfl] at hx112_3); (try rw [Addr.add_zero'] at hx112_3); (try rw [show ((0 : Int)).toNat = 0 from rfl] at hx112_4); (try rw [show 0 * 5 = 0 from rfl] at hx112_4); (try rw [Addr.add_zero'] at hx112_4); have hn112_0 : ad112.block ≠ gb111 := Kd.own_blk (Kd.R_ne HO107.out BK111.out (by decide)); have hn112_1 : ad112.block ≠ gb111 := Kd.own_blk (Kd.R_ne HO107.out BK111.out (by decide)); have hn112_2 : ad112.block ≠ gb111 := Kd.own_blk (Kd.R_ne HO107.out BK111.out (by decide)); replace hx112_0 := (cell_far (p := ⟨gb111, 0, none⟩) (by first | (rw [add_block]; exact hn112_0) | (show (Addr.add _ _).block ≠ _; rw [add_block]; exact hn112_0) | exact hn112_0) (.int .i64 t108)).trans hx112_0; replace hx112_1 := (cell_far (p := ⟨gb111, 0, none⟩) (by first | (rw [add_block]; exact hn112_0) | (show (Addr.add _ _).block ≠ _; rw [add_block]; exact hn112_0) | exact hn112_0) (.int .i64 t108)).trans hx112_1; replace hx112_2 := (cell_far (p := ⟨gb111, 0, none⟩) (by first | (rw [add_block]; exact hn112_0) | (show (Addr.add _ _).block ≠ _; rw [add_block]; exact hn112_0) | exact hn112_0) (.int .i64 t108)).trans hx112_2; replace hx112_3 := (cell_far (p := ⟨gb111, 0, none⟩) (by first | (rw [add_block]; exact hn112_0) | (show (Addr.add _ _).block ≠ _; rw [add_block]; exact hn112_0) | exact hn112_0) (.int .i64 t108)).trans hx112_3; replace hx112_4 := (cell_far (p := ⟨gb111, 0, none⟩) (by first | (rw [add_block]; exact hn112_0) | (show (Addr.add _ _).block ≠ _; rw [add_block]; exact hn112_0) | exact hn112_0) (.int .i64 t108)).trans hx112_4; replace hx112_0 := (cell_far (p := ⟨gb111, 1, none⟩) (by first | (rw [add_block]; exact hn112_1) | (show (Addr.add _ _).block ≠ _; rw [add_block]; exact hn112_1) | exact hn112_1) (.int .i64 t109)).trans hx112_0; replace hx112_1 := (cell_far (p := ⟨gb111, 1, none⟩) (by first | (rw [add_block]; exact hn112_1) | (show (Addr.add _ _).block ≠ _; rw [add_block]; exact hn112_1) | exact hn112_1) (.int .i64 t109)).trans hx112_1; replace hx112_2 := (cell_far (p := ⟨gb111, 1, none⟩) (by first | (rw [add_block]; exact hn112_1) | (show (Addr.add _ _).block ≠ _; rw [add_block]; exact hn112_1) | exact hn112_1) (.int .i64 t109)).trans hx112_2; replace hx112_3 := (cell_far (p := ⟨gb111, 1, none⟩) (by first | (rw [add_block]; exact hn112_1) | (show (Addr.add _ _).block ≠ _; rw [add_block]; exact hn112_1) | exact hn112_1) (.int .i64 t109)).trans hx112_3; replace hx112_4 := (cell_far (p := ⟨gb111, 1, none⟩) (by first | (rw [add_block]; exact hn112_1) | (show (Addr.add _ _).block ≠ _; rw [add_block]; exact hn112_1) | exact hn112_1) (.int .i64 t109)).trans hx112_4; replace hx112_0 := (cell_far (p := ⟨gb111, 2, none⟩) (by first | (rw [add_block]; exact hn112_2) | (show (Addr.add _ _).block ≠ _; rw [add_block]; exact hn112_2) | exact hn112_2) (.int .i64 t110)).trans hx112_0; replace hx112_1 := (cell_far (p := ⟨gb111, 2, none⟩) (by first | (rw [add_block]; exact hn112_2) | (show (Addr.add _ _).block ≠ _; rw [add_block]; exact hn112_2) | exact hn112_2) (.int .i64 t110)).trans hx112_1; replace hx112_2 := (cell_far (p := ⟨gb111, 2, none⟩) (by first | (rw [add_block]; exact hn112_2) | (show (Addr.add _ _).block ≠ _; rw [add_block]; exact hn112_2) | exact hn112_2) (.int .i64 t110)).trans hx112_2; replace hx112_3 := (cell_far (p := ⟨gb111, 2, none⟩) (by first | (rw [add_block]; exact hn112_2) | (show (Addr.add _ _).block ≠ _; rw [add_block]; exact hn112_2) | exact hn112_2) (.int .i64 t110)).trans hx112_3; replace hx112_4 := (cell_far (p := ⟨gb111, 2, none⟩) (by first | (rw [add_block]; exact hn112_2) | (show (Addr.add _ _).block ≠ _; rw [add_block]; exact hn112_2) | exact hn112_2) (.int .i64 t110)).trans hx112_4; clear hn112_0; clear hn112_1; clear hn112_2; replace p112 := eq_true p112; replace q112 := eq_true q112; have p113 : 0 ≤ (2 : Int) := (by omega); have q113 : 2 < (t105.length : Int) := of_decide_eq_true (by first | (with_reducible assumption) | assumption); obtain ⟨ad113, e113, hx113_0, hx113_1, hx113_2, hx113_3, hx113_4⟩ := at_T40 (Kd.R_reads' HO107.out).2.2 2 p113 q113; obtain rfl : ad112 = ad113 := (by injection e113); (try simp only [show (2 : Int).toNat = 2 from rfl, Nat.reduceMul, Nat.reduceEqDiff, Go.Addr.add, ↓reduceIte] at hx113_0); (try simp only [show (2 : Int).toNat = 2 from rfl, Nat.reduceMul, Nat.reduceEqDiff, Go.Addr.add, ↓reduceIte] at hx113_1); (try simp only [show (2 : Int).toNat = 2 from rfl, Nat.reduceMul, Nat.reduceEqDiff, Go.Addr.add, ↓reduceIte] at hx113_2); (try simp only [show (2 : Int).toNat = 2 from rfl, Nat.reduceMul, Nat.reduceEqDiff, Go.Addr.add, ↓reduceIte] at hx113_3); (try simp only [show (2 : Int).toNat = 2 from rfl, Nat.reduceMul, Nat.reduceEqDiff, Go.Addr.add, ↓reduceIte] at hx113_4); have qi113 : (2 < t105.length) = True := eq_true (by omega); (try rw [show ((2 : Int)).toNat = 2 from rfl] at hx113_0); (try rw [show 2 * 5 = 10 from rfl] at hx113_0); (try rw [show ((2 : Int)).toNat = 2 from rfl] at hx113_1); (try rw [show 2 * 5 = 10 from rfl] at hx113_1); (try rw [show ((2 : Int)).toNat = 2 from rfl] at hx113_2); (try rw [show 2 * 5 = 10 from rfl] at hx113_2); (try rw [show ((2 : Int)).toNat = 2 from rfl] at hx113_3); (try rw [show 2 * 5 = 10 from rfl] at hx113_3); (try rw [show ((2 : Int)).toNat = 2 from rfl] at hx113_4); (try rw [show 2 * 5 = 10 from rfl] at hx113_4); have hn113_0 : ad112.block ≠ gb111 := Kd.own_blk (Kd.R_ne HO107.out BK111.out (by decide)); have hn113_1 : ad112.block ≠ gb111 := Kd.own_blk (Kd.R_ne HO107.out BK111.out (by decide)); have hn113_2 : ad112.block ≠ gb111 := Kd.own_blk (Kd.R_ne HO107.out BK111.out (by decide)); replace hx113_0 := (cell_far (p := ⟨gb111, 0, none⟩) (by first | (rw [add_block]; exact hn113_0) | (show (Addr.add _ _).block ≠ _; rw [add_block]; exact hn113_0) | exact hn113_0) (.int .i64 t108)).trans hx113_0; replace hx113_1 := (cell_far (p := ⟨gb111, 0, none⟩) (by first | (rw [add_block]; exact hn113_0) | (show (Addr.add _ _).block ≠ _; rw [add_block]; exact hn113_0) | exact hn113_0) (.int .i64 t108)).trans hx113_1; replace hx113_2 := (cell_far (p := ⟨gb111, 0, none⟩) (by first | (rw [add_block]; exact hn113_0) | (show (Addr.add _ _).block ≠ _; rw [add_block]; exact hn113_0) | exact hn113_0) (.int .i64 t108)).trans hx113_2; replace hx113_3 := (cell_far (p := ⟨gb111, 0, none⟩) (by first | (rw [add_block]; exact hn113_0) | (show (Addr.add _ _).block ≠ _; rw [add_block]; exact hn113_0) | exact hn113_0) (.int .i64 t108)).trans hx113_3; replace hx113_4 := (cell_far (p := ⟨gb111, 0, none⟩) (by first | (rw [add_block]; exact hn113_0) | (show (Addr.add _ _).block ≠ _; rw [add_block]; exact hn113_0) | exact hn113_0) (.int .i64 t108)).trans hx113_4; replace hx113_0 := (cell_far (p := ⟨gb111, 1, none⟩) (by first | (rw [add_block]; exact hn113_1) | (show (Addr.add _ _).block ≠ _; rw [add_block]; exact hn113_1) | exact hn113_1) (.int .i64 t109)).trans hx113_0; replace hx113_1 := (cell_far (p := ⟨gb111, 1, none⟩) (by first | (rw [add_block]; exact hn113_1) | (show (Addr.add _ _).block ≠ _; rw [add_block]; exact hn113_1) | exact hn113_1) (.int .i64 t109)).trans hx113_1; replace hx113_2 := (cell_far (p := ⟨gb111, 1, none⟩) (by first | (rw [add_block]; exact hn113_1) | (show (Addr.add _ _).block ≠ _; rw [add_block]; exact hn113_1) | exact hn113_1) (.int .i64 t109)).trans hx113_2; replace hx113_3 := (cell_far (p := ⟨gb111, 1, none⟩) (by first | (rw [add_block]; exact hn113_1) | (show (Addr.add _ _).block ≠ _; rw [add_block]; exact hn113_1) | exact hn113_1) (.int .i64 t109)).trans hx113_3; replace hx113_4 := (cell_far (p := ⟨gb111, 1, none⟩) (by first | (rw [add_block]; exact hn113_1) | (show (Addr.add _ _).block ≠ _; rw [add_block]; exact hn113_1) | exact hn113_1) (.int .i64 t109)).trans hx113_4; replace hx113_0 := (cell_far (p := ⟨gb111, 2, none⟩) (by first | (rw [add_block]; exact hn113_2) | (show (Addr.add _ _).block ≠ _; rw [add_block]; exact hn113_2) | exact hn113_2) (.int .i64 t110)).trans hx113_0; replace hx113_1 := (cell_far (p := ⟨gb111, 2, none⟩) (by first | (rw [add_block]; exact hn113_2) | (show (Addr.add _ _).block ≠ _; rw [add_block]; exact hn113_2) | exact hn113_2) (.int .i64 t110)).trans hx113_1; replace hx113_2 := (cell_far (p := ⟨gb111, 2, none⟩) (by first | (rw [add_block]; exact hn113_2) | (show (Addr.add _ _).block ≠ _; rw [add_block]; exact hn113_2) | exact hn113_2) (.int .i64 t110)).trans hx113_2; replace hx113_3 := (cell_far (p := ⟨gb111, 2, none⟩) (by first | (rw [add_block]; exact hn113_2) | (show (Addr.add _ _).block ≠ _; rw [add_block]; exact hn113_2) | exact hn113_2) (.int .i64 t110)).trans hx113_3; replace hx113_4 := (cell_far (p := ⟨gb111, 2, none⟩) (by first | (rw [add_block]; exact hn113_2) | (show (Addr.add _ _).block ≠ _; rw [add_block]; exact hn113_2) | exact hn113_2) (.int .i64 t110)).trans hx113_4; clear hn113_0; clear hn113_1; clear hn113_2; replace p113 := eq_true p113; replace q113 := eq_true q113))
              go_ret
              exact ⟨by first | rfl | (simp [errW_none, errW_some] <;> rfl) | (simp [*, errW_none, errW_some] <;> rfl), by repeat (first | (with_reducible first | exact HB.out | apply below_alloc | apply pw_below_drewN | apply below_drew1 | refine below_set ?_ GE111.out) | exact HB.out)⟩
          · rw [if_neg c6] at H
            exact absurd H (by simp)
        · rw [if_neg c5] at H
          have c5b0 : (((rd_T40 t105 0).f1).toList == ([97] : List UInt8)) = false := beq_eq_false_iff_ne.mpr c5
          have c5b1 : (((rd_T40 t105 0).f1).toList != ([97] : List UInt8)) = true := bne_iff_ne.mpr c5
          obtain rfl := Option.some.inj H
          go_enter Try.func25, Try.ntmps25
          go_wp2_with (first | ((with_reducible refine gate_callee (f := 20) rfl ?_); refine goesL_ (some 4) rfl rfl Try.func20 (by kernel_rfl) rfl #[.string (⟨#[97, 44, 32, 49, 50, 10]⟩ : ByteArray)] rfl (by (try simp only [List.map_toArray, List.map_cons, List.map_nil]); first | done | rfl | (simp only [List.length_drop, List.length_take]; rfl)) ?_; (with_reducible refine (lex_Scan.calls (⟨#[97, 44, 32, 49, 50, 10]⟩ : ByteArray) t105 t108 t109 t110 _ A1.out).mono ?_); rintro e w26 ⟨v106, rfl, ho0, hb⟩; refine ⟨_, rfl, ?_⟩; have n0_ := Aside0.mk (Kd.R_lower ho0 (below_size (by repeat (first | (with_reducible first | exact HB.out | apply below_alloc | apply pw_below_drewN | apply below_drew1) | exact HB.out)))); have n1_ := Aside0.mk (below_step (by repeat (first | (with_reducible first | exact HB.out | apply below_alloc | apply pw_below_drewN | apply below_drew1) | exact HB.out)) hb); clear HB; have HO107 := n0_; have HB := n1_; clear n0_ n1_; (try clear hb); (try clear hb2); (try clear hk); (try clear hi); (try clear ho0)) | ((with_reducible refine gate_dst (N := 2) rfl ?_); (try (refine gate_guard (by rfl) ?_; dsimp only)); refine box_event ?hg (N := 2) ?hd (cs := #[.int .i64 0, .int .i64 0, .int .i64 0]) (t := 34) ?hr ?_; (case hd => rfl); (case hg => rfl); (case hr => first | (go_simp; done) | (go_simp; rfl)); intro gb111 hg w27 hbox hb; have n0_ := Aside0.mk (Kd.R_below (by (with_reducible repeat (first | apply Kd.R_alloc | apply Kd.R_drewN | apply Kd.R_drew)); exact HO107.out) hb); have n1_ := Aside0.mk (below_step (by repeat (first | (with_reducible first | exact HB.out | apply below_alloc | apply pw_below_drewN | apply below_drew1) | exact HB.out)) hb); have n2_ := Aside0.mk (hbox); have n3_ := Aside0.mk ((by rw [hg]; exact (below_size (by repeat (first | (with_reducible first | exact HB.out | apply below_alloc | apply pw_below_drewN | apply below_drew1) | exact HB.out))) : w.heap.size ≤ gb111)); have n4_ := Aside0.mk ((by rw [hg]; exact (below_size (by repeat (first | (with_reducible first | exact HB.out | apply below_alloc | apply pw_below_drewN | apply below_drew1) | exact HB.out))) : w.heap.size ≤ gb111)); clear HO107; clear HB; have HO107 := n0_; have HB := n1_; have BK111 := n2_; have GW111 := n3_; have GE111 := n4_; clear n0_ n1_ n2_ n3_ n4_; clear hb hbox hg; have hcz28_0 : w27.cell? ⟨gb111, 0, none⟩ = some (.int .i64 0) := (blk_cell BK111.out 0).trans rfl; have hcz28_1 : w27.cell? ⟨gb111, 1, none⟩ = some (.int .i64 0) := (blk_cell BK111.out 1).trans rfl; have hcz28_2 : w27.cell? ⟨gb111, 2, none⟩ = some (.int .i64 0) := (blk_cell BK111.out 2).trans rfl; have hfz28_0 := blk_frozen BK111.out 0; have hfz28_1 := blk_frozen BK111.out 1; have hfz28_2 := blk_frozen BK111.out 2; obtain ⟨Ao29, co29, eo29⟩ := Kd.R_slice HO107.out; subst eo29; have p112 : 0 ≤ (0 : Int) := (by omega); have q112 : 0 < (t105.length : Int) := of_decide_eq_true (by first | (with_reducible assumption) | assumption); obtain ⟨ad112, e112, hx112_0, hx112_1, hx112_2, hx112_3, hx112_4⟩ := at_T40 (Kd.R_reads' HO107.out).2.2 0 p112 q112; cases e112; have qi112 : (0 < t105.length) = True := eq_true (by omega); (try rw [show ((0 : Int)).toNat = 0 from rfl] at hx112_0); (try rw [show 0 * 5 = 0 from rfl] at hx112_0); (try rw [Addr.add_zero'] at hx112_0); (try rw [show ((0 : Int)).toNat = 0 from rfl] at hx112_1); (try rw [show 0 * 5 = 0 from rfl] at hx112_1); (try rw [Addr.add_zero'] at hx112_1); (try rw [show ((0 : Int)).toNat = 0 from rfl] at hx112_2); (try rw [show 0 * 5 = 0 from rfl] at hx112_2); (try rw [Addr.add_zero'] at hx112_2); (try rw [show ((0 : Int)).toNat = 0 from rfl] at hx112_3); (try rw [show 0 * 5 = 0 from rfl] at hx112_3); (try rw [Addr.add_zero'] at hx112_3); (try rw [show ((0 : Int)).toNat = 0 from rfl] at hx112_4); (try rw [show 0 * 5 = 0 from rfl] at hx112_4); (try rw [Addr.add_zero'] at hx112_4); have hn112_0 : ad112.block ≠ gb111 := Kd.own_blk (Kd.R_ne HO107.out BK111.out (by decide)); have hn112_1 : ad112.block ≠ gb111 := Kd.own_blk (Kd.R_ne HO107.out BK111.out (by decide)); have hn112_2 : ad112.block ≠ gb111 := Kd.own_blk (Kd.R_ne HO107.out BK111.out (by decide)); replace hx112_0 := (cell_far (p := ⟨gb111, 0, none⟩) (by first | (rw [add_block]; exact hn112_0) | (show (Addr.add _ _).block ≠ _; rw [add_block]; exact hn112_0) | exact hn112_0) (.int .i64 t108)).trans hx112_0; replace hx112_1 := (cell_far (p := ⟨gb111, 0, none⟩) (by first | (rw [add_block]; exact hn112_0) | (show (Addr.add _ _).block ≠ _; rw [add_block]; exact hn112_0) | exact hn112_0) (.int .i64 t108)).trans hx112_1; replace hx112_2 := (cell_far (p := ⟨gb111, 0, none⟩) (by first | (rw [add_block]; exact hn112_0) | (show (Addr.add _ _).block ≠ _; rw [add_block]; exact hn112_0) | exact hn112_0) (.int .i64 t108)).trans hx112_2; replace hx112_3 := (cell_far (p := ⟨gb111, 0, none⟩) (by first | (rw [add_block]; exact hn112_0) | (show (Addr.add _ _).block ≠ _; rw [add_block]; exact hn112_0) | exact hn112_0) (.int .i64 t108)).trans hx112_3; replace hx112_4 := (cell_far (p := ⟨gb111, 0, none⟩) (by first | (rw [add_block]; exact hn112_0) | (show (Addr.add _ _).block ≠ _; rw [add_block]; exact hn112_0) | exact hn112_0) (.int .i64 t108)).trans hx112_4; replace hx112_0 := (cell_far (p := ⟨gb111, 1, none⟩) (by first | (rw [add_block]; exact hn112_1) | (show (Addr.add _ _).block ≠ _; rw [add_block]; exact hn112_1) | exact hn112_1) (.int .i64 t109)).trans hx112_0; replace hx112_1 := (cell_far (p := ⟨gb111, 1, none⟩) (by first | (rw [add_block]; exact hn112_1) | (show (Addr.add _ _).block ≠ _; rw [add_block]; exact hn112_1) | exact hn112_1) (.int .i64 t109)).trans hx112_1; replace hx112_2 := (cell_far (p := ⟨gb111, 1, none⟩) (by first | (rw [add_block]; exact hn112_1) | (show (Addr.add _ _).block ≠ _; rw [add_block]; exact hn112_1) | exact hn112_1) (.int .i64 t109)).trans hx112_2; replace hx112_3 := (cell_far (p := ⟨gb111, 1, none⟩) (by first | (rw [add_block]; exact hn112_1) | (show (Addr.add _ _).block ≠ _; rw [add_block]; exact hn112_1) | exact hn112_1) (.int .i64 t109)).trans hx112_3; replace hx112_4 := (cell_far (p := ⟨gb111, 1, none⟩) (by first | (rw [add_block]; exact hn112_1) | (show (Addr.add _ _).block ≠ _; rw [add_block]; exact hn112_1) | exact hn112_1) (.int .i64 t109)).trans hx112_4; replace hx112_0 := (cell_far (p := ⟨gb111, 2, none⟩) (by first | (rw [add_block]; exact hn112_2) | (show (Addr.add _ _).block ≠ _; rw [add_block]; exact hn112_2) | exact hn112_2) (.int .i64 t110)).trans hx112_0; replace hx112_1 := (cell_far (p := ⟨gb111, 2, none⟩) (by first | (rw [add_block]; exact hn112_2) | (show (Addr.add _ _).block ≠ _; rw [add_block]; exact hn112_2) | exact hn112_2) (.int .i64 t110)).trans hx112_1; replace hx112_2 := (cell_far (p := ⟨gb111, 2, none⟩) (by first | (rw [add_block]; exact hn112_2) | (show (Addr.add _ _).block ≠ _; rw [add_block]; exact hn112_2) | exact hn112_2) (.int .i64 t110)).trans hx112_2; replace hx112_3 := (cell_far (p := ⟨gb111, 2, none⟩) (by first | (rw [add_block]; exact hn112_2) | (show (Addr.add _ _).block ≠ _; rw [add_block]; exact hn112_2) | exact hn112_2) (.int .i64 t110)).trans hx112_3; replace hx112_4 := (cell_far (p := ⟨gb111, 2, none⟩) (by first | (rw [add_block]; exact hn112_2) | (show (Addr.add _ _).block ≠ _; rw [add_block]; exact hn112_2) | exact hn112_2) (.int .i64 t110)).trans hx112_4; clear hn112_0; clear hn112_1; clear hn112_2; replace p112 := eq_true p112; replace q112 := eq_true q112))
          go_ret
          exact ⟨by first | rfl | (simp [errW_none, errW_some] <;> rfl) | (simp [*, errW_none, errW_some] <;> rfl), by repeat (first | (with_reducible first | exact HB.out | apply below_alloc | apply pw_below_drewN | apply below_drew1 | refine below_set ?_ GE111.out) | exact HB.out)⟩
      · rw [if_neg c4] at H
        exact absurd H (by simp)
    · rw [if_neg c3] at H
      have c3b0 : ((t105.length : Int) == 4) = false := beq_eq_false_iff_ne.mpr c3
      have c3b1 : ((t105.length : Int) != 4) = true := bne_iff_ne.mpr c3
      obtain rfl := Option.some.inj H
      go_enter Try.func25, Try.ntmps25
      go_wp2_with (first | ((with_reducible refine gate_callee (f := 20) rfl ?_); refine goesL_ (some 4) rfl rfl Try.func20 (by kernel_rfl) rfl #[.string (⟨#[97, 44, 32, 49, 50, 10]⟩ : ByteArray)] rfl (by (try simp only [List.map_toArray, List.map_cons, List.map_nil]); first | done | rfl | (simp only [List.length_drop, List.length_take]; rfl)) ?_; (with_reducible refine (lex_Scan.calls (⟨#[97, 44, 32, 49, 50, 10]⟩ : ByteArray) t105 t108 t109 t110 _ A1.out).mono ?_); rintro e w30 ⟨v106, rfl, ho0, hb⟩; refine ⟨_, rfl, ?_⟩; have n0_ := Aside0.mk (Kd.R_lower ho0 (below_size (by repeat (first | (with_reducible first | exact HB.out | apply below_alloc | apply pw_below_drewN | apply below_drew1) | exact HB.out)))); have n1_ := Aside0.mk (below_step (by repeat (first | (with_reducible first | exact HB.out | apply below_alloc | apply pw_below_drewN | apply below_drew1) | exact HB.out)) hb); clear HB; have HO107 := n0_; have HB := n1_; clear n0_ n1_; (try clear hb); (try clear hb2); (try clear hk); (try clear hi); (try clear ho0)) | ((with_reducible refine gate_dst (N := 2) rfl ?_); (try (refine gate_guard (by rfl) ?_; dsimp only)); refine box_event ?hg (N := 2) ?hd (cs := #[.int .i64 0, .int .i64 0, .int .i64 0]) (t := 34) ?hr ?_; (case hd => rfl); (case hg => rfl); (case hr => first | (go_simp; done) | (go_simp; rfl)); intro gb111 hg w31 hbox hb; have n0_ := Aside0.mk (Kd.R_below (by (with_reducible repeat (first | apply Kd.R_alloc | apply Kd.R_drewN | apply Kd.R_drew)); exact HO107.out) hb); have n1_ := Aside0.mk (below_step (by repeat (first | (with_reducible first | exact HB.out | apply below_alloc | apply pw_below_drewN | apply below_drew1) | exact HB.out)) hb); have n2_ := Aside0.mk (hbox); have n3_ := Aside0.mk ((by rw [hg]; exact (below_size (by repeat (first | (with_reducible first | exact HB.out | apply below_alloc | apply pw_below_drewN | apply below_drew1) | exact HB.out))) : w.heap.size ≤ gb111)); have n4_ := Aside0.mk ((by rw [hg]; exact (below_size (by repeat (first | (with_reducible first | exact HB.out | apply below_alloc | apply pw_below_drewN | apply below_drew1) | exact HB.out))) : w.heap.size ≤ gb111)); clear HO107; clear HB; have HO107 := n0_; have HB := n1_; have BK111 := n2_; have GW111 := n3_; have GE111 := n4_; clear n0_ n1_ n2_ n3_ n4_; clear hb hbox hg; have hcz32_0 : w31.cell? ⟨gb111, 0, none⟩ = some (.int .i64 0) := (blk_cell BK111.out 0).trans rfl; have hcz32_1 : w31.cell? ⟨gb111, 1, none⟩ = some (.int .i64 0) := (blk_cell BK111.out 1).trans rfl; have hcz32_2 : w31.cell? ⟨gb111, 2, none⟩ = some (.int .i64 0) := (blk_cell BK111.out 2).trans rfl; have hfz32_0 := blk_frozen BK111.out 0; have hfz32_1 := blk_frozen BK111.out 1; have hfz32_2 := blk_frozen BK111.out 2; obtain ⟨Ao33, co33, eo33⟩ := Kd.R_slice HO107.out; subst eo33))
      go_ret
      exact ⟨by first | rfl | (simp [errW_none, errW_some] <;> rfl) | (simp [*, errW_none, errW_some] <;> rfl), by repeat (first | (with_reducible first | exact HB.out | apply below_alloc | apply pw_below_drewN | apply below_drew1 | refine below_set ?_ GE111.out) | exact HB.out)⟩
  · rw [if_neg c2] at H
    have c2b0 : (t108 == 0) = false := beq_eq_false_iff_ne.mpr c2
    have c2b1 : (t108 != 0) = true := bne_iff_ne.mpr c2
    obtain rfl := Option.some.inj H
    go_enter Try.func25, Try.ntmps25
    go_wp2_with (first | ((with_reducible refine gate_callee (f := 20) rfl ?_); refine goesL_ (some 4) rfl rfl Try.func20 (by kernel_rfl) rfl #[.string (⟨#[97, 44, 32, 49, 50, 10]⟩ : ByteArray)] rfl (by (try simp only [List.map_toArray, List.map_cons, List.map_nil]); first | done | rfl | (simp only [List.length_drop, List.length_take]; rfl)) ?_; (with_reducible refine (lex_Scan.calls (⟨#[97, 44, 32, 49, 50, 10]⟩ : ByteArray) t105 t108 t109 t110 _ A1.out).mono ?_); rintro e w34 ⟨v106, rfl, ho0, hb⟩; refine ⟨_, rfl, ?_⟩; have n0_ := Aside0.mk (Kd.R_lower ho0 (below_size (by repeat (first | (with_reducible first | exact HB.out | apply below_alloc | apply pw_below_drewN | apply below_drew1) | exact HB.out)))); have n1_ := Aside0.mk (below_step (by repeat (first | (with_reducible first | exact HB.out | apply below_alloc | apply pw_below_drewN | apply below_drew1) | exact HB.out)) hb); clear HB; have HO107 := n0_; have HB := n1_; clear n0_ n1_; (try clear hb); (try clear hb2); (try clear hk); (try clear hi); (try clear ho0)) | ((with_reducible refine gate_dst (N := 2) rfl ?_); (try (refine gate_guard (by rfl) ?_; dsimp only)); refine box_event ?hg (N := 2) ?hd (cs := #[.int .i64 0, .int .i64 0, .int .i64 0]) (t := 34) ?hr ?_; (case hd => rfl); (case hg => rfl); (case hr => first | (go_simp; done) | (go_simp; rfl)); intro gb111 hg w35 hbox hb; have n0_ := Aside0.mk (Kd.R_below (by (with_reducible repeat (first | apply Kd.R_alloc | apply Kd.R_drewN | apply Kd.R_drew)); exact HO107.out) hb); have n1_ := Aside0.mk (below_step (by repeat (first | (with_reducible first | exact HB.out | apply below_alloc | apply pw_below_drewN | apply below_drew1) | exact HB.out)) hb); have n2_ := Aside0.mk (hbox); have n3_ := Aside0.mk ((by rw [hg]; exact (below_size (by repeat (first | (with_reducible first | exact HB.out | apply below_alloc | apply pw_below_drewN | apply below_drew1) | exact HB.out))) : w.heap.size ≤ gb111)); have n4_ := Aside0.mk ((by rw [hg]; exact (below_size (by repeat (first | (with_reducible first | exact HB.out | apply below_alloc | apply pw_below_drewN | apply below_drew1) | exact HB.out))) : w.heap.size ≤ gb111)); clear HO107; clear HB; have HO107 := n0_; have HB := n1_; have BK111 := n2_; have GW111 := n3_; have GE111 := n4_; clear n0_ n1_ n2_ n3_ n4_; clear hb hbox hg; have hcz36_0 : w35.cell? ⟨gb111, 0, none⟩ = some (.int .i64 0) := (blk_cell BK111.out 0).trans rfl; have hcz36_1 : w35.cell? ⟨gb111, 1, none⟩ = some (.int .i64 0) := (blk_cell BK111.out 1).trans rfl; have hcz36_2 : w35.cell? ⟨gb111, 2, none⟩ = some (.int .i64 0) := (blk_cell BK111.out 2).trans rfl; have hfz36_0 := blk_frozen BK111.out 0; have hfz36_1 := blk_frozen BK111.out 1; have hfz36_2 := blk_frozen BK111.out 2))
    go_ret
    exact ⟨by first | rfl | (simp [errW_none, errW_some] <;> rfl) | (simp [*, errW_none, errW_some] <;> rfl), by repeat (first | (with_reducible first | exact HB.out | apply below_alloc | apply pw_below_drewN | apply below_drew1 | refine below_set ?_ GE111.out) | exact HB.out)⟩

-- NOT PRINTED: function 121 (bytealg_IndexString)

/-! ### bytealg_Cutover: function 122 -/


/-! ### bytealg_hashStr_string: function 124 -/


/-! ### bytealg_IndexRabinKarp_string: function 123 -/


-- NOT PRINTED: function 120 (stringslite_Index)

-- NOT PRINTED: function 117 (strings_Index)

-- NOT PRINTED: function 114 (strings_Contains)

/-! ### lex_right: function 96 -/
section
open Go
open Go.Proofs.YtpcnpmcknknfcaaW.Mine
set_option maxHeartbeats 2000000 in
set_option maxRecDepth 100000 in
/-- strings.Index of a text of one byte in another one -/
theorem marks_index (s sub : ByteArray) (h1 : sub.size = 1) (hne : (sub.toList == s.toList) = false) (w : World) : Calls Try.prog 120 #[.string s, .string sub] w fun e w' => e = .returned (.int .i64 (Lib.indexByte s.data.toList (bt sub 0).toNat.toUInt8)) ∧ w' = w := by
  have a0 : ((sub.size : Int) == 0) = false := beq_eq_false_iff_ne.2 (by omega)
  have a1 : ((sub.size : Int) == 1) = true := beq_iff_eq.2 (by omega)
  have q0 : (0 < sub.size) = True := eq_true (by omega)
  have hx0 : ∀ h : 0 < sub.size, ((sub[0]'h).toNat : Int) = bt sub 0 := bt_at sub 0
  clear h1
  go_enter Try.func120, Try.ntmps120
  go_wp2_with (go_at_call 116; (with_reducible refine (strings_IndexByte.inner s (bt sub 0) _).mono ?_); rintro e w' ⟨rfl, rfl⟩)
  go_ret
  exact ⟨rfl, rfl⟩
theorem marks_ne (sub : ByteArray) (h1 : sub.size = 1) : (sub.toList == (⟨#[44, 58, 60, 62, 61, 40, 41]⟩ : ByteArray).toList) = false := by
  rw [ByteArray.toList_eq, ByteArray.toList_eq, beq_eq_false_iff_ne]
  intro e
  have h2 : sub.data.toList.length = sub.size := by simp
  rw [e, h1] at h2
  exact absurd h2 (by decide)
def rightT (t : S40) : Bool :=
  if t.f0 = 1 then legF t.f1 && (t.f2 == 0)
  else if t.f0 = 2 then decide ((numF t.f1).1 > 0) && ((numF t.f1).1 == (t.f1.size : Int)) && ((numF t.f1).2 == t.f2)
  else if t.f0 = 3 then decide (t.f1.size = 1) && isMark (bt t.f1 0) && (t.f2 == 0)
  else (t.f0 == 4) && decide (t.f1.size = 0) && (t.f2 == 0)
set_option maxHeartbeats 2000000 in
theorem marks_contains (sub : ByteArray) (h1 : sub.size = 1) (w : World) : Calls Try.prog 114 #[.string ⟨#[44, 58, 60, 62, 61, 40, 41]⟩, .string sub] w fun e w' => e = .returned (.bool (isMark (bt sub 0))) ∧ w' = w := by
  have hm := mark_idx (bt sub 0) (bt_range sub 0).1 (by have := (bt_range sub 0).2; omega)
  have M : ∀ w : World, Calls Try.prog 120 #[.string ⟨#[44, 58, 60, 62, 61, 40, 41]⟩, .string sub] w fun e w' => e = .returned (.int .i64 (Lib.indexByte [44, 58, 60, 62, 61, 40, 41] (bt sub 0).toNat.toUInt8)) ∧ w' = w := marks_index ⟨#[44, 58, 60, 62, 61, 40, 41]⟩ sub h1 (marks_ne sub h1)
  generalize hz : Lib.indexByte [44, 58, 60, 62, 61, 40, 41] (bt sub 0).toNat.toUInt8 = z at hm M
  generalize hr : isMark (bt sub 0) = r at hm ⊢
  have MM := Aside0.mk M
  clear M hz hr
  go_enter Try.func114, Try.ntmps114
  go_wp2_with (first
    | (go_at_call 120; (with_reducible refine (MM.out _).mono ?_); rintro e w' ⟨rfl, rfl⟩)
    | go_in)
  go_ret
  subst hm
  exact ⟨rfl, rfl⟩
set_option maxHeartbeats 4000000 in
set_option maxRecDepth 100000 in
theorem lex_right.walk (t : S40) (hs : t.f1.size ≤ 9223372036854775807) (w : World) :
    Calls Try.prog 96 #[.agg #[.int .i64 t.f0, .string t.f1, .int .i64 t.f2, .int .i64 t.f3, .int .i64 t.f4]] w fun e w' => e = .returned (.bool (rightT t)) ∧ Below w.heap.size w w' := by
  obtain ⟨kd, tx, nu, ln, co⟩ := t
  simp only at hs
  unfold rightT
  simp only
  have BK : (w.alloc (.cells #[.int .i64 kd, .string tx, .int .i64 nu, .int .i64 ln, .int .i64 co] 40)).heap[w.heap.size]? = some (.cells #[.int .i64 kd, .string tx, .int .i64 nu, .int .i64 ln, .int .i64 co] 40 (0, 0)) := blk_new _ _
  have HB : Below w.heap.size w (w.alloc (.cells #[.int .i64 kd, .string tx, .int .i64 nu, .int .i64 ln, .int .i64 co] 40)) := (Below.refl _ w).alloc (Nat.le_refl _) _
  have BK := Aside0.mk BK
  have HB := Aside0.mk HB
  have HS := Aside0.mk hs
  clear hs
  by_cases k1 : kd = 1
  · have b1 : (kd == 1) = true := beq_iff_eq.2 k1
    rw [if_pos k1]
    clear k1
    generalize hl : legF tx = r
    have HL : ∀ w : World, Calls Try.prog 23 #[.string tx] w fun e w' => e = .returned (.bool r) ∧ Below w.heap.size w w' := fun w => hl ▸ lex_Legal.walk tx w
    have HL := Aside0.mk HL
    clear hl
    cases r with
    | true =>
      go_enter Try.func96, Try.ntmps96
      go_wp2_with (first | (go_at_call 23; (with_reducible refine (HL.out _).mono ?_); rintro e w3 ⟨rfl, hb⟩; have HB3 := Aside0.mk (HB.out.trans (hb.mono (by simp))); have z2 : w3.cell? ⟨w.heap.size, 2, none⟩ = some (.int .i64 nu) := (blk_cell (blk_below BK.out hb) 2).trans rfl; clear hb))
      go_ret
      exact ⟨rfl, HB3.out⟩
    | false =>
      go_enter Try.func96, Try.ntmps96
      go_wp2_with (first | (go_at_call 23; (with_reducible refine (HL.out _).mono ?_); rintro e w3 ⟨rfl, hb⟩; have HB3 := Aside0.mk (HB.out.trans (hb.mono (by simp))); have z2 : w3.cell? ⟨w.heap.size, 2, none⟩ = some (.int .i64 nu) := (blk_cell (blk_below BK.out hb) 2).trans rfl; clear hb))
      go_ret
      exact ⟨rfl, HB3.out⟩
  · have b1 : (kd == 1) = false := beq_eq_false_iff_ne.2 k1
    rw [if_neg k1]
    clear k1
    by_cases k2 : kd = 2
    · have b2 : (kd == 2) = true := beq_iff_eq.2 k2
      rw [if_pos k2]
      clear k2
      generalize hl : numF tx = r
      obtain ⟨n, v⟩ := r
      have HN : ∀ w : World, Calls Try.prog 105 #[.string tx] w fun e w' => e = .returned (.tuple #[.int .i64 n, .int .i64 v]) ∧ Below w.heap.size w w' := fun w => by
        have h := lex_number.calls tx HS.out w
        rw [hl] at h
        exact h
      have HN := Aside0.mk HN
      clear hl
      simp only
      by_cases h1 : n > 0
      · have a1 : decide (0 < n) = true := decide_eq_true h1
        have d1 : decide (n > 0) = true := decide_eq_true h1
        rw [d1, Bool.true_and]
        clear d1 h1
        cases h2 : (n == (tx.size : Int)) with
        | true =>
          rw [Bool.true_and]
          go_enter Try.func96, Try.ntmps96
          go_wp2_with (first | (go_at_call 105; (with_reducible refine (HN.out _).mono ?_); rintro e w3 ⟨rfl, hb⟩; have HB3 := Aside0.mk (HB.out.trans (hb.mono (by simp))); have z1 : w3.cell? ⟨w.heap.size, 1, none⟩ = some (.string tx) := (blk_cell (blk_below BK.out hb) 1).trans rfl; have z2 : w3.cell? ⟨w.heap.size, 2, none⟩ = some (.int .i64 nu) := (blk_cell (blk_below BK.out hb) 2).trans rfl; clear hb))
          go_ret
          exact ⟨rfl, HB3.out⟩
        | false =>
          rw [Bool.false_and]
          go_enter Try.func96, Try.ntmps96
          go_wp2_with (first | (go_at_call 105; (with_reducible refine (HN.out _).mono ?_); rintro e w3 ⟨rfl, hb⟩; have HB3 := Aside0.mk (HB.out.trans (hb.mono (by simp))); have z1 : w3.cell? ⟨w.heap.size, 1, none⟩ = some (.string tx) := (blk_cell (blk_below BK.out hb) 1).trans rfl; have z2 : w3.cell? ⟨w.heap.size, 2, none⟩ = some (.int .i64 nu) := (blk_cell (blk_below BK.out hb) 2).trans rfl; clear hb))
          go_ret
          exact ⟨rfl, HB3.out⟩
      · have a1 : decide (0 < n) = false := decide_eq_false (by omega)
        have d1 : decide (n > 0) = false := decide_eq_false h1
        rw [d1, Bool.false_and, Bool.false_and]
        clear d1 h1
        go_enter Try.func96, Try.ntmps96
        go_wp2_with (first | (go_at_call 105; (with_reducible refine (HN.out _).mono ?_); rintro e w3 ⟨rfl, hb⟩; have HB3 := Aside0.mk (HB.out.trans (hb.mono (by simp))); have z1 : w3.cell? ⟨w.heap.size, 1, none⟩ = some (.string tx) := (blk_cell (blk_below BK.out hb) 1).trans rfl; have z2 : w3.cell? ⟨w.heap.size, 2, none⟩ = some (.int .i64 nu) := (blk_cell (blk_below BK.out hb) 2).trans rfl; clear hb))
        go_ret
        exact ⟨rfl, HB3.out⟩
    · have b2 : (kd == 2) = false := beq_eq_false_iff_ne.2 k2
      rw [if_neg k2]
      clear k2
      by_cases k3 : kd = 3
      · have b3 : (kd == 3) = true := beq_iff_eq.2 k3
        rw [if_pos k3]
        clear k3
        by_cases h1 : tx.size = 1
        · have a1 : ((tx.size : Int) == 1) = true := beq_iff_eq.2 (by omega)
          have HC : ∀ w : World, Calls Try.prog 114 #[.string ⟨#[44, 58, 60, 62, 61, 40, 41]⟩, .string tx] w fun e w' => e = .returned (.bool (isMark (bt tx 0))) ∧ w' = w := fun w => marks_contains tx h1 w
          rw [decide_eq_true h1, Bool.true_and]
          clear h1
          generalize isMark (bt tx 0) = r at HC ⊢
          have HC := Aside0.mk HC
          cases r with
          | true =>
            go_enter Try.func96, Try.ntmps96
            go_wp2_with (first | (go_at_call 114; (with_reducible refine (HC.out _).mono ?_); rintro e w3 ⟨rfl, rfl⟩))
            go_ret
            exact ⟨rfl, HB.out⟩
          | false =>
            go_enter Try.func96, Try.ntmps96
            go_wp2_with (first | (go_at_call 114; (with_reducible refine (HC.out _).mono ?_); rintro e w3 ⟨rfl, rfl⟩))
            go_ret
            exact ⟨rfl, HB.out⟩
        · have a1 : ((tx.size : Int) == 1) = false := beq_eq_false_iff_ne.2 (by omega)
          rw [decide_eq_false h1, Bool.false_and, Bool.false_and]
          clear h1
          go_enter Try.func96, Try.ntmps96
          go_wp2
          go_ret
          exact ⟨rfl, HB.out⟩
      · have b3 : (kd == 3) = false := beq_eq_false_iff_ne.2 k3
        rw [if_neg k3]
        clear k3
        cases k4 : (kd == 4) with
        | true =>
          rw [Bool.true_and]
          by_cases h1 : tx.size = 0
          · have a1 : tx.toList.isEmpty = true := empt_yes tx h1
            rw [decide_eq_true h1, Bool.true_and]
            clear h1
            go_enter Try.func96, Try.ntmps96
            go_wp2
            go_ret
            exact ⟨rfl, HB.out⟩
          · have a1 : tx.toList.isEmpty = false := empt_no tx h1
            rw [decide_eq_false h1, Bool.false_and]
            clear h1
            go_enter Try.func96, Try.ntmps96
            go_wp2
            go_ret
            exact ⟨rfl, HB.out⟩
        | false =>
          rw [Bool.false_and, Bool.false_and]
          go_enter Try.func96, Try.ntmps96
          go_wp2
          go_ret
          exact ⟨rfl, HB.out⟩
end


-- NOT PRINTED: function 118 (abi_NoEscape)

-- NOT PRINTED: function 115 (strings_Builder_copyCheck)

-- NOT PRINTED: function 97 (strings_Builder_WriteByte)

-- NOT PRINTED: function 98 (strings_Builder_WriteString)

-- NOT PRINTED: function 99 (strings_Builder_String)

/-! ### lex_Show: function 51 -/
section
open Go
open Go.Lib
open Go.Proofs.YtpcnpmcknknfcaaW.Mine
abbrev TkS := S40
def isComma (s : ByteArray) : Bool := (s.toList == [44]) || (s.toList == [58])
/-- what Show writes: what is written, and does a token stand on this line? -/
def showG : List TkS → List UInt8 → Bool → Option (List UInt8)
  | [], acc, begun => if begun = true then none else some acc
  | t :: l, acc, begun => if rightT t = true then (if t.f0 = 4 then (if begun = true then showG l (acc ++ [10]) false else none)
      else showG l ((if begun = true then (if isComma t.f1 = true then acc else acc ++ [32]) else acc) ++ t.f1.data.toList) true) else none
def showR (o : Option (List UInt8)) : ByteArray × Int := match o with
  | none => (⟨#[]⟩, 3)
  | some l => (⟨l.toArray⟩, 0)
theorem bld_below {T e : TypeId} {B b : Nat} {bs : List Value} {W W1 : World} (h : Lib.IsBuilderF T e B b bs W) (hb : Below W.heap.size W W1) : Lib.IsBuilderF T e B b bs W1 := by
  have key : ∀ p, Lib.BuilderAtF T e B b p bs W → Lib.BuilderAtF T e B b p bs W1 := by
    intro p h
    have hlt := h.lt
    obtain ⟨hB, v, hv, hown, hne⟩ := h
    exact ⟨hB, v, (hb.block b hlt).trans hv, hown.kept (row := none) ⟨hb.os, hb.tape, hb.output, hb.size, fun k hk _ => hb.block k hk⟩ (Classical.em _), hne⟩
  exact h.elim (fun x => .inl (key _ x)) (fun x => .inr (key _ x))
theorem right_24 (t : TkS) (h : rightT t = true) : t.f1.size ≤ 24 := by
  unfold rightT at h
  split at h
  · simp only [Bool.and_eq_true] at h
    have := h.1
    unfold legF at this
    simp only [Bool.and_eq_true, decide_eq_true_eq] at this
    omega
  · split at h
    · simp only [Bool.and_eq_true, decide_eq_true_eq, beq_iff_eq] at h
      obtain ⟨⟨h1, h2⟩, _⟩ := h
      unfold numF at h1 h2
      by_cases hb : badN t.f1 (bgn isDig t.f1)
      · rw [if_pos hb] at h1; exact absurd h1 (by decide)
      · rw [if_neg hb] at h2
        have : bgn isDig t.f1 ≤ 9 := by unfold badN at hb; omega
        have h3 : ((bgn isDig t.f1 : Nat) : Int) = (t.f1.size : Int) := h2
        omega
    · split at h
      · simp only [Bool.and_eq_true, decide_eq_true_eq] at h; omega
      · simp only [Bool.and_eq_true, decide_eq_true_eq] at h; omega
set_option maxHeartbeats 8000000 in
set_option maxRecDepth 100000 in
theorem lex_Show.walk (A0 : Option Addr) (c0 : Nat) (l0 : List TkS) (w : World) (hr0 : Kd.C k40 w A0 l0.length l0) (hc0 : l0.length ≤ c0) (hn : l0.length ≤ 1000000) (hz : ∀ t ∈ l0, t.f1.size ≤ 9223372036854775807) :
    Calls Try.prog 51 #[.slice A0 l0.length c0] w fun e w' => e = .returned (.tuple #[.string (showR (showG l0 [] false)).1, .int .i64 (showR (showG l0 [] false)).2]) ∧ Below w.heap.size w w' := by
  have HR0 := Aside0.mk hr0
  have HC0 := Aside0.mk hc0
  have HZ := Aside0.mk hz
  clear hr0 hc0 hz
  generalize hG : showG l0 [] false = G
  have HG := Aside0.mk hG
  clear hG
  go_enter Try.func51, Try.ntmps51
  go_wp2
  go_loopw [5, 10] (fun v5 v10 wr => ∃ (k : Nat) (acc : List UInt8) (begun : Bool), k ≤ l0.length ∧ v5 = .bool begun ∧ v10 = .int .i64 k ∧ Aside0 (Lib.IsBuilderF 116 5 w.heap.size w.heap.size (Lib.byteCells acc) wr) ∧ Aside0 (showG (l0.drop k) acc begun = G) ∧ Aside0 (acc.length ≤ 26 * k) ∧ Aside0 (Below w.heap.size w wr)) (fun _ v10 _ => l0.length - (RowKit.intOf v10).toNat)
  case atStart => exact ⟨0, [], false, Nat.zero_le _, rfl, rfl, ⟨Lib.IsBuilderF.of (Lib.fresh_isBuilder 116 5 w)⟩, ⟨HG.out⟩, ⟨by simp⟩, ⟨(Below.refl _ w).alloc (Nat.le_refl _) _⟩⟩
  case round =>
    obtain ⟨k, acc, begun, hk, rfl, rfl, HI, HS, HL, HB⟩ := hrel
    have HSZ := Aside0.mk HB.out.size
    have HLT : Aside0 (w.heap.size < wr.heap.size) := ⟨HI.out.elim (fun x => x.lt) (fun x => x.lt)⟩
    by_cases hlt : k < l0.length
    · have c0 : decide ((k : Int) < (l0.length : Int)) = true := decide_eq_true (by omega)
      obtain ⟨ad, ea, x0, x1, x2, x3, x4⟩ := at_T40 HR0.out (k : Int) (by omega) (by omega)
      have hrd : rd_T40 l0 (k : Int) = l0[k] := by
        unfold rd_T40
        rw [Int.toNat_natCast, List.getD_eq_getElem?_getD, List.getElem?_eq_getElem hlt]; rfl
      rw [hrd] at x0 x1 x2 x3 x4
      rw [Int.toNat_natCast] at x0 x1 x2 x3 x4
      have hS := HS.out
      have hz1 := HZ.out _ (List.getElem_mem hlt)
      rw [List.drop_eq_getElem_cons hlt] at hS
      generalize ht : l0[k] = t at *
      cases ea
      clear hrd ht HS HG
      have RT : ∀ w : World, Calls Try.prog 96 #[.agg #[.int .i64 t.f0, .string t.f1, .int .i64 t.f2, .int .i64 t.f3, .int .i64 t.f4]] w fun e w' => e = .returned (.bool (rightT t)) ∧ Below w.heap.size w w' := fun w => lex_right.walk t hz1 w
      have R24 := right_24 t
      obtain ⟨kd, tx, nu, ln, co⟩ := t
      simp only at x0 x1 x2 x3 x4 RT R24 hS
      replace x0 := (HB.out.cell (World.block_lt_of_cell? w _ x0)).trans x0
      replace x1 := (HB.out.cell (World.block_lt_of_cell? w _ x1)).trans x1
      replace x2 := (HB.out.cell (World.block_lt_of_cell? w _ x2)).trans x2
      replace x3 := (HB.out.cell (World.block_lt_of_cell? w _ x3)).trans x3
      replace x4 := (HB.out.cell (World.block_lt_of_cell? w _ x4)).trans x4
      have q1 : (0 ≤ (k : Int)) = True := eq_true (by omega)
      have q2 : ((k : Int) < (l0.length : Int)) = True := eq_true (by omega)
      simp only [showG] at hS
      cases hR : rightT ⟨kd, tx, nu, ln, co⟩ with
      | false =>
        rw [hR] at RT hS
        have HRT := Aside0.mk RT
        clear RT R24
        obtain rfl : none = G := hS
        go_wp2_with (first
          | (go_at_call 96; (with_reducible refine (HRT.out _).mono ?_); rintro e w3 ⟨rfl, hb3⟩; have BK3 := Aside0.mk (blk_below (blk_new wr (.cells #[.int .i64 kd, .string tx, .int .i64 nu, .int .i64 ln, .int .i64 co] 40)) hb3); have HB3 := Aside0.mk ((HB.out.alloc HSZ.out (.cells #[.int .i64 kd, .string tx, .int .i64 nu, .int .i64 ln, .int .i64 co] 40)).trans (hb3.mono (by have := HSZ.out; simp; omega))); have HI3 := Aside0.mk (bld_below (HI.out.alloc (.cells #[.int .i64 kd, .string tx, .int .i64 nu, .int .i64 ln, .int .i64 co] 40)) hb3); have HZ3 := Aside0.mk HB3.out.size; clear hb3 x0 x1 x2 x3 x4; have y0 : w3.cell? ⟨wr.heap.size, 0, none⟩ = some (.int .i64 kd) := (blk_cell BK3.out 0).trans rfl; have y1 : w3.cell? ⟨wr.heap.size, 1, none⟩ = some (.string tx) := (blk_cell BK3.out 1).trans rfl))
        go_ret2
        exact ⟨rfl, HB3.out⟩
      | true =>
        rw [hR] at RT hS
        rw [if_pos rfl] at hS
        replace R24 := R24 hR
        have HRT := Aside0.mk RT
        clear RT
        have dsz : tx.data.toList.length = tx.size := by simp
        by_cases hk4 : kd = 4
        · have d4 : (kd == 4) = true := beq_iff_eq.2 hk4
          rw [if_pos hk4] at hS
          clear hk4
          cases begun with
          | false =>
            obtain rfl : none = G := hS
            go_wp2_with (first
              | (go_at_call 96; (with_reducible refine (HRT.out _).mono ?_); rintro e w3 ⟨rfl, hb3⟩; have BK3 := Aside0.mk (blk_below (blk_new wr (.cells #[.int .i64 kd, .string tx, .int .i64 nu, .int .i64 ln, .int .i64 co] 40)) hb3); have HB3 := Aside0.mk ((HB.out.alloc HSZ.out (.cells #[.int .i64 kd, .string tx, .int .i64 nu, .int .i64 ln, .int .i64 co] 40)).trans (hb3.mono (by have := HSZ.out; simp; omega))); have HI3 := Aside0.mk (bld_below (HI.out.alloc (.cells #[.int .i64 kd, .string tx, .int .i64 nu, .int .i64 ln, .int .i64 co] 40)) hb3); have HZ3 := Aside0.mk HB3.out.size; clear hb3 x0 x1 x2 x3 x4; have y0 : w3.cell? ⟨wr.heap.size, 0, none⟩ = some (.int .i64 kd) := (blk_cell BK3.out 0).trans rfl; have y1 : w3.cell? ⟨wr.heap.size, 1, none⟩ = some (.string tx) := (blk_cell BK3.out 1).trans rfl))
            go_ret2
            exact ⟨rfl, HB3.out⟩
          | true =>
            rw [if_pos rfl] at hS
            go_wp2_with (first
              | (go_at_call 96; (with_reducible refine (HRT.out _).mono ?_); rintro e w3 ⟨rfl, hb3⟩; have BK3 := Aside0.mk (blk_below (blk_new wr (.cells #[.int .i64 kd, .string tx, .int .i64 nu, .int .i64 ln, .int .i64 co] 40)) hb3); have HB3 := Aside0.mk ((HB.out.alloc HSZ.out (.cells #[.int .i64 kd, .string tx, .int .i64 nu, .int .i64 ln, .int .i64 co] 40)).trans (hb3.mono (by have := HSZ.out; simp; omega))); have HI3 := Aside0.mk (bld_below (HI.out.alloc (.cells #[.int .i64 kd, .string tx, .int .i64 nu, .int .i64 ln, .int .i64 co] 40)) hb3); have HZ3 := Aside0.mk HB3.out.size; clear hb3 x0 x1 x2 x3 x4; have y0 : w3.cell? ⟨wr.heap.size, 0, none⟩ = some (.int .i64 kd) := (blk_cell BK3.out 0).trans rfl; have y1 : w3.cell? ⟨wr.heap.size, 1, none⟩ = some (.string tx) := (blk_cell BK3.out 1).trans rfl)
              | (go_at_call 97; (with_reducible refine (Sh.write_byte w.heap.size w.heap.size (Lib.byteCells acc) 10 _ HI3.out (by rw [byteCells_length]; have := HL.out; omega) HZ3.out).mono ?_); rintro e w4 ⟨rfl, h4, hb4, hk4⟩; have HI4 : Aside0 (Lib.IsBuilderF 116 5 w.heap.size w.heap.size (Lib.byteCells (acc ++ [10])) w4) := ⟨by rw [byteCells_append]; exact Or.inr h4⟩; have HB4 := Aside0.mk (HB3.out.trans hb4); have HZ4 := Aside0.mk HB4.out.size; have y4 : w4.cell? ⟨wr.heap.size, 1, none⟩ = some (.string tx) := (blk_cell (hk4 _ _ BK3.out (by have := HLT.out; intro he; injection he with he; omega) (by intro c fz he; injection he with _ h2 _; exact absurd h2 (by decide))) 1).trans rfl; clear h4 hb4 hk4 y0 y1))
            go_roundw
            case rel => exact ⟨k + 1, acc ++ [10], false, by omega, rfl, by go_num, HI4, ⟨hS⟩, ⟨by (try simp only [List.length_append, List.length_cons, List.length_nil]); have := HL.out; (try rw [dsz]); omega⟩, HB4⟩
            case measure => simp [RowKit.intOf]; omega
        · have d4 : (kd == 4) = false := beq_eq_false_iff_ne.2 hk4
          rw [if_neg hk4] at hS
          clear hk4
          cases begun with
          | false =>
            rw [if_neg (by decide)] at hS
            go_wp2_with (first
              | (go_at_call 96; (with_reducible refine (HRT.out _).mono ?_); rintro e w3 ⟨rfl, hb3⟩; have BK3 := Aside0.mk (blk_below (blk_new wr (.cells #[.int .i64 kd, .string tx, .int .i64 nu, .int .i64 ln, .int .i64 co] 40)) hb3); have HB3 := Aside0.mk ((HB.out.alloc HSZ.out (.cells #[.int .i64 kd, .string tx, .int .i64 nu, .int .i64 ln, .int .i64 co] 40)).trans (hb3.mono (by have := HSZ.out; simp; omega))); have HI3 := Aside0.mk (bld_below (HI.out.alloc (.cells #[.int .i64 kd, .string tx, .int .i64 nu, .int .i64 ln, .int .i64 co] 40)) hb3); have HZ3 := Aside0.mk HB3.out.size; clear hb3 x0 x1 x2 x3 x4; have y0 : w3.cell? ⟨wr.heap.size, 0, none⟩ = some (.int .i64 kd) := (blk_cell BK3.out 0).trans rfl; have y1 : w3.cell? ⟨wr.heap.size, 1, none⟩ = some (.string tx) := (blk_cell BK3.out 1).trans rfl)
              | (go_at_call 98; (with_reducible refine (Sh.write_str w.heap.size w.heap.size (Lib.byteCells (acc)) tx _ HI3.out (by rw [byteCells_length]; (try simp only [List.length_append, List.length_cons, List.length_nil]); have := HL.out; have := R24; omega) HZ3.out).mono ?_); rintro e w5 ⟨rfl, h5, hb5, _⟩; have HI5 : Aside0 (Lib.IsBuilderF 116 5 w.heap.size w.heap.size (Lib.byteCells (acc ++ tx.data.toList)) w5) := ⟨by rw [byteCells_append]; exact Or.inr h5⟩; have HB5 := Aside0.mk (HB3.out.trans hb5); clear h5 hb5))
            go_roundw
            case rel => exact ⟨k + 1, acc ++ tx.data.toList, true, by omega, rfl, by go_num, HI5, ⟨hS⟩, ⟨by (try simp only [List.length_append, List.length_cons, List.length_nil]); have := HL.out; (try rw [dsz]); omega⟩, HB5⟩
            case measure => simp [RowKit.intOf]; omega
          | true =>
            rw [if_pos rfl] at hS
            unfold isComma at hS
            cases hc1 : (tx.toList == [44]) with
            | true =>
              rw [hc1, Bool.true_or, if_pos rfl] at hS
              go_wp2_with (first
                | (go_at_call 96; (with_reducible refine (HRT.out _).mono ?_); rintro e w3 ⟨rfl, hb3⟩; have BK3 := Aside0.mk (blk_below (blk_new wr (.cells #[.int .i64 kd, .string tx, .int .i64 nu, .int .i64 ln, .int .i64 co] 40)) hb3); have HB3 := Aside0.mk ((HB.out.alloc HSZ.out (.cells #[.int .i64 kd, .string tx, .int .i64 nu, .int .i64 ln, .int .i64 co] 40)).trans (hb3.mono (by have := HSZ.out; simp; omega))); have HI3 := Aside0.mk (bld_below (HI.out.alloc (.cells #[.int .i64 kd, .string tx, .int .i64 nu, .int .i64 ln, .int .i64 co] 40)) hb3); have HZ3 := Aside0.mk HB3.out.size; clear hb3 x0 x1 x2 x3 x4; have y0 : w3.cell? ⟨wr.heap.size, 0, none⟩ = some (.int .i64 kd) := (blk_cell BK3.out 0).trans rfl; have y1 : w3.cell? ⟨wr.heap.size, 1, none⟩ = some (.string tx) := (blk_cell BK3.out 1).trans rfl)
                | (go_at_call 98; (with_reducible refine (Sh.write_str w.heap.size w.heap.size (Lib.byteCells (acc)) tx _ HI3.out (by rw [byteCells_length]; (try simp only [List.length_append, List.length_cons, List.length_nil]); have := HL.out; have := R24; omega) HZ3.out).mono ?_); rintro e w5 ⟨rfl, h5, hb5, _⟩; have HI5 : Aside0 (Lib.IsBuilderF 116 5 w.heap.size w.heap.size (Lib.byteCells (acc ++ tx.data.toList)) w5) := ⟨by rw [byteCells_append]; exact Or.inr h5⟩; have HB5 := Aside0.mk (HB3.out.trans hb5); clear h5 hb5))
              go_roundw
              case rel => exact ⟨k + 1, acc ++ tx.data.toList, true, by omega, rfl, by go_num, HI5, ⟨hS⟩, ⟨by (try simp only [List.length_append, List.length_cons, List.length_nil]); have := HL.out; (try rw [dsz]); omega⟩, HB5⟩
              case measure => simp [RowKit.intOf]; omega
            | false =>
              rw [hc1, Bool.false_or] at hS
              cases hc2 : (tx.toList == [58]) with
              | true =>
                rw [hc2, if_pos rfl] at hS
                go_wp2_with (first
                  | (go_at_call 96; (with_reducible refine (HRT.out _).mono ?_); rintro e w3 ⟨rfl, hb3⟩; have BK3 := Aside0.mk (blk_below (blk_new wr (.cells #[.int .i64 kd, .string tx, .int .i64 nu, .int .i64 ln, .int .i64 co] 40)) hb3); have HB3 := Aside0.mk ((HB.out.alloc HSZ.out (.cells #[.int .i64 kd, .string tx, .int .i64 nu, .int .i64 ln, .int .i64 co] 40)).trans (hb3.mono (by have := HSZ.out; simp; omega))); have HI3 := Aside0.mk (bld_below (HI.out.alloc (.cells #[.int .i64 kd, .string tx, .int .i64 nu, .int .i64 ln, .int .i64 co] 40)) hb3); have HZ3 := Aside0.mk HB3.out.size; clear hb3 x0 x1 x2 x3 x4; have y0 : w3.cell? ⟨wr.heap.size, 0, none⟩ = some (.int .i64 kd) := (blk_cell BK3.out 0).trans rfl; have y1 : w3.cell? ⟨wr.heap.size, 1, none⟩ = some (.string tx) := (blk_cell BK3.out 1).trans rfl)
                  | (go_at_call 98; (with_reducible refine (Sh.write_str w.heap.size w.heap.size (Lib.byteCells (acc)) tx _ HI3.out (by rw [byteCells_length]; (try simp only [List.length_append, List.length_cons, List.length_nil]); have := HL.out; have := R24; omega) HZ3.out).mono ?_); rintro e w5 ⟨rfl, h5, hb5, _⟩; have HI5 : Aside0 (Lib.IsBuilderF 116 5 w.heap.size w.heap.size (Lib.byteCells (acc ++ tx.data.toList)) w5) := ⟨by rw [byteCells_append]; exact Or.inr h5⟩; have HB5 := Aside0.mk (HB3.out.trans hb5); clear h5 hb5))
                go_roundw
                case rel => exact ⟨k + 1, acc ++ tx.data.toList, true, by omega, rfl, by go_num, HI5, ⟨hS⟩, ⟨by (try simp only [List.length_append, List.length_cons, List.length_nil]); have := HL.out; (try rw [dsz]); omega⟩, HB5⟩
                case measure => simp [RowKit.intOf]; omega
              | false =>
                rw [hc2, if_neg (by decide)] at hS
                go_wp2_with (first
                  | (go_at_call 96; (with_reducible refine (HRT.out _).mono ?_); rintro e w3 ⟨rfl, hb3⟩; have BK3 := Aside0.mk (blk_below (blk_new wr (.cells #[.int .i64 kd, .string tx, .int .i64 nu, .int .i64 ln, .int .i64 co] 40)) hb3); have HB3 := Aside0.mk ((HB.out.alloc HSZ.out (.cells #[.int .i64 kd, .string tx, .int .i64 nu, .int .i64 ln, .int .i64 co] 40)).trans (hb3.mono (by have := HSZ.out; simp; omega))); have HI3 := Aside0.mk (bld_below (HI.out.alloc (.cells #[.int .i64 kd, .string tx, .int .i64 nu, .int .i64 ln, .int .i64 co] 40)) hb3); have HZ3 := Aside0.mk HB3.out.size; clear hb3 x0 x1 x2 x3 x4; have y0 : w3.cell? ⟨wr.heap.size, 0, none⟩ = some (.int .i64 kd) := (blk_cell BK3.out 0).trans rfl; have y1 : w3.cell? ⟨wr.heap.size, 1, none⟩ = some (.string tx) := (blk_cell BK3.out 1).trans rfl)
                  | (go_at_call 97; (with_reducible refine (Sh.write_byte w.heap.size w.heap.size (Lib.byteCells acc) 32 _ HI3.out (by rw [byteCells_length]; have := HL.out; omega) HZ3.out).mono ?_); rintro e w4 ⟨rfl, h4, hb4, hk4⟩; have HI4 : Aside0 (Lib.IsBuilderF 116 5 w.heap.size w.heap.size (Lib.byteCells (acc ++ [32])) w4) := ⟨by rw [byteCells_append]; exact Or.inr h4⟩; have HB4 := Aside0.mk (HB3.out.trans hb4); have HZ4 := Aside0.mk HB4.out.size; have y4 : w4.cell? ⟨wr.heap.size, 1, none⟩ = some (.string tx) := (blk_cell (hk4 _ _ BK3.out (by have := HLT.out; intro he; injection he with he; omega) (by intro c fz he; injection he with _ h2 _; exact absurd h2 (by decide))) 1).trans rfl; clear h4 hb4 hk4 y0 y1)
                  | (go_at_call 98; (with_reducible refine (Sh.write_str w.heap.size w.heap.size (Lib.byteCells (acc ++ [32])) tx _ HI4.out (by rw [byteCells_length]; (try simp only [List.length_append, List.length_cons, List.length_nil]); have := HL.out; have := R24; omega) HZ4.out).mono ?_); rintro e w5 ⟨rfl, h5, hb5, _⟩; have HI5 : Aside0 (Lib.IsBuilderF 116 5 w.heap.size w.heap.size (Lib.byteCells (acc ++ [32] ++ tx.data.toList)) w5) := ⟨by rw [byteCells_append]; exact Or.inr h5⟩; have HB5 := Aside0.mk (HB4.out.trans hb5); clear h5 hb5))
                go_roundw
                case rel => exact ⟨k + 1, acc ++ [32] ++ tx.data.toList, true, by omega, rfl, by go_num, HI5, ⟨hS⟩, ⟨by (try simp only [List.length_append, List.length_cons, List.length_nil]); have := HL.out; (try rw [dsz]); omega⟩, HB5⟩
                case measure => simp [RowKit.intOf]; omega
    · obtain rfl : k = l0.length := by omega
      have c0 : decide ((l0.length : Int) < (l0.length : Int)) = false := decide_eq_false (by omega)
      have hS := HS.out
      rw [List.drop_length] at hS
      simp only [showG] at hS
      clear HS HG
      cases begun with
      | true =>
        rw [if_pos rfl] at hS
        obtain rfl : none = G := hS
        go_wp2
        go_ret2
        exact ⟨rfl, HB.out⟩
      | false =>
        rw [if_neg (by decide)] at hS
        obtain rfl : some acc = G := hS
        go_wp2_with (first
          | (go_at_call 99; (with_reducible refine (Sh.str_any w.heap.size w.heap.size acc _ HI.out HSZ.out).mono ?_); rintro e w4 ⟨rfl, _, hb4, _⟩; have HB4 := Aside0.mk (HB.out.trans hb4); clear hb4))
        go_ret2
        exact ⟨rfl, HB4.out⟩
def lex_Show.f (l : List TkS) : Option (ByteArray × Int) := if l.length ≤ 1000000 then (if ∀ t ∈ l, t.f1.size ≤ 9223372036854775807 then some (showR (showG l [] false)) else none) else none
theorem lex_Show.calls (A0 : Option Addr) (c0 : Nat) (l0 : List S40) (r1 : ByteArray) (r2 : Int) (w : World) (hr0 : Kd.C k40 w A0 l0.length l0) (hc0 : l0.length ≤ c0) (h : lex_Show.f l0 = some (r1, r2)) : Calls Try.prog 51 #[.slice A0 l0.length c0] w fun e w' => e = .returned (.tuple #[.string r1, .int .i64 r2]) ∧ Below w.heap.size w w' := by
  unfold lex_Show.f at h
  by_cases h1 : l0.length ≤ 1000000
  · rw [if_pos h1] at h
    by_cases h2 : ∀ t ∈ l0, t.f1.size ≤ 9223372036854775807
    · rw [if_pos h2] at h
      have := lex_Show.walk A0 c0 l0 w hr0 hc0 h1 h2
      injection h with h
      rw [h] at this
      exact this
    · rw [if_neg h2] at h; cases h
  · rw [if_neg h1] at h; cases h
end


end Go.Proofs.Ytpcnpmcknknfcaa.PLsh
