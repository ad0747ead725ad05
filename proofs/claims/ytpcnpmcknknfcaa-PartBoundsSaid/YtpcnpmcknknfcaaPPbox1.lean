/- A text written by my program wip/gen/p2.py out of the translation and of my foreign texts; not trusted: Lean checks it. -/
import Derived.Test.YtpcnpmcknknfcaaPPbox0
namespace Go.Proofs.Ytpcnpmcknknfcaa.PPbo
open Go.RowKit Go.Proofs.YtpcnpmcknknfcaaW.PrintWords Go.Proofs.YtpcnpmcknknfcaaW.PrintLast Go.Proofs.YtpcnpmcknknfcaaW.PrintMore
attribute [local go_sem] max2_int min2_int max_two min_two max_three min_three max_four min_four   -- for this text's walks alone
set_option linter.unusedVariables false
set_option linter.unusedSimpArgs false

theorem cutlen_ {α : Type} {R : α → List Value → Prop} {sz : Nat} {w : World} {A : Option Addr} {n m : Nat} {xs : List α} (h : m = n) (g : ReadsRow R sz w A m xs) : ReadsRow R sz w A n xs := h ▸ g

/-! ### provostlaw02_few: function 14 -/
def provostlaw02_few.f (l0 : List Int) (a1 : Int) : Option (List Int) := if (l0.length : Int) > a1 then (if 0 ≤ a1 then (if a1 ≤ (l0.length : Int) then ((some (([] : List Int) : List Int)).bind fun y102 => (if y102.length + (l0.take (a1 : Int).toNat).length < 17592186044416 then (some (y102 ++ (l0.take (a1 : Int).toNat))) else (none))) else (none)) else (none)) else ((some (([] : List Int) : List Int)).bind fun y108 => (if y108.length + l0.length < 17592186044416 then (some (y108 ++ l0)) else (none)))
set_option maxHeartbeats 8000000 in
set_option maxRecDepth 100000 in
theorem provostlaw02_few.calls (A0 : Option Addr) (c0 : Nat) (l0 : List Int) (a1 : Int) (r : List Int) (w : World) (hr0 : Kd.C (Kd.int .i64) w A0 l0.length l0) (hc0 : l0.length ≤ c0) (h : provostlaw02_few.f l0 a1 = some r) :
    Calls Try.prog 14 #[.slice A0 l0.length c0, .int .i64 a1] w fun e w' => ∃ v0_ : Value, e = .returned (v0_) ∧ Kd.R (Kd.int .i64) 3 w' w.heap.size (fun _ => True) v0_ r ∧ Below w.heap.size w w' := by
  have HR0 := Aside0.mk hr0
  have HC0 := Aside0.mk hc0
  clear hr0 hc0
  have HB := Aside0.mk (Below.refl w.heap.size w)
  have H : (if (l0.length : Int) > a1 then (if 0 ≤ a1 then (if a1 ≤ (l0.length : Int) then ((some (([] : List Int) : List Int)).bind fun y102 => (if y102.length + (l0.take (a1 : Int).toNat).length < 17592186044416 then (some (y102 ++ (l0.take (a1 : Int).toNat))) else (none))) else (none)) else (none)) else ((some (([] : List Int) : List Int)).bind fun y108 => (if y108.length + l0.length < 17592186044416 then (some (y108 ++ l0)) else (none)))) = some r := h
  clear h
  by_cases c3 : (l0.length : Int) > a1
  · rw [if_pos c3] at H
    have c3b0 : decide (a1 < (l0.length : Int)) = true := decide_eq_true c3
    clear c3
    by_cases c4 : 0 ≤ a1
    · rw [if_pos c4] at H
      have c4b0 := eq_true c4
      have c4b1 : decide (0 ≤ a1) = true := decide_eq_true c4
      clear c4
      by_cases c5 : a1 ≤ (l0.length : Int)
      · rw [if_pos c5] at H
        have c5b0 := eq_true c5
        have c5b1 : decide (a1 ≤ (l0.length : Int)) = true := decide_eq_true c5
        clear c5
        obtain ⟨y102, hy102⟩ : ∃ y_ : List Int, y_ = (([] : List Int)) := ⟨_, rfl⟩
        replace H : (if y102.length + (l0.take (a1 : Int).toNat).length < 17592186044416 then (some (y102 ++ (l0.take (a1 : Int).toNat))) else (none)) = some r := by first | (rw [hy102]; with_reducible exact H) | (have H2_ := (Option.bind_some _ _).symm.trans H; rw [hy102]; with_reducible exact H2_) | (have H2_ := (Option.bind_some _ _).symm.trans H; with_reducible exact H2_) | with_reducible exact H | (rw [hy102]; exact H) | exact H
        have Ny102 := Aside0.mk hy102
        clear hy102
        by_cases c6 : y102.length + (l0.take (a1 : Int).toNat).length < 17592186044416
        · rw [if_pos c6] at H
          have LMc6 := Aside0.mk c6
          clear c6
          obtain ⟨y105, hy105⟩ : ∃ y_ : List Int, y_ = (y102 ++ (l0.take (a1 : Int).toNat)) := ⟨_, rfl⟩
          replace H : (some y105) = some r := by first | (rw [hy105]; with_reducible exact H) | (have H2_ := (Option.bind_some _ _).symm.trans H; rw [hy105]; with_reducible exact H2_) | (have H2_ := (Option.bind_some _ _).symm.trans H; with_reducible exact H2_) | with_reducible exact H | (rw [hy105]; exact H) | exact H
          have Ny105 := Aside0.mk hy105
          clear hy105
          obtain rfl := Option.some.inj H
          obtain ⟨i07, hi07, _, hsz7, _⟩ := info_parts info3
          obtain ⟨hcut7, hA7, hC7⟩ := print_take_of (P := Try.prog) (Value.int .i64) 0 22 3 .i64 Try.underlying22 hi07 hsz7 A0 c0 l0 a1 (of_decide_eq_true (by first | (with_reducible assumption) | assumption)) (of_decide_eq_true (by first | (with_reducible assumption) | assumption)) HC0.out
          have HR101 := Aside0.mk (Kd.C_of_reads (h1 := fun _ => rfl) (hA7 _ (Kd.reads_of_C HR0.out)))
          have HC101 := Aside0.mk hC7
          clear hA7 hC7 hi07 hsz7
          go_enter Try.func14, Try.ntmps14
          go_wp2_with (first | ((with_reducible refine gate_dst (N := 12) rfl ?_); refine Kd.R_lit (Kd.int .i64) _ 3 ?hg (N := 12) ?hd (xs := ([] : List Int)) (inner := []) (ok := fun _ => True) (okp := fun _ => True) ?hr ?hp (fun _ hk => hk) trivial (Below.refl _ _) (Nat.le_refl _) (by simp) ?_; (case hd => rfl); (case hg => rfl); (case hr => first | (go_simp; done) | (go_simp; rfl)); (case hp => exact (Reps.none _ _)); intro v103 w8 ho9 hb hg_ hnew_; clear hg_ hnew_; (first | rw [← Ny102.out] at ho9 | (simp only [Int.reduceToNat] at ho9; rw [← Ny102.out] at ho9)); have n0_ := Aside0.mk (Kd.R_lower ho9 (below_size (by repeat (first | (with_reducible first | exact HB.out | apply below_alloc | apply pw_below_drewN | apply below_drew1) | exact HB.out)))); have n1_ := Aside0.mk (below_step (by repeat (first | (with_reducible first | exact HB.out | apply below_alloc | apply pw_below_drewN | apply below_drew1) | exact HB.out)) hb); clear HB; have HO104 := n0_; have HB := n1_; clear n0_ n1_; clear hb ho9) | ((with_reducible refine gate_builtin (b := .append) (xs := #[.tmp 12, .tmp 13]) rfl ?_); at_builtin; refine Kd.R_append_rows (Kd.int .i64) (w0 := w) w.heap.size rfl (.tmp 12) (.tmp 13) 22 3 (.int .i64 0) 8 rfl Try.underlying22 info3 rfl (by decide) (by omega) v103 y102 (l0.take (a1 : Int).toNat) _ _ _ (fun _ => True) (fun _ => False) rfl rfl ?aO ?aR (fun _ _ h => h) (fun _ h => h.elim) ?aF ?aB ?aS ?aL ?_; (case aR => first | (refine cutlen_ (show (l0.take (a1 : Int).toNat).length = a1.toNat from (by rw [List.length_take]; have h_ : (a1 : Int) ≤ (l0.length : Int) := of_decide_eq_true (by first | (with_reducible assumption) | assumption); omega)) ?_; repeat (first | exact (Kd.C_below HR101.out HB.out) | (with_reducible refine Kd.C_alloc ?_ _) | (with_reducible refine Kd.C_drewN ?_ _) | (with_reducible refine Kd.C_drew ?_)); done) | (refine cutlen_ List.length_take ?_; (repeat (first | exact (Kd.C_below HR101.out HB.out) | (with_reducible refine Kd.C_alloc ?_ _) | (with_reducible refine Kd.C_drewN ?_ _) | (with_reducible refine Kd.C_drew ?_))); done) | (repeat (first | exact (Kd.C_below HR101.out HB.out) | (with_reducible refine Kd.C_alloc ?_ _) | (with_reducible refine Kd.C_drewN ?_ _) | (with_reducible refine Kd.C_drew ?_)))); (case aB => exact (by repeat (first | (with_reducible first | exact HB.out | apply below_alloc | apply pw_below_drewN | apply below_drew1) | exact HB.out))); (case aF => exact (fun _ _ => trivial)); (case aO => exact (by (with_reducible repeat (first | apply Kd.R_alloc | apply Kd.R_drewN | apply Kd.R_drew)); exact HO104.out)); (case aS => exact (below_size (by repeat (first | (with_reducible first | exact HB.out | apply below_alloc | apply pw_below_drewN | apply below_drew1) | exact HB.out)))); (case aL => have := LMc6.out; have hlx_ := (show (l0.take (a1 : Int).toNat).length = a1.toNat from (by rw [List.length_take]; have h_ : (a1 : Int) ≤ (l0.length : Int) := of_decide_eq_true (by first | (with_reducible assumption) | assumption); omega)); omega); intro v106 w10 ho hb hg hat; rw [← Ny105.out] at ho; have n0_ := Aside0.mk (hb); have n1_ := Aside0.mk (ho); clear HB; clear HO104; have HB := n0_; have HO107 := n1_; clear n0_ n1_; clear ho hb hg hat))
          go_ret
          exact ⟨_, by first | rfl | (simp [errW_none, errW_some] <;> rfl) | (simp [*, errW_none, errW_some] <;> rfl), by (with_reducible repeat (first | apply Kd.R_alloc | apply Kd.R_drewN | apply Kd.R_drew)); exact HO107.out, by repeat (first | (with_reducible first | exact HB.out | apply below_alloc | apply pw_below_drewN | apply below_drew1) | exact HB.out)⟩
        · rw [if_neg c6] at H
          exact absurd H (by simp)
      · rw [if_neg c5] at H
        exact absurd H (by simp)
    · rw [if_neg c4] at H
      exact absurd H (by simp)
  · rw [if_neg c3] at H
    have c3b0 : decide (a1 < (l0.length : Int)) = false := decide_eq_false c3
    clear c3
    obtain ⟨y108, hy108⟩ : ∃ y_ : List Int, y_ = (([] : List Int)) := ⟨_, rfl⟩
    replace H : (if y108.length + l0.length < 17592186044416 then (some (y108 ++ l0)) else (none)) = some r := by first | (rw [hy108]; with_reducible exact H) | (have H2_ := (Option.bind_some _ _).symm.trans H; rw [hy108]; with_reducible exact H2_) | (have H2_ := (Option.bind_some _ _).symm.trans H; with_reducible exact H2_) | with_reducible exact H | (rw [hy108]; exact H) | exact H
    have Ny108 := Aside0.mk hy108
    clear hy108
    by_cases c11 : y108.length + l0.length < 17592186044416
    · rw [if_pos c11] at H
      have LMc11 := Aside0.mk c11
      clear c11
      obtain ⟨y111, hy111⟩ : ∃ y_ : List Int, y_ = (y108 ++ l0) := ⟨_, rfl⟩
      replace H : (some y111) = some r := by first | (rw [hy111]; with_reducible exact H) | (have H2_ := (Option.bind_some _ _).symm.trans H; rw [hy111]; with_reducible exact H2_) | (have H2_ := (Option.bind_some _ _).symm.trans H; with_reducible exact H2_) | with_reducible exact H | (rw [hy111]; exact H) | exact H
      have Ny111 := Aside0.mk hy111
      clear hy111
      obtain rfl := Option.some.inj H
      go_enter Try.func14, Try.ntmps14
      go_wp2_with (first | ((with_reducible refine gate_dst (N := 12) rfl ?_); refine Kd.R_lit (Kd.int .i64) _ 3 ?hg (N := 12) ?hd (xs := ([] : List Int)) (inner := []) (ok := fun _ => True) (okp := fun _ => True) ?hr ?hp (fun _ hk => hk) trivial (Below.refl _ _) (Nat.le_refl _) (by simp) ?_; (case hd => rfl); (case hg => rfl); (case hr => first | (go_simp; done) | (go_simp; rfl)); (case hp => exact (Reps.none _ _)); intro v109 w12 ho13 hb hg_ hnew_; clear hg_ hnew_; (first | rw [← Ny108.out] at ho13 | (simp only [Int.reduceToNat] at ho13; rw [← Ny108.out] at ho13)); have n0_ := Aside0.mk (Kd.R_lower ho13 (below_size (by repeat (first | (with_reducible first | exact HB.out | apply below_alloc | apply pw_below_drewN | apply below_drew1) | exact HB.out)))); have n1_ := Aside0.mk (below_step (by repeat (first | (with_reducible first | exact HB.out | apply below_alloc | apply pw_below_drewN | apply below_drew1) | exact HB.out)) hb); clear HB; have HO110 := n0_; have HB := n1_; clear n0_ n1_; clear hb ho13) | ((with_reducible refine gate_builtin (b := .append) (xs := #[.tmp 12, .tmp 13]) rfl ?_); at_builtin; refine Kd.R_append_rows (Kd.int .i64) (w0 := w) w.heap.size rfl (.tmp 12) (.tmp 13) 22 3 (.int .i64 0) 8 rfl Try.underlying22 info3 rfl (by decide) (by omega) v109 y108 l0 _ _ _ (fun _ => True) (fun _ => False) rfl rfl ?aO ?aR (fun _ _ h => h) (fun _ h => h.elim) ?aF ?aB ?aS ?aL ?_; (case aR => repeat (first | exact (Kd.C_below HR0.out HB.out) | (with_reducible refine Kd.C_alloc ?_ _) | (with_reducible refine Kd.C_drewN ?_ _) | (with_reducible refine Kd.C_drew ?_))); (case aB => exact (by repeat (first | (with_reducible first | exact HB.out | apply below_alloc | apply pw_below_drewN | apply below_drew1) | exact HB.out))); (case aF => exact (fun _ _ => trivial)); (case aO => exact (by (with_reducible repeat (first | apply Kd.R_alloc | apply Kd.R_drewN | apply Kd.R_drew)); exact HO110.out)); (case aS => exact (below_size (by repeat (first | (with_reducible first | exact HB.out | apply below_alloc | apply pw_below_drewN | apply below_drew1) | exact HB.out)))); (case aL => have := LMc11.out; omega); intro v112 w14 ho hb hg hat; rw [← Ny111.out] at ho; have n0_ := Aside0.mk (hb); have n1_ := Aside0.mk (ho); clear HB; clear HO110; have HB := n0_; have HO113 := n1_; clear n0_ n1_; clear ho hb hg hat))
      go_ret
      exact ⟨_, by first | rfl | (simp [errW_none, errW_some] <;> rfl) | (simp [*, errW_none, errW_some] <;> rfl), by (with_reducible repeat (first | apply Kd.R_alloc | apply Kd.R_drewN | apply Kd.R_drew)); exact HO113.out, by repeat (first | (with_reducible first | exact HB.out | apply below_alloc | apply pw_below_drewN | apply below_drew1) | exact HB.out)⟩
    · rw [if_neg c11] at H
      exact absurd H (by simp)

/-! ### part_Of: function 15 -/
section
open Go Go.Maps
open Go.Proofs.YtpcnpmcknknfcaaW.Mine
/-- how many unlike labels (the newest first) -/
def of_size : List Int → Nat
  | [] => 0
  | x :: r => of_size r + if x ∈ r then 0 else 1
/-- a label's block -/
def of_at : List Int → Int → Nat
  | [], _ => 0
  | y :: r, x => if y ∈ r then of_at r x else if x = y then of_size r else of_at r x
def of_map : List Int → DataW Unit
  | [] => .map []
  | x :: r => if x ∈ r then of_map r else (of_map r).put (.int .i64 x) (.lit (.int .i64 (of_size r : Nat)))
/-- the pattern of labels behind those that are done (the newest first) -/
def of_pat : List Int → List Int → List Int
  | _, [] => []
  | d, x :: r => ((of_at (x :: d) x : Nat) : Int) :: of_pat (x :: d) r
theorem of_keyLit (x : Int) : WideAt.IsKeyLit (.int .i64 x) := by simp [WideAt.IsKeyLit]
theorem of_tidy : ∀ l, Tidy (of_map l)
  | [] => tidy_empty
  | x :: r => by
    unfold of_map
    split
    · exact of_tidy r
    · exact (of_tidy r).put (of_keyLit x) _
theorem of_has : ∀ (l : List Int) (x : Int), has (of_map l) (.int .i64 x) = decide (x ∈ l)
  | [], x => by simp [of_map, has]
  | y :: r, x => by
    unfold of_map
    by_cases hy : y ∈ r
    · rw [if_pos hy, of_has r x]
      by_cases h : x = y
      · subst h; simp [hy]
      · simp [h]
    · rw [if_neg hy]
      by_cases h : x = y
      · subst h
        rw [has_put_same (of_tidy r).isMap (of_keyLit x)]
        simp
      · rw [has_put_other (by simpa using h), of_has r x]
        simp [h]
theorem of_look : ∀ (l : List Int) (x : Int), x ∈ l → (of_map l).atKey (.int .i64 x) (.lit (.int .i64 0)) = .lit (.int .i64 (of_at l x : Nat))
  | [], x, h => by cases h
  | y :: r, x, hm => by
    unfold of_map of_at
    by_cases hy : y ∈ r
    · rw [if_pos hy, if_pos hy]
      refine of_look r x ?_
      rcases List.mem_cons.1 hm with h | h
      · rw [h]; exact hy
      · exact h
    · rw [if_neg hy, if_neg hy]
      by_cases h : x = y
      · subst h
        rw [atKey_put_same (of_tidy r).isMap (of_keyLit x), if_pos rfl]
      · rw [atKey_put_other (by simpa using h), if_neg h]
        exact of_look r x ((List.mem_cons.1 hm).resolve_left h)
theorem of_sized : ∀ l, Maps.size (of_map l) = of_size l
  | [] => rfl
  | x :: r => by
    unfold of_map of_size
    by_cases h : x ∈ r
    · rw [if_pos h, if_pos h, of_sized r]; rfl
    · rw [if_neg h, if_neg h, size_put (of_tidy r), of_has, of_sized r]
      simp [h]
theorem of_size_le : ∀ l, of_size l ≤ l.length
  | [] => Nat.le_refl _
  | x :: r => by have := of_size_le r; simp only [of_size, List.length_cons]; split <;> omega
theorem of_at_le : ∀ l x, of_at l x ≤ l.length
  | [], _ => Nat.le_refl _
  | y :: r, x => by
    have h1 := of_at_le r x
    have h2 := of_size_le r
    unfold of_at
    simp only [List.length_cons]
    split
    · omega
    · split <;> omega
theorem of_pat_len : ∀ l d, (of_pat d l).length = l.length
  | [], _ => rfl
  | x :: r, d => by simp [of_pat, of_pat_len r]
theorem of_pat_snoc : ∀ (l d : List Int) (x : Int), of_pat d (l ++ [x]) = of_pat d l ++ [((of_at (x :: (l.reverse ++ d)) x : Nat) : Int)]
  | [], d, x => by simp [of_pat]
  | y :: l, d, x => by
    rw [List.cons_append]
    simp only [of_pat, List.cons_append]
    rw [of_pat_snoc l (y :: d) x]
    simp
theorem of_law : Keyed Try.prog 3 := int_keyed Try.underlying3
theorem of_zero (w : World) : (zeroValue 3).run Try.prog w = .ok (.int .i64 0) w := by kernel_rfl
/-- the row behind one more round -/
theorem of_step (l : List Int) (k : Nat) (h : k < l.length) (z : List Int) (hz : z = of_pat [] (l.take k) ++ List.replicate (l.length - k) 0) :
    of_pat [] (l.take (k + 1)) ++ List.replicate (l.length - (k + 1)) 0 = z.set k ((of_at (rd l k :: (l.take k).reverse) (rd l k) : Nat) : Int) := by
  have hl : (of_pat [] (l.take k)).length = k := by rw [of_pat_len, List.length_take]; omega
  have hrd : rd l k = l[k] := by unfold rd; rw [Int.toNat_natCast, List.getD_eq_getElem?_getD, List.getElem?_eq_getElem h]; rfl
  rw [hz, List.set_append_right _ _ (by omega), hl, Nat.sub_self, List.take_succ_eq_append_getElem h, of_pat_snoc, hrd, List.append_nil, List.append_assoc]
  congr 1
  obtain ⟨m, hm⟩ : ∃ m, l.length - k = m + 1 := ⟨l.length - k - 1, by omega⟩
  rw [hm, show l.length - (k + 1) = m by omega, List.replicate_succ]
  rfl
set_option maxHeartbeats 2000000 in
set_option maxRecDepth 100000 in
theorem part_Of.walk (A0 : Option Addr) (c0 : Nat) (l : List Int) (w : World) (hr0 : Kd.C (Kd.int .i64) w A0 l.length l) (hc0 : l.length ≤ c0) (hl : ∀ x ∈ l, (Lit.int .i64 x).wf = true) (h25 : l.length ≤ 25) :
    Calls Try.prog 15 #[.slice A0 l.length c0] w fun e w' => ∃ v0_ : Value, e = .returned (.tuple #[v0_, .int .i64 0]) ∧ Kd.R (Kd.int .i64) 3 w' w.heap.size (fun _ => True) v0_ (of_pat [] l) ∧ Below w.heap.size w w' := by
  have hmm := @run_makeMap Try.prog
  have HR := Aside0.mk hr0
  have HL := Aside0.mk hl
  have h0 : decide (25 < (l.length : Int)) = false := decide_eq_false (by omega)
  clear hr0 hl
  go_enter Try.func15, Try.ntmps15
  go_wp2_with (first
    | ((with_reducible refine gate_dst (N := 15) rfl ?_); refine Kd.R_make (Kd.int .i64) (w0 := w) w.heap.size 3 rfl (N := 15) rfl 22 _ _ rfl (l.length : Int) rfl rfl Try.underlying22 (.int .i64 0) 8 info3 rfl (by decide) (by omega) 0 (ok := fun _ => True) (okp := fun _ => True) rfl (fun _ hk => hk) trivial (by omega) (by omega) (Below.refl _ _) (Nat.le_refl _) ?_; intro v w1 ho hb hg_ hnew_; clear hg_ hnew_; rw [Int.toNat_natCast] at ho; have HO := Aside0.mk (own_alone ho); have HVB := Aside0.mk (Kd.R_lt ho); have HB := Aside0.mk hb; clear ho hb))
  have hB0 : w.heap.size ≤ w1.heap.size := HB.out.size
  have HOW := Aside0.mk (World.ownsMap_made (H := Unit) w1 Try.prog 3 (plainElem Try.prog 3))
  have n1 := Aside0.mk (below_alloc HB.out (.map #[] 0))
  have n2 : Aside0 (Kd.R (Kd.int .i64) 3 (w1.alloc (.map #[] 0)) w.heap.size (fun i => v.ownBlock = some i) v (List.replicate l.length 0)) := ⟨Kd.R_alloc HO.out _⟩
  generalize w1.heap.size = B at *
  generalize w1.alloc (.map #[] 0) = w2 at *
  clear HB HO
  go_loopw [19] (fun i wr => ∃ k : Nat, k ≤ l.length ∧ i = .int .i64 k ∧ wr.ownsMap Try.prog 3 (plainElem Try.prog 3) B k (of_map (l.take k).reverse) ∧
      Kd.R (Kd.int .i64) 3 wr w.heap.size (fun i => v.ownBlock = some i) v (of_pat [] (l.take k) ++ List.replicate (l.length - k) 0) ∧ Below w.heap.size w wr) (fun i _ => l.length - (intOf i).toNat)
  case atStart => exact ⟨0, Nat.zero_le _, rfl, HOW.out, n2.out, n1.out⟩
  case round =>
    clear HOW n1 n2
    obtain ⟨k, hk, rfl, hown, ho, hb⟩ := hrel
    by_cases hlt : k < l.length
    · have hzl : (of_pat [] (l.take k) ++ List.replicate (l.length - k) 0).length = l.length := by rw [List.length_append, of_pat_len, List.length_take, List.length_replicate]; omega
      have HST := Aside0.mk (of_step l k hlt _ rfl)
      have HO := Aside0.mk ho
      have HB := Aside0.mk hb
      have HOWN := Aside0.mk hown
      clear hown ho hb
      have hwf := HL.out (rd l k) (by unfold rd; rw [Int.toNat_natCast, List.getD_eq_getElem?_getD, List.getElem?_eq_getElem hlt]; exact List.getElem_mem hlt)
      have HK := Aside0.mk (Maps.keyOf_int_mk Try.underlying3 hwf)
      obtain ⟨ad, hA, hx⟩ := Kd.at_int HR.out (k : Int) (by omega) (by omega)
      subst hA
      rw [Int.toNat_natCast] at hx
      have hx1 := pw_cell_below HB.out hx
      have hle := of_at_le (rd l k :: (l.take k).reverse) (rd l k)
      have hsl := of_size_le (l.take k).reverse
      simp only [List.length_cons, List.length_reverse, List.length_take] at hle hsl
      have hb25 : of_at (rd l k :: (l.take k).reverse) (rd l k) ≤ 9223372036854775807 := by omega
      have hs25 : of_size (l.take k).reverse ≤ 9223372036854775807 := by omega
      have HTK : Aside0 ((l.take (k + 1)).reverse = rd l k :: (l.take k).reverse) := ⟨by unfold rd; rw [List.take_succ_eq_append_getElem hlt, Int.toNat_natCast, List.getD_eq_getElem?_getD, List.getElem?_eq_getElem hlt]; simp⟩
      clear hx hle hsl hwf
      generalize of_pat [] (l.take k) ++ List.replicate (l.length - k) 0 = zs at *
      obtain ⟨g, cap, hv, gb, gl, cl, HG⟩ := Kd.R_form HO.out (by omega)
      rw [hzl] at hv
      subst hv
      have hgB : g ≠ B := by have := HVB.out g (by simp [Value.ownBlock]); omega
      clear gl HG
      by_cases hin : rd l k ∈ (l.take k).reverse
      · have HHAS : Aside0 (Maps.has (of_map (l.take k).reverse) (.int .i64 (rd l k)) = true) := ⟨by rw [of_has]; exact decide_eq_true hin⟩
        have HAT := Aside0.mk (of_look (l.take k).reverse (rd l k) hin)
        have HEQ : Aside0 (of_at (rd l k :: (l.take k).reverse) (rd l k) = of_at (l.take k).reverse (rd l k)) := ⟨by rw [of_at, if_pos hin]⟩
        have HMP : Aside0 (of_map (rd l k :: (l.take k).reverse) = of_map (l.take k).reverse) := ⟨by rw [of_map, if_pos hin]⟩
        clear hin
        rw [HEQ.out] at HST hb25
        rw [← HTK.out] at HMP
        generalize rd l k = x at *
        generalize of_map (l.take k).reverse = mp at *
        generalize of_at (l.take k).reverse x = b at *
        obtain ⟨hy, hfy⟩ := Kd.R_celln 0 HO.out (k : Int) (by omega) (by omega)
        rw [Int.toNat_natCast] at hy hfy
        have HP := Aside0.mk (Kd.R_putg HO.out (k : Int) (b : Int))
        go_wp2_with (at_lookup; refine wpList_lookup_own_ok_int _ rfl _ _ 85 rfl 3 3 .i64 of_law Try.underlying85 Try.underlying3 (of_zero _) B k _ rfl HOWN.out _ _ rfl HK.out ?_; intro c hat hwc; rw [HAT.out] at hat; obtain rfl : (b : Int) = c := (by injection hat with h; injection h); rw [HHAS.out]; clear hat hwc)
        have hp := HP.out
        rw [Int.toNat_natCast] at hp
        have HP2 := Aside0.mk hp
        clear hp HP
        go_roundw
        case rel =>
          refine ⟨k + 1, by omega, by go_num, ?_, ?_, HB.out.setCell gb _⟩
          · rw [HMP.out]; exact (HOWN.out.kept HP2.out.2 (fun e => hgB (by injection e with e; exact e.symm))).mono (Nat.le_succ _)
          · rw [HST.out]; exact HP2.out.1
        case measure => simp [intOf]; omega
      · have HHAS : Aside0 (Maps.has (of_map (l.take k).reverse) (.int .i64 (rd l k)) = false) := ⟨by rw [of_has]; exact decide_eq_false hin⟩
        have HEQ : Aside0 (of_at (rd l k :: (l.take k).reverse) (rd l k) = of_size (l.take k).reverse) := ⟨by rw [of_at, if_neg hin, if_pos rfl]⟩
        have HMP : Aside0 (of_map (rd l k :: (l.take k).reverse) = (of_map (l.take k).reverse).put (.int .i64 (rd l k)) (.lit (.int .i64 (of_size (l.take k).reverse : Nat)))) := ⟨by rw [of_map, if_neg hin]⟩
        have HSZ := Aside0.mk (of_sized (l.take k).reverse)
        clear hin hb25
        rw [HEQ.out] at HST
        rw [← HTK.out] at HMP
        generalize rd l k = x at *
        generalize of_map (l.take k).reverse = mp at *
        generalize of_size (l.take k).reverse = b at *
        have hbs : (Lit.int .i64 (b : Int)).wf = true := by simp [Lit.wf, IntKind.min, IntKind.max, IntKind.signed, IntKind.bits]; omega
        have HBS := Aside0.mk hbs
        clear hbs
        have hrow : ∀ i, (Value.slice (some ⟨g, 0, none⟩) l.length cap).ownBlock = some i → some i ≠ some B := by
          intro i hi he
          simp [Value.ownBlock] at hi
          injection he with he
          omega
        have HRW := Aside0.mk hrow
        clear hrow
        go_wp2_with (first
          | (at_lookup; refine wpList_lookup_own_ok_int _ rfl _ _ 85 rfl 3 3 .i64 of_law Try.underlying85 Try.underlying3 (of_zero _) B k _ rfl HOWN.out _ _ rfl HK.out ?_; intro c hat hwc; rw [HHAS.out]; clear hat hwc)
          | (at_len; refine wpList_len_own _ rfl _ 85 rfl 3 3 Try.underlying85 (plainElem (H := Unit) Try.prog 3) B k _ rfl HOWN.out ?_; rw [HSZ.out])
          | (at_mapUpdate; refine wpList_mapUpdate_own _ rfl _ _ _ 85 rfl 3 3 of_law Try.underlying85 _ B k _ rfl HOWN.out (by unfold maxLen; omega) _ _ _ rfl rfl HK.out _ [] (plainElem_int Try.underlying3 HBS.out) ?_; intro w3 hown1 hgrow1; have n1 := Aside0.mk (Kd.R_grown HO.out hgrow1 HRW.out); have n2 := Aside0.mk (HB.out.grown hgrow1 HB.out.size (fun j e => by injection e with e; omega)); have HOW := Aside0.mk hown1; clear hown1 hgrow1 HO HB HOWN hx1; have HO := n1; have HB := n2; clear n1 n2; obtain ⟨hy, hfy⟩ := Kd.R_celln 0 HO.out (k : Int) (by omega) (by omega); rw [Int.toNat_natCast] at hy hfy))
        have hp := Kd.R_putg HO.out (k : Int) (b : Int)
        rw [Int.toNat_natCast] at hp
        have HP2 := Aside0.mk hp
        clear hp
        go_roundw
        case rel =>
          refine ⟨k + 1, by omega, by go_num, ?_, ?_, HB.out.setCell gb _⟩
          · rw [HMP.out]; exact HOW.out.kept HP2.out.2 (fun e => hgB (by injection e with e; exact e.symm))
          · rw [HST.out]; exact HP2.out.1
        case measure => simp [intOf]; omega
    · obtain rfl : k = l.length := by omega
      rw [List.take_length, Nat.sub_self, List.replicate_zero, List.append_nil] at ho
      have HO := Aside0.mk ho
      have HB := Aside0.mk hb
      clear hown ho hb
      go_wp2
      go_ret2
      exact ⟨_, rfl, Kd.R_mono HO.out (fun _ _ => trivial), HB.out⟩
theorem part_Of.big (A0 : Option Addr) (c0 : Nat) (l : List Int) (w : World) (h25 : (l.length : Int) > 25) :
    Calls Try.prog 15 #[.slice A0 l.length c0] w fun e w' => ∃ v0_ : Value, e = .returned (.tuple #[v0_, .int .i64 2]) ∧ Kd.R (Kd.int .i64) 3 w' w.heap.size (fun _ => True) v0_ [] ∧ Below w.heap.size w w' := by
  have h0 : decide (25 < (l.length : Int)) = true := decide_eq_true h25
  go_enter Try.func15, Try.ntmps15
  go_wp2
  go_ret2
  exact ⟨_, rfl, Kd.R_nil _ _ _ _ _, Below.refl _ _⟩
def part_Of.f (l : List Int) : Option (List Int × Int) := if (l.length : Int) > 25 then some ([], 2) else if ∀ x ∈ l, (Lit.int .i64 x).wf = true then some (of_pat [] l, 0) else none
theorem part_Of.calls (A0 : Option Addr) (c0 : Nat) (l0 : List Int) (r1 : List Int) (r2 : Int) (w : World) (hr0 : Kd.C (Kd.int .i64) w A0 l0.length l0) (hc0 : l0.length ≤ c0) (h : part_Of.f l0 = some (r1, r2)) :
    Calls Try.prog 15 #[.slice A0 l0.length c0] w fun e w' => ∃ v0_ : Value, e = .returned (.tuple #[v0_, .int .i64 r2]) ∧ Kd.R (Kd.int .i64) 3 w' w.heap.size (fun _ => True) v0_ r1 ∧ Below w.heap.size w w' := by
  unfold part_Of.f at h
  split at h
  next h25 => simp only [Option.some.injEq, Prod.mk.injEq] at h; obtain ⟨rfl, rfl⟩ := h; exact part_Of.big A0 c0 l0 w h25
  next h25 =>
    split at h
    next hl => simp only [Option.some.injEq, Prod.mk.injEq] at h; obtain ⟨rfl, rfl⟩ := h; exact part_Of.walk A0 c0 l0 w hr0 hc0 hl (by omega)
    next => cases h
end


/-! ### part_Legal: function 16 -/
mutual
def part_Legal.l0 : Nat → Int → List Int → Int → Int → Option (Bool)
  | 0, _, _, _, _ => none
  | k + 1, x3, x9, x10, x11 => if x11 < x10 then (if 0 ≤ x11 then (if x11 < (x9.length : Int) then (if (rd x9 x11) < 0 then (part_Legal.j1 k x3 (rd x9 x11) x9 x10 x11 true) else (part_Legal.j1 k x3 (rd x9 x11) x9 x10 x11 (decide ((rd x9 x11) > x3)))) else (none)) else (none)) else (some true)
def part_Legal.j1 : Nat → Int → Int → List Int → Int → Int → Bool → Option (Bool)
  | 0, _, _, _, _, _, _ => none
  | k + 1, x3, x5, x9, x10, x11, x21 => if x21 = true then (some false) else (part_Legal.l0 k (mx x3 (wrap64 (x5 + 1))) x9 x10 (wrap64 (x11 + 1)))
end
def part_Legal.f (k : Nat) (l0 : List Int) : Option (Bool) := if (l0.length : Int) > 25 then (some false) else (part_Legal.l0 k 0 l0 (l0.length : Int) 0)
theorem part_Legal.mono_l : ∀ k, (∀ y0 y1 y2 y3, LeO (part_Legal.l0 k y0 y1 y2 y3) (part_Legal.l0 (k + 1) y0 y1 y2 y3)) ∧ (∀ y0 y1 y2 y3 y4 y5, LeO (part_Legal.j1 k y0 y1 y2 y3 y4 y5) (part_Legal.j1 (k + 1) y0 y1 y2 y3 y4 y5))
  | 0 => ⟨fun _ _ _ _ r h => by simp [part_Legal.l0] at h, fun _ _ _ _ _ _ r h => by simp [part_Legal.j1] at h⟩
  | k + 1 => by
    obtain ⟨ih0, ih1⟩ := part_Legal.mono_l k
    refine ⟨?_, ?_⟩
    · intro y0 y1 y2 y3
      unfold part_Legal.l0
      repeat' first
      | (with_reducible exact ih0 _ _ _ _)
      | (with_reducible exact ih1 _ _ _ _ _ _)
      | (with_reducible exact LeO.refl _)
      | (with_reducible exact LeO.none _)
      | (with_reducible refine LeO.ite ?_ ?_)
      | (with_reducible refine LeO.bind ?_ (fun _ => ?_))
      | exact ih0 _ _ _ _
      | exact ih1 _ _ _ _ _ _
      | exact LeO.none _
      | refine LeO.ite ?_ ?_
      | refine LeO.bind ?_ (fun _ => ?_)
    · intro y0 y1 y2 y3 y4 y5
      unfold part_Legal.j1
      repeat' first
      | (with_reducible exact ih0 _ _ _ _)
      | (with_reducible exact ih1 _ _ _ _ _ _)
      | (with_reducible exact LeO.refl _)
      | (with_reducible exact LeO.none _)
      | (with_reducible refine LeO.ite ?_ ?_)
      | (with_reducible refine LeO.bind ?_ (fun _ => ?_))
      | exact ih0 _ _ _ _
      | exact ih1 _ _ _ _ _ _
      | exact LeO.none _
      | refine LeO.ite ?_ ?_
      | refine LeO.bind ?_ (fun _ => ?_)
theorem part_Legal.mono : ∀ a0 k, LeO (part_Legal.f k a0) (part_Legal.f (k + 1) a0) := by
  intro a0 k
  obtain ⟨ih0, ih1⟩ := part_Legal.mono_l k
  unfold part_Legal.f
  repeat' first
      | (with_reducible exact ih0 _ _ _ _)
      | (with_reducible exact ih1 _ _ _ _ _ _)
      | (with_reducible exact LeO.refl _)
      | (with_reducible exact LeO.none _)
      | (with_reducible refine LeO.ite ?_ ?_)
      | (with_reducible refine LeO.bind ?_ (fun _ => ?_))
      | exact ih0 _ _ _ _
      | exact ih1 _ _ _ _ _ _
      | exact LeO.none _
      | refine LeO.ite ?_ ?_
      | refine LeO.bind ?_ (fun _ => ?_)
set_option maxHeartbeats 8000000 in
set_option maxRecDepth 100000 in
theorem part_Legal.calls (k : Nat) (A0 : Option Addr) (c0 : Nat) (l0 : List Int) (r : Bool) (w : World) (hr0 : Kd.C (Kd.int .i64) w A0 l0.length l0) (hc0 : l0.length ≤ c0) (h : part_Legal.f k l0 = some r) :
    Calls Try.prog 16 #[.slice A0 l0.length c0] w fun e w' => e = .returned (.bool r) ∧ Below w.heap.size w w' := by
  have HR0 := Aside0.mk hr0
  have HC0 := Aside0.mk hc0
  clear hr0 hc0
  have HB := Aside0.mk (Below.refl w.heap.size w)
  have H : (if (l0.length : Int) > 25 then (some false) else (part_Legal.l0 k 0 l0 (l0.length : Int) 0)) = some r := h
  clear h
  by_cases c2 : (l0.length : Int) > 25
  · rw [if_pos c2] at H
    have c2b0 : decide (25 < (l0.length : Int)) = true := decide_eq_true c2
    have c2b1 : decide (25 < l0.length) = true := decide_eq_true (by omega)
    clear c2
    obtain rfl := Option.some.inj H
    go_enter Try.func16, Try.ntmps16
    go_wp2
    go_ret
    exact ⟨by first | rfl | (simp [errW_none, errW_some] <;> rfl) | (simp [*, errW_none, errW_some] <;> rfl), by repeat (first | (with_reducible first | exact HB.out | apply below_alloc | apply pw_below_drewN | apply below_drew1) | exact HB.out)⟩
  · rw [if_neg c2] at H
    have c2b0 : decide (25 < (l0.length : Int)) = false := decide_eq_false c2
    have c2b1 : decide (25 < l0.length) = false := decide_eq_false (by omega)
    clear c2
    have H' := Aside0.mk H
    clear H
    go_enter Try.func16, Try.ntmps16
    go_wp2
    go_loopg [3, 11] k (fun kq v3 v11 w' => ∃ (x3_1 : Int) (x11_1 : Int), v3 = .int .i64 x3_1 ∧ v11 = .int .i64 x11_1 ∧ Aside0 (part_Legal.l0 kq x3_1 l0 (l0.length : Int) x11_1 = some r) ∧ Aside0 (kq ≤ k) ∧ Aside0 (Below w.heap.size w w'))
    case atStart => exact ⟨(0), (0), (by first | rfl | (simp; done) | (simp [*]; done)), (by first | rfl | (simp; done) | (simp [*]; done)), H', ⟨Nat.le_refl _⟩, ⟨by repeat (first | (with_reducible first | exact HB.out | apply below_alloc | apply pw_below_drewN | apply below_drew1) | exact HB.out)⟩⟩
    case round =>
      clear H'
      try clear c1
      try clear c2
      try clear c2b0
      try clear c2b1
      try clear p2
      obtain ⟨x3_1, x11_1, rfl, rfl, HA, HK1, HB⟩ := hrel
      cases gk with
      | zero => exact absurd HA.out (by simp [part_Legal.l0])
      | succ k1 =>
        have H := HA.out
        clear HA
        simp only [part_Legal.l0] at H
        by_cases c3 : x11_1 < (l0.length : Int)
        · rw [if_pos c3] at H
          have c3b0 : decide (x11_1 < (l0.length : Int)) = true := decide_eq_true c3
          clear c3
          by_cases c4 : 0 ≤ x11_1
          · rw [if_pos c4] at H
            have c4b0 : decide (0 ≤ x11_1) = true := decide_eq_true c4
            clear c4
            by_cases c5 : x11_1 < (l0.length : Int)
            · rw [if_pos c5] at H
              have c5b0 : decide (x11_1 < (l0.length : Int)) = true := decide_eq_true c5
              clear c5
              have HC6 := Aside0.mk H
              clear H
              have p114 : 0 ≤ (x11_1 : Int) := of_decide_eq_true (by first | (with_reducible assumption) | assumption)
              have q114 : x11_1 < (l0.length : Int) := of_decide_eq_true (by first | (with_reducible assumption) | assumption)
              obtain ⟨ad114, e114, hx114_0⟩ := Kd.at_int HR0.out x11_1 p114 q114
              cases e114
              (try replace hx114_0 := (HB.out.cell (World.block_lt_of_cell? w _ hx114_0)).trans hx114_0)
              replace p114 := eq_true p114
              replace q114 := eq_true q114
              go_upto_region 7 with (fail)
              go_cut [21] (fun v21 wc => ∃ (kq : Nat) (x21_5 : Bool), v21 = .bool x21_5 ∧ Aside0 (part_Legal.j1 kq x3_1 (rd l0 x11_1) l0 (l0.length : Int) x11_1 x21_5 = some r) ∧ Aside0 (kq ≤ k1) ∧ Aside0 (Below w.heap.size w wc))
              case first =>
                have H := HC6.out
                clear HC6
                by_cases c7 : (rd l0 x11_1) < 0
                · rw [if_pos c7] at H
                  have c7b0 : decide ((rd l0 x11_1) < 0) = true := decide_eq_true c7
                  clear c7
                  (first | rw [c7b0] | (simp only [i64_w, i32_w]; rw [c7b0]) | skip)
                  have H' := Aside0.mk H
                  clear H
                  go_wp2
                  go_meet
                  case rel => exact ⟨_, (true), (by first | rfl | (simp; done) | (simp [*]; done)), H', ⟨by have := HK1.out; first | omega | exact Nat.le_refl _⟩, ⟨by repeat (first | (with_reducible first | exact HB.out | apply below_alloc | apply pw_below_drewN | apply below_drew1) | exact HB.out)⟩⟩
                · rw [if_neg c7] at H
                  have c7b0 : decide ((rd l0 x11_1) < 0) = false := decide_eq_false c7
                  clear c7
                  (first | rw [c7b0] | (simp only [i64_w, i32_w]; rw [c7b0]) | skip)
                  have H' := Aside0.mk H
                  clear H
                  go_wp2
                  go_meet
                  case rel => exact ⟨_, (decide ((rd l0 x11_1) > x3_1)), (by first | rfl | (simp; done) | (simp [*]; done)), H', ⟨by have := HK1.out; first | omega | exact Nat.le_refl _⟩, ⟨by repeat (first | (with_reducible first | exact HB.out | apply below_alloc | apply pw_below_drewN | apply below_drew1) | exact HB.out)⟩⟩
              case rest =>
                clear HC6
                try clear c1
                try clear p1
                try clear q1
                try clear hx1
                try clear c2
                try clear c2b0
                try clear c2b1
                try clear p2
                try clear c3
                try clear c3b0
                try clear c4
                try clear c4b0
                try clear c5
                try clear c5b0
                try clear c7
                try clear c7b0
                try clear hx114_0
                try clear p114
                try clear p2
                try clear q114
                obtain ⟨kq, x21_5, rfl, HA, HJ5, HB⟩ := hcut
                cases kq with
                | zero => exact absurd HA.out (by simp [part_Legal.j1])
                | succ kj5 =>
                  have H := HA.out
                  clear HA
                  simp only [part_Legal.j1] at H
                  by_cases c8 : x21_5 = true
                  · subst c8
                    have H1 : (some false) = some r := by rw [if_pos rfl] at H; exact H
                    clear H
                    have H := H1
                    clear H1
                    obtain rfl := Option.some.inj H
                    go_wp2
                    go_ret
                    exact ⟨by first | rfl | (simp [errW_none, errW_some] <;> rfl) | (simp [*, errW_none, errW_some] <;> rfl), by repeat (first | (with_reducible first | exact HB.out | apply below_alloc | apply pw_below_drewN | apply below_drew1) | exact HB.out)⟩
                  · replace c8 := Bool.eq_false_iff.mpr c8
                    subst c8
                    have H1 : (part_Legal.l0 kj5 (mx x3_1 (wrap64 ((rd l0 x11_1) + 1))) l0 (l0.length : Int) (wrap64 (x11_1 + 1))) = some r := by rw [if_neg (show ¬ (false = true) by decide)] at H; exact H
                    clear H
                    have H := H1
                    clear H1
                    obtain ⟨ji9, hji9⟩ : ∃ j_ : Int, (mx x3_1 (wrap64 ((rd l0 x11_1) + 1))) = j_ := ⟨_, rfl⟩
                    replace H : (part_Legal.l0 kj5 ji9 l0 (l0.length : Int) (wrap64 (x11_1 + 1))) = some r := by first | (rw [hji9] at H; exact H) | (simp only [hji9] at H ⊢; exact H)
                    have hji9_ : (if x3_1 < (wrap64 ((rd l0 x11_1) + 1)) then (wrap64 ((rd l0 x11_1) + 1)) else x3_1) = ji9 := hji9
                    have H' := Aside0.mk H
                    clear H
                    go_wp2
                    go_roundg kj5
                    case measure => have := HK1.out; have := HJ5.out; omega
                    case rel => exact ⟨(ji9), (wrap64 (x11_1 + 1)), (by first | rfl | (simp; done) | (simp only [← hji9] <;> (first | rfl | simp)) | (simp [*]; done)), (by first | rfl | (simp; done) | (simp [*]; done)), H', ⟨by have := HK1.out; have := HJ5.out; omega⟩, ⟨by repeat (first | (with_reducible first | exact HB.out | apply below_alloc | apply pw_below_drewN | apply below_drew1) | exact HB.out)⟩⟩
            · rw [if_neg c5] at H
              exact absurd H (by simp)
          · rw [if_neg c4] at H
            exact absurd H (by simp)
        · rw [if_neg c3] at H
          have c3b0 : decide (x11_1 < (l0.length : Int)) = false := decide_eq_false c3
          clear c3
          obtain rfl := Option.some.inj H
          go_wp2
          go_ret
          exact ⟨by first | rfl | (simp [errW_none, errW_some] <;> rfl) | (simp [*, errW_none, errW_some] <;> rfl), by repeat (first | (with_reducible first | exact HB.out | apply below_alloc | apply pw_below_drewN | apply below_drew1) | exact HB.out)⟩
section
open Go.Proofs.YtpcnpmcknknfcaaW.Mine
theorem ev_succ {α : Type} {g : Nat → Option α} {r : α} (h : Ev (fun k => g (k + 1)) r) : Ev g r := Ev.step (fun _ => rfl) h
theorem ev_some {α : Type} {r r' : α} (h : r = r') : Ev (fun _ => some r) r' := by subst h; exact Ev.now r
theorem ev_pos {α : Type} {c : Prop} [Decidable c] {f g : Nat → Option α} {r : α} (h : c) (e : Ev f r) : Ev (fun k => if c then f k else g k) r := by simp only [h, if_true]; exact e
theorem ev_neg {α : Type} {c : Prop} [Decidable c] {f g : Nat → Option α} {r : α} (h : ¬ c) (e : Ev g r) : Ev (fun k => if c then f k else g k) r := by simp only [h, if_false]; exact e
theorem wr {i : Int} (h0 : -9223372036854775808 ≤ i + 1) (h : i + 1 ≤ 9223372036854775807) : wrap64 (i + 1) = i + 1 := by unfold wrap64; omega
theorem rd_at (l : List Int) (i : Nat) (h : i < l.length) : rd l (i : Int) = l[i] := by
  unfold rd; rw [Int.toNat_natCast, List.getD_eq_getElem?_getD, List.getElem?_eq_getElem h]; rfl
theorem usedF_snoc (u : Int) (a : List Int) (x : Int) : usedF u (a ++ [x]) = max (usedF u a) (x + 1) := by simp [usedF]
theorem mx_max (a b : Int) : mx a b = max a b := by unfold mx; simp only [Int.max_def]; split <;> split <;> omega
theorem legal_l0 (a : List Int) (ha : a.length ≤ 25) (d : Nat) : ∀ (i : Nat) (u : Int), a.length - i = d → i ≤ a.length → 0 ≤ u → u ≤ i →
    Ev (fun k => part_Legal.l0 k u a (a.length : Int) (i : Int)) (legalF u (a.drop i)) := by
  induction d with
  | zero =>
    intro i u hd hi h0 hu
    refine ev_succ ?_
    simp only [part_Legal.l0]
    rw [List.drop_eq_nil_of_le (by omega)]
    exact ev_neg (by omega) (ev_some rfl)
  | succ d ih =>
    intro i u hd hi h0 hu
    have hlt : i < a.length := by omega
    refine ev_succ ?_
    simp only [part_Legal.l0]
    rw [rd_at a i hlt, List.drop_eq_getElem_cons hlt]
    refine ev_pos (by omega) (ev_pos (by omega) (ev_pos (by omega) ?_))
    simp only [legalF]
    by_cases h1 : a[i] < 0
    · refine ev_pos h1 ?_
      rw [decide_eq_false (p := (0 ≤ a[i] ∧ a[i] ≤ u)) (by omega), Bool.false_and]
      refine ev_succ ?_
      simp only [part_Legal.j1]
      exact ev_pos trivial (ev_some rfl)
    · refine ev_neg h1 ?_
      by_cases h2 : a[i] > u
      · rw [decide_eq_false (p := (0 ≤ a[i] ∧ a[i] ≤ u)) (by omega), Bool.false_and, decide_eq_true h2]
        refine ev_succ ?_
        simp only [part_Legal.j1]
        exact ev_pos trivial (ev_some rfl)
      · rw [decide_eq_true (p := (0 ≤ a[i] ∧ a[i] ≤ u)) (by omega), Bool.true_and, decide_eq_false h2]
        refine ev_succ ?_
        simp only [part_Legal.j1]
        refine ev_neg (by decide) ?_
        rw [wr (by omega) (by omega), wr (by omega) (by omega), mx_max]
        exact ih (i + 1) (max u (a[i] + 1)) (by omega) (by omega) (by omega) (by omega)
theorem legal_ev (a : List Int) : Ev (fun k => part_Legal.f k a) (decide (a.length ≤ 25) && legalF 0 a) := by
  unfold part_Legal.f
  by_cases h : (a.length : Int) > 25
  · rw [decide_eq_false (p := a.length ≤ 25) (by omega), Bool.false_and]
    exact ev_pos h (ev_some rfl)
  · rw [decide_eq_true (p := a.length ≤ 25) (by omega), Bool.true_and]
    refine ev_neg h ?_
    have := legal_l0 a (by omega) a.length 0 0 (by omega) (by omega) (by omega) (by omega)
    simpa using this
theorem legal_take : ∀ (l : List Int) (u : Int) (k : Nat), legalF u l = true → k < l.length → 0 ≤ u → legalF u (l.take k) = true ∧ 0 ≤ rd l k ∧ rd l k ≤ usedF u (l.take k) ∧ usedF u (l.take (k + 1)) = mx2 (usedF u (l.take k)) (rd l k + 1)
  | [], _, _, _, h, _ => absurd h (by simp)
  | x :: r, u, 0, hl, _, h0 => by
    simp only [legalF, Bool.and_eq_true, decide_eq_true_eq] at hl
    refine ⟨rfl, ?_, ?_, ?_⟩ <;> simp [rd, usedF, mx2] <;> omega
  | x :: r, u, k + 1, hl, h, h0 => by
    simp only [legalF, Bool.and_eq_true, decide_eq_true_eq] at hl
    have e : rd (x :: r) ((k + 1 : Nat) : Int) = rd r (k : Int) := by unfold rd; rw [Int.toNat_natCast, Int.toNat_natCast]; simp
    obtain ⟨h1, h2, h3, h4⟩ := legal_take r (max u (x + 1)) k hl.2 (by simpa using h) (by omega)
    rw [e]
    refine ⟨?_, h2, ?_, ?_⟩
    · simp only [List.take_succ_cons, legalF, h1, Bool.and_true, decide_eq_true_eq]; exact hl.1
    · simpa [usedF] using h3
    · simpa [usedF] using h4
end


/-! ### slices_Max_int_int: function 57 -/
section
open Go
open Go.Proofs.YtpcnpmcknknfcaaW.Mine
attribute [local go_sem 2000] max_ints2
/-- the greatest -/
def slices_Max_int_int.top (l : List Int) : Int := l.foldl mx2 (rd l 0)
theorem slices_Max_int_int.top_snoc (l : List Int) (k : Nat) (h : k < l.length) (h0 : 0 < k) : (l.take (k + 1)).foldl mx2 (rd l 0) = mx2 ((l.take k).foldl mx2 (rd l 0)) (rd l k) := by
  rw [List.take_succ_eq_append_getElem h, List.foldl_append]
  simp only [List.foldl_cons, List.foldl_nil]
  congr 1
  unfold rd; rw [Int.toNat_natCast, List.getD_eq_getElem?_getD, List.getElem?_eq_getElem h]; rfl
set_option maxHeartbeats 1000000 in
theorem slices_Max_int_int.walk (A0 : Option Addr) (c0 : Nat) (l : List Int) (w : World) (hr0 : Kd.C (Kd.int .i64) w A0 l.length l) (hc0 : l.length ≤ c0) (hl : 0 < l.length) :
    Calls Try.prog 57 #[.slice A0 l.length c0] w fun e w' => e = .returned (.int .i64 (slices_Max_int_int.top l)) ∧ w' = w := by
  have hm0 := hr0.2.1
  have HR := Aside0.mk hr0
  clear hr0
  obtain ⟨ad, rfl, hx⟩ := Kd.at_int HR.out (0 : Int) (by omega) (by omega)
  have hx0 : w.cell? ad = some (.int .i64 (rd l 0)) := by simpa [Addr.add] using hx
  clear hx
  have hlt1 : decide ((l.length : Int) < 1) = false := decide_eq_false (by omega)
  go_enter Try.func57, Try.ntmps57
  go_wp2
  go_loop [3, 4] (fun m i => ∃ k : Nat, 1 ≤ k ∧ k ≤ l.length ∧ i = .int .i64 k ∧ m = .int .i64 ((l.take k).foldl mx2 (rd l 0))) (fun _ i => l.length - (intOf i).toNat)
  case atStart =>
    refine ⟨1, by omega, by omega, rfl, ?_⟩
    match l, hl with
    | x :: r, _ => simp [rd, mx2]
  case round =>
    obtain ⟨k, hk1, hk, rfl, rfl⟩ := hrel
    by_cases hlt : k < l.length
    · obtain ⟨ad1, he1, hy⟩ := Kd.at_int HR.out (k : Int) (by omega) (by omega)
      injection he1 with he1
      subst he1
      rw [Int.toNat_natCast] at hy
      have HT := Aside0.mk (slices_Max_int_int.top_snoc l k hlt (by omega))
      generalize (l.take k).foldl mx2 (rd l 0) = m at *
      generalize rd l k = y at *
      go_wp2
      go_round
      case rel => exact ⟨k + 1, by omega, by omega, by go_num, by rw [HT.out]⟩
      case measure => simp [intOf]; omega
    · obtain rfl : k = l.length := by omega
      rw [List.take_length]
      go_wp2
      go_ret
      exact ⟨rfl, rfl⟩
def slices_Max_int_int.f (l : List Int) : Option Int := if 0 < l.length then some (slices_Max_int_int.top l) else none
theorem slices_Max_int_int.calls (A0 : Option Addr) (c0 : Nat) (l0 : List Int) (r : Int) (w : World) (hr0 : Kd.C (Kd.int .i64) w A0 l0.length l0) (hc0 : l0.length ≤ c0) (h : slices_Max_int_int.f l0 = some r) :
    Calls Try.prog 57 #[.slice A0 l0.length c0] w fun e w' => e = .returned (.int .i64 r) ∧ Drawn0 w w' := by
  unfold slices_Max_int_int.f at h
  split at h
  next hl =>
    injection h with h
    subst h
    exact (slices_Max_int_int.walk A0 c0 l0 w hr0 hc0 hl).mono fun e w' ⟨a, b⟩ => ⟨a, b ▸ Drawn0.refl w⟩
  next => cases h
end


/-! ### part_Size: function 19 -/
def part_Size.j0 : Nat → List Int → Bool → Option (Int)
  | 0, _, _ => none
  | k + 1, x0, x10 => if x10 = true then (some 0) else ((slices_Max_int_int.f x0).bind fun t116 => (some (wrap64 (t116 + 1))))
def part_Size.f (k : Nat) (l0 : List Int) : Option (Int) := (part_Legal.f k l0).bind fun t115 => (if t115 = true then (part_Size.j0 k l0 ((l0.length : Int) == 0)) else (part_Size.j0 k l0 true))
theorem part_Size.mono_l : ∀ k, (∀ y0 y1, LeO (part_Size.j0 k y0 y1) (part_Size.j0 (k + 1) y0 y1))
  | 0 => fun _ _ r h => by simp [part_Size.j0] at h
  | k + 1 => by
    have ih0 := part_Size.mono_l k
    · intro y0 y1
      unfold part_Size.j0
      repeat' first
      | (with_reducible exact ih0 _ _)
      | (with_reducible exact part_Legal.mono _ _)
      | (with_reducible exact LeO.refl _)
      | (with_reducible exact LeO.none _)
      | (with_reducible refine LeO.ite ?_ ?_)
      | (with_reducible refine LeO.bind ?_ (fun _ => ?_))
      | exact ih0 _ _
      | exact part_Legal.mono _ _
      | exact LeO.none _
      | refine LeO.ite ?_ ?_
      | refine LeO.bind ?_ (fun _ => ?_)
theorem part_Size.mono : ∀ a0 k, LeO (part_Size.f k a0) (part_Size.f (k + 1) a0) := by
  intro a0 k
  have ih0 := part_Size.mono_l k
  unfold part_Size.f
  repeat' first
      | (with_reducible exact ih0 _ _)
      | (with_reducible exact part_Legal.mono _ _)
      | (with_reducible exact LeO.refl _)
      | (with_reducible exact LeO.none _)
      | (with_reducible refine LeO.ite ?_ ?_)
      | (with_reducible refine LeO.bind ?_ (fun _ => ?_))
      | exact ih0 _ _
      | exact part_Legal.mono _ _
      | exact LeO.none _
      | refine LeO.ite ?_ ?_
      | refine LeO.bind ?_ (fun _ => ?_)
set_option maxHeartbeats 8000000 in
set_option maxRecDepth 100000 in
theorem part_Size.calls (k : Nat) (A0 : Option Addr) (c0 : Nat) (l0 : List Int) (r : Int) (w : World) (hr0 : Kd.C (Kd.int .i64) w A0 l0.length l0) (hc0 : l0.length ≤ c0) (h : part_Size.f k l0 = some r) :
    Calls Try.prog 19 #[.slice A0 l0.length c0] w fun e w' => e = .returned (.int .i64 r) ∧ Below w.heap.size w w' := by
  have HR0 := Aside0.mk hr0
  have HC0 := Aside0.mk hc0
  clear hr0 hc0
  have HB := Aside0.mk (Below.refl w.heap.size w)
  have H : ((part_Legal.f k l0).bind fun t115 => (if t115 = true then (part_Size.j0 k l0 ((l0.length : Int) == 0)) else (part_Size.j0 k l0 true))) = some r := h
  clear h
  have HC2 := Aside0.mk H
  clear H
  go_enter Try.func19, Try.ntmps19
  go_upto_region 1 with (fail)
  go_cut [10] (fun v10 wc => ∃ (kq : Nat) (x10_1 : Bool), v10 = .bool x10_1 ∧ Aside0 (part_Size.j0 kq l0 x10_1 = some r) ∧ Aside0 (kq ≤ k) ∧ Aside0 (Below w.heap.size w wc))
  case first =>
    have H := HC2.out
    clear HC2
    replace H := Option.bind_eq_some_iff.mp H
    obtain ⟨t115, A30, H⟩ := H
    replace H : (if t115 = true then (part_Size.j0 k l0 ((l0.length : Int) == 0)) else (part_Size.j0 k l0 true)) = some r := H
    have A3 := Aside0.mk A30
    clear A30
    by_cases c4 : t115 = true
    · subst c4
      have H1 : (part_Size.j0 k l0 ((l0.length : Int) == 0)) = some r := by rw [if_pos rfl] at H; exact H
      clear H
      have H := H1
      clear H1
      have H' := Aside0.mk H
      clear H
      go_wp2_with (first | ((with_reducible refine gate_callee (f := 16) rfl ?_); refine goesL_ (some 4) rfl rfl Try.func16 (by kernel_rfl) rfl #[.slice A0 l0.length c0] rfl (by (try simp only [List.map_toArray, List.map_cons, List.map_nil]); first | done | rfl | (simp only [List.length_drop, List.length_take]; rfl)) ?_; (with_reducible refine (part_Legal.calls k _ _ l0 true _ ?side1 ?side2 A3.out).mono ?_); (case side1 => repeat (first | exact (Kd.C_below HR0.out HB.out) | (with_reducible refine Kd.C_alloc ?_ _) | (with_reducible refine Kd.C_drewN ?_ _) | (with_reducible refine Kd.C_drew ?_))); (case side2 => exact HC0.out); rintro e w5 ⟨rfl, hb⟩; refine ⟨_, rfl, ?_⟩; have n0_ := Aside0.mk (below_step (by repeat (first | (with_reducible first | exact HB.out | apply below_alloc | apply pw_below_drewN | apply below_drew1) | exact HB.out)) hb); clear HB; have HB := n0_; clear n0_; (try clear hb); (try clear hb2); (try clear hk); (try clear hi)))
      go_meet
      case rel => exact ⟨_, (((l0.length : Int) == 0)), (by first | rfl | (simp; done) | (simp [*]; done)), H', ⟨by first | omega | exact Nat.le_refl _⟩, ⟨by repeat (first | (with_reducible first | exact HB.out | apply below_alloc | apply pw_below_drewN | apply below_drew1) | exact HB.out)⟩⟩
    · replace c4 := Bool.eq_false_iff.mpr c4
      subst c4
      have H1 : (part_Size.j0 k l0 true) = some r := by rw [if_neg (show ¬ (false = true) by decide)] at H; exact H
      clear H
      have H := H1
      clear H1
      have H' := Aside0.mk H
      clear H
      go_wp2_with (first | ((with_reducible refine gate_callee (f := 16) rfl ?_); refine goesL_ (some 4) rfl rfl Try.func16 (by kernel_rfl) rfl #[.slice A0 l0.length c0] rfl (by (try simp only [List.map_toArray, List.map_cons, List.map_nil]); first | done | rfl | (simp only [List.length_drop, List.length_take]; rfl)) ?_; (with_reducible refine (part_Legal.calls k _ _ l0 false _ ?side1 ?side2 A3.out).mono ?_); (case side1 => repeat (first | exact (Kd.C_below HR0.out HB.out) | (with_reducible refine Kd.C_alloc ?_ _) | (with_reducible refine Kd.C_drewN ?_ _) | (with_reducible refine Kd.C_drew ?_))); (case side2 => exact HC0.out); rintro e w6 ⟨rfl, hb⟩; refine ⟨_, rfl, ?_⟩; have n0_ := Aside0.mk (below_step (by repeat (first | (with_reducible first | exact HB.out | apply below_alloc | apply pw_below_drewN | apply below_drew1) | exact HB.out)) hb); clear HB; have HB := n0_; clear n0_; (try clear hb); (try clear hb2); (try clear hk); (try clear hi)))
      go_meet
      case rel => exact ⟨_, (true), (by first | rfl | (simp; done) | (simp [*]; done)), H', ⟨by first | omega | exact Nat.le_refl _⟩, ⟨by repeat (first | (with_reducible first | exact HB.out | apply below_alloc | apply pw_below_drewN | apply below_drew1) | exact HB.out)⟩⟩
  case rest =>
    clear HC2
    try clear c1
    try clear p2
    try clear c4
    obtain ⟨kq, x10_1, rfl, HA, HJ1, HB⟩ := hcut
    cases kq with
    | zero => exact absurd HA.out (by simp [part_Size.j0])
    | succ kj1 =>
      have H := HA.out
      clear HA
      simp only [part_Size.j0] at H
      by_cases c7 : x10_1 = true
      · subst c7
        have H1 : (some 0) = some r := by rw [if_pos rfl] at H; exact H
        clear H
        have H := H1
        clear H1
        obtain rfl := Option.some.inj H
        go_wp2
        go_ret
        exact ⟨by first | rfl | (simp [errW_none, errW_some] <;> rfl) | (simp [*, errW_none, errW_some] <;> rfl), by repeat (first | (with_reducible first | exact HB.out | apply below_alloc | apply pw_below_drewN | apply below_drew1) | exact HB.out)⟩
      · replace c7 := Bool.eq_false_iff.mpr c7
        subst c7
        have H1 : ((slices_Max_int_int.f l0).bind fun t116 => (some (wrap64 (t116 + 1)))) = some r := by rw [if_neg (show ¬ (false = true) by decide)] at H; exact H
        clear H
        have H := H1
        clear H1
        replace H := Option.bind_eq_some_iff.mp H
        obtain ⟨t116, A80, H⟩ := H
        replace H : (some (wrap64 (t116 + 1))) = some r := H
        have A8 := Aside0.mk A80
        clear A80
        obtain rfl := Option.some.inj H
        go_wp2_with (first | ((with_reducible refine gate_callee (f := 57) rfl ?_); refine goesL_ (some 12) rfl rfl Try.func57 (by kernel_rfl) rfl #[.slice A0 l0.length c0] rfl (by (try simp only [List.map_toArray, List.map_cons, List.map_nil]); first | done | rfl | (simp only [List.length_drop, List.length_take]; rfl)) ?_; (with_reducible refine (slices_Max_int_int.calls _ _ l0 t116 _ ?side1 ?side2 A8.out).mono ?_); (case side1 => repeat (first | exact (Kd.C_below HR0.out HB.out) | (with_reducible refine Kd.C_alloc ?_ _) | (with_reducible refine Kd.C_drewN ?_ _) | (with_reducible refine Kd.C_drew ?_))); (case side2 => exact HC0.out); rintro e w' ⟨rfl, ⟨nd, rfl⟩⟩; refine ⟨_, rfl, ?_⟩))
        go_ret
        exact ⟨by first | rfl | (simp [errW_none, errW_some] <;> rfl) | (simp [*, errW_none, errW_some] <;> rfl), by repeat (first | (with_reducible first | exact HB.out | apply below_alloc | apply pw_below_drewN | apply below_drew1) | exact HB.out)⟩
section
open Go.Proofs.YtpcnpmcknknfcaaW.Mine
/-! legal rows: every number below the number of blocks is there -/
theorem used_ge : ∀ (a : List Int) (u : Int), u ≤ usedF u a
  | [], _ => Int.le_refl _
  | x :: r, u => by
    have := used_ge r (max u (x + 1))
    simp only [usedF, List.foldl_cons] at *
    omega
theorem used_mem : ∀ (a : List Int) (u : Int) (x : Int), x ∈ a → x + 1 ≤ usedF u a
  | [], _, _, h => by cases h
  | y :: r, u, x, h => by
    rcases List.mem_cons.1 h with h | h
    · have := used_ge r (max u (y + 1))
      subst h
      simp only [usedF, List.foldl_cons] at *
      omega
    · exact used_mem r _ x h
theorem legal_mem : ∀ (a : List Int) (u : Int), legalF u a = true → ∀ x ∈ a, 0 ≤ x
  | [], _, _, _, h => by cases h
  | y :: r, u, hl, x, h => by
    simp only [legalF, Bool.and_eq_true, decide_eq_true_eq] at hl
    rcases List.mem_cons.1 h with h | h
    · rw [h]; exact hl.1.1
    · exact legal_mem r _ hl.2 x h
theorem legal_all : ∀ (a : List Int) (u : Int), legalF u a = true → 0 ≤ u → ∀ v, u ≤ v → v < usedF u a → v ∈ a
  | [], u, _, _, v, h1, h2 => by simp only [usedF, List.foldl_nil] at h2; omega
  | y :: r, u, hl, h0, v, h1, h2 => by
    simp only [legalF, Bool.and_eq_true, decide_eq_true_eq] at hl
    by_cases hv : v = y
    · rw [hv]; exact List.mem_cons_self
    · refine List.mem_cons_of_mem _ (legal_all r _ hl.2 (by omega) v (by omega) ?_)
      simpa [usedF] using h2
theorem used_len : ∀ (a : List Int) (u : Int), legalF u a = true → usedF u a ≤ u + a.length
  | [], u, _ => by simp [usedF]
  | y :: r, u, hl => by
    simp only [legalF, Bool.and_eq_true, decide_eq_true_eq] at hl
    have := used_len r _ hl.2
    simp only [usedF, List.foldl_cons, List.length_cons] at *
    omega
theorem top_used (a : List Int) (h : 0 < a.length) (hn : ∀ x ∈ a, 0 ≤ x) : slices_Max_int_int.top a + 1 = usedF 0 a := by
  have key : ∀ (l : List Int) (m : Int), (l.foldl mx2 m) + 1 = usedF (m + 1) l := by
    intro l
    induction l with
    | nil => intro m; rfl
    | cons x r ih =>
      intro m
      have := ih (mx2 m x)
      simp only [usedF, List.foldl_cons] at *
      rw [this]
      congr 1
      unfold mx2
      omega
  match a, h with
  | x :: r, _ =>
    unfold slices_Max_int_int.top
    have hr : rd (x :: r) 0 = x := rfl
    have hx := hn x List.mem_cons_self
    rw [key, hr]
    simp only [usedF, List.foldl_cons]
    congr 1
    omega
theorem size_ev (a : List Int) (hl : legalF 0 a = true) (h25 : a.length ≤ 25) : Ev (fun k => part_Size.f k a) (usedF 0 a) := by
  unfold part_Size.f
  have h := legal_ev a
  rw [hl, decide_eq_true h25] at h
  refine Ev.bind h (ev_pos rfl ?_)
  refine ev_succ ?_
  simp only [part_Size.j0]
  by_cases h0 : a.length = 0
  · obtain rfl := List.eq_nil_of_length_eq_zero h0
    exact ev_pos rfl (ev_some rfl)
  · refine ev_neg (by simp; intro e; exact h0 (by rw [e]; rfl)) ?_
    have hm := legal_mem a 0 hl
    have ht := top_used a (by omega) hm
    have hu := used_len a 0 hl
    have hg := used_ge a 0
    have hf : slices_Max_int_int.f a = some (slices_Max_int_int.top a) := by unfold slices_Max_int_int.f; rw [if_pos (by omega)]
    rw [hf]
    simp only [Option.bind_some]
    refine ev_some ?_
    rw [wr (by omega) (by omega), ht]
theorem legal_k (a : List Int) : ∃ k, part_Legal.f k a = some (decide (a.length ≤ 25) && legalF 0 a) := Ev.rounds (legal_ev a)
theorem size_k (a : List Int) (hl : legalF 0 a = true) (h25 : a.length ≤ 25) : ∃ k, part_Size.f k a = some (usedF 0 a) := Ev.rounds (size_ev a hl h25)
end


/-! ### part_fits: function 71 -/
def part_fits.f (a0 : Int) : Option (Bool) := if a0 ≥ 0 then (some (decide (a0 ≤ 25))) else (some false)
set_option maxHeartbeats 8000000 in
set_option maxRecDepth 100000 in
theorem part_fits.calls (a0 : Int) (r : Bool) (w : World) (h : part_fits.f a0 = some r) :
    Calls Try.prog 71 #[.int .i64 a0] w fun e w' => e = .returned (.bool r) ∧ Drawn0 w w' := by
  have H : (if a0 ≥ 0 then (some (decide (a0 ≤ 25))) else (some false)) = some r := h
  clear h
  by_cases c2 : a0 ≥ 0
  · rw [if_pos c2] at H
    have c2b0 : decide (0 ≤ a0) = true := decide_eq_true c2
    clear c2
    obtain rfl := Option.some.inj H
    go_enter Try.func71, Try.ntmps71
    go_wp2
    go_ret
    exact ⟨by first | rfl | (simp; done) | (simp [*]; done), by repeat (first | exact Drawn0.refl _ | apply Drawn0.step)⟩
  · rw [if_neg c2] at H
    have c2b0 : decide (0 ≤ a0) = false := decide_eq_false c2
    clear c2
    obtain rfl := Option.some.inj H
    go_enter Try.func71, Try.ntmps71
    go_wp2
    go_ret
    exact ⟨by first | rfl | (simp; done) | (simp [*]; done), by repeat (first | exact Drawn0.refl _ | apply Drawn0.step)⟩

end Go.Proofs.Ytpcnpmcknknfcaa.PPbo
