/- A text written by my program wip/gen/p2.py out of the translation and of my foreign texts; not trusted: Lean checks it. -/
import Derived.Test.YtpcnpmcknknfcaaShelf
import Derived.Test.YtpcnpmcknknfcaaPLshx0
import Derived.Test.YtpcnpmcknknfcaaPLshx1
namespace Go.Proofs.Ytpcnpmcknknfcaa.PLsh
open Go.RowKit Go.Proofs.YtpcnpmcknknfcaaW.PrintWords Go.Proofs.YtpcnpmcknknfcaaW.PrintLast Go.Proofs.YtpcnpmcknknfcaaW.PrintMore
attribute [local go_sem] max2_int min2_int max_two min_two max_three min_three max_four min_four   -- for this text's walks alone
set_option linter.unusedVariables false
set_option linter.unusedSimpArgs false

attribute [local go_sem high] eqA40
theorem cutlen_ {α : Type} {R : α → List Value → Prop} {sz : Nat} {w : World} {A : Option Addr} {n m : Nat} {xs : List α} (h : m = n) (g : ReadsRow R sz w A m xs) : ReadsRow R sz w A n xs := h ▸ g

/-! ### provostlaw05_Same: function 22 -/
def provostlaw05_Same.l0 : Nat → List (S40) → List (S40) → Int → Option (Bool)
  | 0, _, _, _ => none
  | k + 1, x0, x1, x5 => if x5 < (x0.length : Int) then (if 0 ≤ x5 then (if x5 < (x1.length : Int) then (if (!(((rd_T40 x0 x5).f0) == ((rd_T40 x1 x5).f0)) || (!((((rd_T40 x0 x5).f1).toList) == (((rd_T40 x1 x5).f1).toList)) || (!(((rd_T40 x0 x5).f2) == ((rd_T40 x1 x5).f2)) || (!(((rd_T40 x0 x5).f3) == ((rd_T40 x1 x5).f3)) || (!(((rd_T40 x0 x5).f4) == ((rd_T40 x1 x5).f4))))))) = true then (some false) else (provostlaw05_Same.l0 k x0 x1 (wrap64 (x5 + 1)))) else (none)) else (none)) else (some true)
def provostlaw05_Same.f (k : Nat) (l0 : List (S40)) (l1 : List (S40)) : Option (Bool) := if (l0.length : Int) = (l1.length : Int) then (provostlaw05_Same.l0 k l0 l1 0) else (some false)
theorem provostlaw05_Same.mono_l : ∀ k, (∀ y0 y1 y2, LeO (provostlaw05_Same.l0 k y0 y1 y2) (provostlaw05_Same.l0 (k + 1) y0 y1 y2))
  | 0 => fun _ _ _ r h => by simp [provostlaw05_Same.l0] at h
  | k + 1 => by
    have ih0 := provostlaw05_Same.mono_l k
    · intro y0 y1 y2
      unfold provostlaw05_Same.l0
      repeat' first
      | (with_reducible exact ih0 _ _ _)
      | (with_reducible exact LeO.refl _)
      | (with_reducible exact LeO.none _)
      | (with_reducible refine LeO.ite ?_ ?_)
      | (with_reducible refine LeO.bind ?_ (fun _ => ?_))
      | exact ih0 _ _ _
      | exact LeO.none _
      | refine LeO.ite ?_ ?_
      | refine LeO.bind ?_ (fun _ => ?_)
theorem provostlaw05_Same.mono : ∀ a0 a1 k, LeO (provostlaw05_Same.f k a0 a1) (provostlaw05_Same.f (k + 1) a0 a1) := by
  intro a0 a1 k
  have ih0 := provostlaw05_Same.mono_l k
  unfold provostlaw05_Same.f
  repeat' first
      | (with_reducible exact ih0 _ _ _)
      | (with_reducible exact LeO.refl _)
      | (with_reducible exact LeO.none _)
      | (with_reducible refine LeO.ite ?_ ?_)
      | (with_reducible refine LeO.bind ?_ (fun _ => ?_))
      | exact ih0 _ _ _
      | exact LeO.none _
      | refine LeO.ite ?_ ?_
      | refine LeO.bind ?_ (fun _ => ?_)
set_option maxHeartbeats 8000000 in
set_option maxRecDepth 100000 in
theorem provostlaw05_Same.calls (k : Nat) (A0 : Option Addr) (c0 : Nat) (l0 : List (S40)) (A1 : Option Addr) (c1 : Nat) (l1 : List (S40)) (r : Bool) (w : World) (hr0 : Kd.C k40 w A0 l0.length l0) (hc0 : l0.length ≤ c0) (hr1 : Kd.C k40 w A1 l1.length l1) (hc1 : l1.length ≤ c1) (h : provostlaw05_Same.f k l0 l1 = some r) :
    Calls Try.prog 22 #[.slice A0 l0.length c0, .slice A1 l1.length c1] w fun e w' => e = .returned (.bool r) ∧ Drawn0 w w' := by
  have hu40 := Try.underlying40
  have HR0 := Aside0.mk hr0
  have HC0 := Aside0.mk hc0
  clear hr0 hc0
  have HR1 := Aside0.mk hr1
  have HC1 := Aside0.mk hc1
  clear hr1 hc1
  have H : (if (l0.length : Int) = (l1.length : Int) then (provostlaw05_Same.l0 k l0 l1 0) else (some false)) = some r := h
  clear h
  by_cases c3 : (l0.length : Int) = (l1.length : Int)
  · rw [if_pos c3] at H
    have c3b0 : ((l0.length : Int) == (l1.length : Int)) = true := beq_iff_eq.mpr c3
    have c3b1 : ((l0.length : Int) != (l1.length : Int)) = false := bne_eq_false_iff_eq.mpr c3
    have c3b2 : (l0.length == l1.length) = true := by first | simpa using c3 | (simp at c3 ⊢; omega)
    clear c3
    have H' := Aside0.mk H
    clear H
    go_enter Try.func22, Try.ntmps22
    go_wp2
    repeat (go_quiet (fail); try go_wp2)
    go_loopg [5] k (fun kq v5 w' => ∃ (x5_1 : Int), v5 = .int .i64 x5_1 ∧ Aside0 (provostlaw05_Same.l0 kq l0 l1 x5_1 = some r) ∧ Aside0 (kq ≤ k) ∧ Drawn0 w w')
    case atStart => exact ⟨(0), (by first | rfl | (simp; done) | (simp [*]; done)), H', ⟨Nat.le_refl _⟩, by repeat (first | exact Drawn0.refl _ | apply Drawn0.step)⟩
    case round =>
      clear H'
      try clear c1
      try clear c2
      try clear p2
      try clear c3
      try clear c3b0
      try clear c3b1
      try clear c3b2
      obtain ⟨x5_1, rfl, HA, HK1, ⟨m1, rfl⟩⟩ := hrel
      cases gk with
      | zero => exact absurd HA.out (by simp [provostlaw05_Same.l0])
      | succ k1 =>
        have H := HA.out
        clear HA
        simp only [provostlaw05_Same.l0] at H
        by_cases c4 : x5_1 < (l0.length : Int)
        · rw [if_pos c4] at H
          have c4b0 : decide (x5_1 < (l0.length : Int)) = true := decide_eq_true c4
          clear c4
          by_cases c5 : 0 ≤ x5_1
          · rw [if_pos c5] at H
            have c5b0 : decide (0 ≤ x5_1) = true := decide_eq_true c5
            clear c5
            by_cases c6 : x5_1 < (l1.length : Int)
            · rw [if_pos c6] at H
              have c6b0 : decide (x5_1 < (l1.length : Int)) = true := decide_eq_true c6
              clear c6
              by_cases c7 : (!(((rd_T40 l0 x5_1).f0) == ((rd_T40 l1 x5_1).f0)) || (!((((rd_T40 l0 x5_1).f1).toList) == (((rd_T40 l1 x5_1).f1).toList)) || (!(((rd_T40 l0 x5_1).f2) == ((rd_T40 l1 x5_1).f2)) || (!(((rd_T40 l0 x5_1).f3) == ((rd_T40 l1 x5_1).f3)) || (!(((rd_T40 l0 x5_1).f4) == ((rd_T40 l1 x5_1).f4))))))) = true
              · rw [if_pos c7] at H
                have c7b0 : (!(((rd_T40 l0 x5_1).f0) == ((rd_T40 l1 x5_1).f0)) || (!((((rd_T40 l0 x5_1).f1).toList) == (((rd_T40 l1 x5_1).f1).toList)) || (!(((rd_T40 l0 x5_1).f2) == ((rd_T40 l1 x5_1).f2)) || (!(((rd_T40 l0 x5_1).f3) == ((rd_T40 l1 x5_1).f3)) || (!(((rd_T40 l0 x5_1).f4) == ((rd_T40 l1 x5_1).f4))))))) = true := c7
                clear c7
                obtain rfl := Option.some.inj H
                have p101 : 0 ≤ (x5_1 : Int) := of_decide_eq_true (by first | (with_reducible assumption) | assumption)
                have q101 : x5_1 < (l0.length : Int) := of_decide_eq_true (by first | (with_reducible assumption) | assumption)
                obtain ⟨ad101, e101, hx101_0, hx101_1, hx101_2, hx101_3, hx101_4⟩ := at_T40 HR0.out x5_1 p101 q101
                cases e101
                replace p101 := eq_true p101
                replace q101 := eq_true q101
                have p102 : 0 ≤ (x5_1 : Int) := of_decide_eq_true (by first | (with_reducible assumption) | assumption)
                have q102 : x5_1 < (l1.length : Int) := of_decide_eq_true (by first | (with_reducible assumption) | assumption)
                obtain ⟨ad102, e102, hx102_0, hx102_1, hx102_2, hx102_3, hx102_4⟩ := at_T40 HR1.out x5_1 p102 q102
                cases e102
                replace p102 := eq_true p102
                replace q102 := eq_true q102
                go_wp2
                repeat (go_quiet (fail); try go_wp2)
                go_ret
                exact ⟨by first | rfl | (simp; done) | (simp [*]; done), by repeat (first | exact Drawn0.refl _ | apply Drawn0.step)⟩
              · rw [if_neg c7] at H
                have c7b0 : (!(((rd_T40 l0 x5_1).f0) == ((rd_T40 l1 x5_1).f0)) || (!((((rd_T40 l0 x5_1).f1).toList) == (((rd_T40 l1 x5_1).f1).toList)) || (!(((rd_T40 l0 x5_1).f2) == ((rd_T40 l1 x5_1).f2)) || (!(((rd_T40 l0 x5_1).f3) == ((rd_T40 l1 x5_1).f3)) || (!(((rd_T40 l0 x5_1).f4) == ((rd_T40 l1 x5_1).f4))))))) = false := by simpa using c7
                clear c7
                have H' := Aside0.mk H
                clear H
                have p101 : 0 ≤ (x5_1 : Int) := of_decide_eq_true (by first | (with_reducible assumption) | assumption)
                have q101 : x5_1 < (l0.length : Int) := of_decide_eq_true (by first | (with_reducible assumption) | assumption)
                obtain ⟨ad101, e101, hx101_0, hx101_1, hx101_2, hx101_3, hx101_4⟩ := at_T40 HR0.out x5_1 p101 q101
                cases e101
                replace p101 := eq_true p101
                replace q101 := eq_true q101
                have p102 : 0 ≤ (x5_1 : Int) := of_decide_eq_true (by first | (with_reducible assumption) | assumption)
                have q102 : x5_1 < (l1.length : Int) := of_decide_eq_true (by first | (with_reducible assumption) | assumption)
                obtain ⟨ad102, e102, hx102_0, hx102_1, hx102_2, hx102_3, hx102_4⟩ := at_T40 HR1.out x5_1 p102 q102
                cases e102
                replace p102 := eq_true p102
                replace q102 := eq_true q102
                go_wp2
                repeat (go_quiet (fail); try go_wp2)
                go_roundg k1
                case measure => have := HK1.out; omega
                case rel => exact ⟨(wrap64 (x5_1 + 1)), (by first | rfl | (simp; done) | (simp [*]; done)), H', ⟨by have := HK1.out; omega⟩, by repeat (first | exact Drawn0.refl _ | apply Drawn0.step)⟩
            · rw [if_neg c6] at H
              exact absurd H (by simp)
          · rw [if_neg c5] at H
            exact absurd H (by simp)
        · rw [if_neg c4] at H
          have c4b0 : decide (x5_1 < (l0.length : Int)) = false := decide_eq_false c4
          clear c4
          obtain rfl := Option.some.inj H
          go_wp2
          repeat (go_quiet (fail); try go_wp2)
          go_ret
          exact ⟨by first | rfl | (simp; done) | (simp [*]; done), by repeat (first | exact Drawn0.refl _ | apply Drawn0.step)⟩
  · rw [if_neg c3] at H
    have c3b0 : ((l0.length : Int) == (l1.length : Int)) = false := beq_eq_false_iff_ne.mpr c3
    have c3b1 : ((l0.length : Int) != (l1.length : Int)) = true := bne_iff_ne.mpr c3
    have c3b2 : (l0.length == l1.length) = false := by first | simpa using c3 | (simp at c3 ⊢; omega)
    obtain rfl := Option.some.inj H
    go_enter Try.func22, Try.ntmps22
    go_wp2
    repeat (go_quiet (fail); try go_wp2)
    go_ret
    exact ⟨by first | rfl | (simp; done) | (simp [*]; done), by repeat (first | exact Drawn0.refl _ | apply Drawn0.step)⟩

/-! ### lex_scan_pass: function 101 -/
section
open Go
open Go.Proofs.YtpcnpmcknknfcaaW.Mine
theorem lex_scan_pass.calls (g : Nat) (s : ByteArray) (line col : Int) (v : Value) (any : Bool) (n : Int) (w : World) (hbk : w.heap[g]? = some (.cells #[.string s, .int .i64 line, .int .i64 col, v, .bool any] 89 (0, 0))) (h0 : 0 ≤ n) (h1 : n ≤ (s.size : Int)) :
    Calls Try.prog 101 #[.pointer (some ⟨g, 0, none⟩), .int .i64 n] w fun e w' => e = .returned (.tuple #[]) ∧ w'.heap[g]? = some (.cells #[.string (s.extract n.toNat s.size), .int .i64 line, .int .i64 (wrap64 (col + n)), v, .bool any] 89 (0, 0)) ∧ Only w w' g := by
  have BK := Aside0.mk hbk
  have hx0 := (blk_cell hbk 0).trans rfl
  have hx2 := (blk_cell hbk 2).trans rfl
  have hf0 := blk_frozen hbk 0
  have hf2 := blk_frozen hbk 2
  clear hbk
  have hd0 := eq_true h0
  have hd1 := eq_true h1
  go_enter Try.func101, Try.ntmps101
  go_wp2
  first | go_end0 | ((try simp only [Exit.inBlock, Exit.then]); refine bodyPost_ret (results_none rfl _ _ _) rfl ?_)
  exact ⟨rfl, (blk_set (blk_set BK.out 0 _) 2 _).trans rfl, ((Only.refl w g).setCell 0 _).setCell 2 _⟩
end


/-! ### lex_scan_tell: function 59 -/
section
open Go
open Go.Proofs.YtpcnpmcknknfcaaW.Mine
def lex_scan_tell.T0 : Bool × List (List Nat × List Nat) := (true, [([], []), ([], []), ([], []), ([2], [2]), ([3], [3]), ([4], [4]), ([], []), ([6], [6]), ([7], [7]), ([8], [8]), ([0, 1, 5, 9], [0, 1, 5, 9]), ([], []), ([11, 10, 0, 1, 2, 3, 4, 5, 6, 7, 8, 9, 10, 11], [10, 11])])
def lex_scan_tell.B0 : List Nat := [0, 0, 0, 4, 12, 28, 0, 64, 192, 448, 1023, 0, 4095]
theorem lex_scan_tell.tab0 : rtab .any (opsOf Try.f59 0) = lex_scan_tell.T0 := by kernel_rfl
theorem lex_scan_tell.bits0 : waitsOk lex_scan_tell.T0.2 lex_scan_tell.B0 = true := by kernel_rfl
def lex_scan_tell.T3 : Bool × List (List Nat × List Nat) := (true, [([], []), ([], []), ([1], [1]), ([2], [2]), ([3], [3]), ([], []), ([5], [5]), ([4, 6], [4, 6]), ([0, 0, 1, 2, 3, 4, 5, 6, 7], [0]), ([8, 0, 1, 2, 3, 4, 5, 6, 7], [8]), ([9, 7, 7, 0, 1, 2, 3, 4, 5, 6, 7], [7, 9])])
def lex_scan_tell.B3 : List Nat := [0, 0, 2, 6, 14, 0, 32, 126, 255, 511, 1023]
theorem lex_scan_tell.tab3 : rtab .any (opsOf Try.f59 3) = lex_scan_tell.T3 := by kernel_rfl
theorem lex_scan_tell.bits3 : waitsOk lex_scan_tell.T3.2 lex_scan_tell.B3 = true := by kernel_rfl
set_option maxHeartbeats 2000000 in
set_option maxRecDepth 100000 in
theorem lex_scan_tell.calls (g : Nat) (s : ByteArray) (line col : Int) (v : Value) (any : Bool) (told : List S40) (kind n num : Int) (w : World) (hbk : w.heap[g]? = some (.cells #[.string s, .int .i64 line, .int .i64 col, v, .bool any] 89 (0, 0))) (hr : Kd.R k40 40 w (g + 1) (fun _ => True) v told) (hl : told.length < 140000) (h0 : 0 ≤ n) (h1 : n ≤ (s.size : Int)) :
    Calls Try.prog 59 #[.pointer (some ⟨g, 0, none⟩), .int .i64 kind, .int .i64 n, .int .i64 num] w fun e w' => e = .returned (.tuple #[]) ∧ ∃ v', w'.heap[g]? = some (.cells #[.string (s.extract n.toNat s.size), .int .i64 line, .int .i64 (wrap64 (col + n)), v', .bool (kind != 4)] 89 (0, 0)) ∧
      Kd.R k40 40 w' (g + 1) (fun _ => True) v' (told ++ [(⟨kind, (if kind = 4 then ⟨#[]⟩ else s.extract 0 n.toNat), num, line, col⟩ : S40)]) ∧ Below g w w' := by
  have BK := Aside0.mk hbk
  have HR := Aside0.mk hr
  have hx0_ : w.cell? ⟨g, 0, none⟩ = some (.string s) := (blk_cell hbk 0).trans rfl
  have hx1_ : w.cell? ⟨g, 1, none⟩ = some (.int .i64 line) := (blk_cell hbk 1).trans rfl
  have hx2_ : w.cell? ⟨g, 2, none⟩ = some (.int .i64 col) := (blk_cell hbk 2).trans rfl
  have hx3_ : w.cell? ⟨g, 3, none⟩ = some v := (blk_cell hbk 3).trans rfl
  have HG := Aside0.mk (blk_lt hbk)
  have hd0 := eq_true h0
  have hd1 := eq_true h1
  clear hbk hr
  go_enter Try.func59, Try.ntmps59
  go_wp2
  refine start_ (n := 13) (S := fun w' => w'.cell? ⟨g, 1, none⟩ = some (.int .i64 line) ∧ w'.cell? ⟨g, 2, none⟩ = some (.int .i64 col)) (ds := []) #[false, false, false, false, false, false, false, false, false, false, false, false, false] (by kernel_rfl) rfl rfl (⟨hx1_, hx2_⟩) (fun hHeld => ?_); refine with_tabW lex_scan_tell.tab0 lex_scan_tell.bits0 (fun HT_ HW_ => ?_)
  refine pure_ (i := 0) (N := (some 9)) (v := ?_) (a' := ?_) #[true, false, false, false, false, false, false, false, false, false, false, false, false] rfl rfl (any_of HT_.out (by kernel_rfl)) (fun _ _ _ h => h) (Or.inl ⟨by rfl, ?_⟩) ?_ ?_
  rotate_left
  · intro w'
    go_simp
    with_reducible rfl
  rotate_left
  · simp only [Act.put, List.setIfInBounds_toArray, List.set_cons_zero, List.set_cons_succ, i64_w, i32_w]
    rfl
  refine pure_ (i := 1) (N := (some 10)) (v := ?_) (a' := ?_) #[true, true, false, false, false, false, false, false, false, false, false, false, false] rfl rfl (any_of HT_.out (by kernel_rfl)) (fun _ _ _ h => h) (Or.inl ⟨by rfl, ?_⟩) ?_ ?_
  rotate_left
  · intro w'
    go_simp
    with_reducible rfl
  rotate_left
  · simp only [Act.put, List.setIfInBounds_toArray, List.set_cons_zero, List.set_cons_succ, i64_w, i32_w]
    rfl
  refine pure_ (i := 2) (N := (some 11)) (v := ?_) (a' := ?_) #[true, true, true, false, false, false, false, false, false, false, false, false, false] rfl rfl (any_of HT_.out (by kernel_rfl)) (fun _ _ _ h => h) (Or.inl ⟨by rfl, ?_⟩) ?_ ?_
  rotate_left
  · intro w'
    go_simp
    with_reducible rfl
  rotate_left
  · simp only [Act.put, List.setIfInBounds_toArray, List.set_cons_zero, List.set_cons_succ, i64_w, i32_w]
    rfl
  refine pure_ (i := 3) (N := (some 12)) (v := ?_) (a' := ?_) #[true, true, true, true, false, false, false, false, false, false, false, false, false] rfl rfl (any_of HT_.out (by kernel_rfl)) (fun _ _ _ h => h) (Or.inl ⟨by rfl, ?_⟩) ?_ ?_
  rotate_left
  · intro w'
    go_simp
    with_reducible rfl
  rotate_left
  · simp only [Act.put, List.setIfInBounds_toArray, List.set_cons_zero, List.set_cons_succ, i64_w, i32_w]
    rfl
  refine pure_ (i := 4) (N := (some 13)) (v := ?_) (a' := ?_) #[true, true, true, true, true, false, false, false, false, false, false, false, false] rfl rfl (any_of HT_.out (by kernel_rfl)) (fun _ _ _ h => h) (Or.inl ⟨by rfl, ?_⟩) ?_ ?_
  rotate_left
  · intro w'
    go_simp
    with_reducible rfl
  rotate_left
  · simp only [Act.put, List.setIfInBounds_toArray, List.set_cons_zero, List.set_cons_succ, i64_w, i32_w]
    rfl
  refine take_ (i := 5) (N := (some 14)) (v := ?_) (a' := ?_) #[true, true, true, true, true, true, false, false, false, false, false, false, false] rfl rfl (take_ofW HT_.out HW_.out (by kernel_rfl)) (fun _ _ _ h => h) (Or.inl ⟨by rfl, ?_⟩) hHeld ?_ ?_
  rotate_left
  · intro w' ⟨s0, s1⟩
    go_simp
    with_reducible rfl
  rotate_left
  · simp only [Act.put, List.setIfInBounds_toArray, List.set_cons_zero, List.set_cons_succ, i64_w, i32_w]
    rfl
  refine pure_ (i := 6) (N := (some 15)) (v := ?_) (a' := ?_) #[true, true, true, true, true, true, true, false, false, false, false, false, false] rfl rfl (any_of HT_.out (by kernel_rfl)) (fun _ _ _ h => h) (Or.inl ⟨by rfl, ?_⟩) ?_ ?_
  rotate_left
  · intro w'
    go_simp
    with_reducible rfl
  rotate_left
  · simp only [Act.put, List.setIfInBounds_toArray, List.set_cons_zero, List.set_cons_succ, i64_w, i32_w]
    rfl
  refine pure_ (i := 7) (N := (some 16)) (v := ?_) (a' := ?_) #[true, true, true, true, true, true, true, true, false, false, false, false, false] rfl rfl (any_of HT_.out (by kernel_rfl)) (fun _ _ _ h => h) (Or.inl ⟨by rfl, ?_⟩) ?_ ?_
  rotate_left
  · intro w'
    go_simp
    with_reducible rfl
  rotate_left
  · simp only [Act.put, List.setIfInBounds_toArray, List.set_cons_zero, List.set_cons_succ, i64_w, i32_w]
    rfl
  refine pure_ (i := 8) (N := (some 17)) (v := ?_) (a' := ?_) #[true, true, true, true, true, true, true, true, true, false, false, false, false] rfl rfl (any_of HT_.out (by kernel_rfl)) (fun _ _ _ h => h) (Or.inl ⟨by rfl, ?_⟩) ?_ ?_
  rotate_left
  · intro w'
    go_simp
    with_reducible rfl
  rotate_left
  · simp only [Act.put, List.setIfInBounds_toArray, List.set_cons_zero, List.set_cons_succ, i64_w, i32_w]
    rfl
  refine take_ (i := 9) (N := (some 18)) (v := ?_) (a' := ?_) #[true, true, true, true, true, true, true, true, true, true, false, false, false] rfl rfl (take_ofW HT_.out HW_.out (by kernel_rfl)) (fun _ _ _ h => h) (Or.inl ⟨by rfl, ?_⟩) hHeld ?_ ?_
  rotate_left
  · intro w' ⟨s0, s1⟩
    go_simp
    with_reducible rfl
  rotate_left
  · simp only [Act.put, List.setIfInBounds_toArray, List.set_cons_zero, List.set_cons_succ, i64_w, i32_w]
    rfl
  refine pure_ (i := 10) (N := (some 19)) (v := ?_) (a' := ?_) #[true, true, true, true, true, true, true, true, true, true, true, false, false] rfl rfl (any_of HT_.out (by kernel_rfl)) (fun _ _ _ h => h) (Or.inl ⟨by rfl, ?_⟩) ?_ ?_
  rotate_left
  · intro w'
    go_simp
    with_reducible rfl
  rotate_left
  · simp only [Act.put, List.setIfInBounds_toArray, List.set_cons_zero, List.set_cons_succ, i64_w, i32_w]
    rfl
  refine one_ (i := 11) (N := (some 8)) #[true, true, true, true, true, true, true, true, true, true, true, true, false] rfl rfl (one_of HT_.out (by kernel_rfl)) (by decide) (fun K hK => ?_)
  refine event_step (v := .pointer (some ⟨w.heap.size, 0, none⟩)) (w1 := ?_) (by rfl) ?_ ?_
  rotate_left
  · go_simp
    rfl
  have n1 : ((w.alloc (.cells #[.int .i64 0, .string ⟨#[]⟩, .int .i64 0, .int .i64 0, .int .i64 0] 40)).drew).heap[w.heap.size]? = some (.cells #[.int .i64 0, .string ⟨#[]⟩, .int .i64 0, .int .i64 0, .int .i64 0] 40 (0, 0)) := heap_alloc_new w (.cells #[.int .i64 0, .string ⟨#[]⟩, .int .i64 0, .int .i64 0, .int .i64 0] 40)
  have n2 := below_drew (below_alloc (Below.refl w.heap.size w) (.cells #[.int .i64 0, .string ⟨#[]⟩, .int .i64 0, .int .i64 0, .int .i64 0] 40))
  have n3 := Kd.R_drew (Kd.R_alloc HR.out (.cells #[.int .i64 0, .string ⟨#[]⟩, .int .i64 0, .int .i64 0, .int .i64 0] 40))
  generalize (w.alloc (.cells #[.int .i64 0, .string ⟨#[]⟩, .int .i64 0, .int .i64 0, .int .i64 0] 40)).drew = W1 at *
  have BT := Aside0.mk n1
  have HB := Aside0.mk n2
  have hx1 := pw_cell_below HB.out hx1_
  have hx2 := pw_cell_below HB.out hx2_
  have hft0 := blk_frozen BT.out 0
  have hxt0 : W1.cell? ⟨w.heap.size, 0, none⟩ = some (.int .i64 0) := (blk_cell BT.out 0).trans rfl
  have hft1 := blk_frozen BT.out 1
  have hxt1 : W1.cell? ⟨w.heap.size, 1, none⟩ = some (.string ⟨#[]⟩) := (blk_cell BT.out 1).trans rfl
  have hft2 := blk_frozen BT.out 2
  have hxt2 : W1.cell? ⟨w.heap.size, 2, none⟩ = some (.int .i64 0) := (blk_cell BT.out 2).trans rfl
  have hft3 := blk_frozen BT.out 3
  have hxt3 : W1.cell? ⟨w.heap.size, 3, none⟩ = some (.int .i64 0) := (blk_cell BT.out 3).trans rfl
  have hft4 := blk_frozen BT.out 4
  have hxt4 : W1.cell? ⟨w.heap.size, 4, none⟩ = some (.int .i64 0) := (blk_cell BT.out 4).trans rfl
  clear n1 n2 n3
  refine hK.out _ _ (⟨hx1, hx2⟩) (fun hHeld => ?_)
  clear hK K
  refine norm_ (a' := ?_) ?_ ?_
  rotate_left
  · show Act.put _ (some 8) _ = _
    simp only [Act.put, List.setIfInBounds_toArray, List.set_cons_zero, List.set_cons_succ, i64_w, i32_w]
    rfl
  refine one_ (i := 12) (N := none) #[true, true, true, true, true, true, true, true, true, true, true, true, true] rfl rfl (one_of HT_.out (by kernel_rfl)) (by decide) (fun K hK => ?_)
  refine skip_ (w1 := ?_) (by rfl) rfl ?_ ?_
  rotate_left
  · go_simp
    rfl
  have n1 : ((((((W1.setCell ⟨w.heap.size, 0, none⟩ (.int .i64 kind)).setCell ⟨w.heap.size, 1, none⟩ (.string ⟨#[]⟩)).setCell ⟨w.heap.size, 2, none⟩ (.int .i64 num)).setCell ⟨w.heap.size, 3, none⟩ (.int .i64 line)).setCell ⟨w.heap.size, 4, none⟩ (.int .i64 col))).heap[w.heap.size]? = some (.cells #[.int .i64 kind, .string ⟨#[]⟩, .int .i64 num, .int .i64 line, .int .i64 col] 40 (0, 0)) := (blk_set (blk_set (blk_set (blk_set (blk_set BT.out 0 _) 1 _) 2 _) 3 _) 4 _).trans rfl
  have n2 : Below w.heap.size w ((((((W1.setCell ⟨w.heap.size, 0, none⟩ (.int .i64 kind)).setCell ⟨w.heap.size, 1, none⟩ (.string ⟨#[]⟩)).setCell ⟨w.heap.size, 2, none⟩ (.int .i64 num)).setCell ⟨w.heap.size, 3, none⟩ (.int .i64 line)).setCell ⟨w.heap.size, 4, none⟩ (.int .i64 col))) := ((((HB.out.setCell (Nat.le_refl _) _).setCell (Nat.le_refl _) _).setCell (Nat.le_refl _) _).setCell (Nat.le_refl _) _).setCell (Nat.le_refl _) _
  generalize ((((((W1.setCell ⟨w.heap.size, 0, none⟩ (.int .i64 kind)).setCell ⟨w.heap.size, 1, none⟩ (.string ⟨#[]⟩)).setCell ⟨w.heap.size, 2, none⟩ (.int .i64 num)).setCell ⟨w.heap.size, 3, none⟩ (.int .i64 line)).setCell ⟨w.heap.size, 4, none⟩ (.int .i64 col))) = W2 at *
  clear BT HB hx1 hx2 hft0 hxt0 hft1 hxt1 hft2 hxt2 hft3 hxt3 hft4 hxt4
  have BT := Aside0.mk n1
  have HB := Aside0.mk n2
  clear n1 n2
  refine hK.out _ _ ⟨pw_cell_below HB.out hx1_, pw_cell_below HB.out hx2_⟩ (fun hHeld => ?_)
  clear hK K
  refine done_ (done_of HT_.out (by kernel_rfl)) ?_
  clear hHeld hx1_ hx2_
  by_cases hk4 : kind = 4
  · subst hk4
    have hgx : w.heap.size < W2.heap.size := blk_lt BT.out
    have hg3 : W2.cell? ⟨g, 3, none⟩ = some v := pw_cell_below HB.out hx3_
    have hxt0 : W2.cell? ⟨w.heap.size, 0, none⟩ = some (.int .i64 4) := (blk_cell BT.out 0).trans rfl
    have hxt1 : W2.cell? ⟨w.heap.size, 1, none⟩ = some (.string ⟨#[]⟩) := (blk_cell BT.out 1).trans rfl
    have hxt2 : W2.cell? ⟨w.heap.size, 2, none⟩ = some (.int .i64 num) := (blk_cell BT.out 2).trans rfl
    have hxt3 : W2.cell? ⟨w.heap.size, 3, none⟩ = some (.int .i64 line) := (blk_cell BT.out 3).trans rfl
    have hxt4 : W2.cell? ⟨w.heap.size, 4, none⟩ = some (.int .i64 col) := (blk_cell BT.out 4).trans rfl
    go_wp2
    refine start_ (n := 11) (S := fun w' => w'.cell? ⟨g, 3, none⟩ = some v ∧ w'.cell? ⟨w.heap.size, 0, none⟩ = some (.int .i64 4) ∧ w'.cell? ⟨w.heap.size, 1, none⟩ = some (.string ⟨#[]⟩) ∧ w'.cell? ⟨w.heap.size, 2, none⟩ = some (.int .i64 num) ∧ w'.cell? ⟨w.heap.size, 3, none⟩ = some (.int .i64 line) ∧ w'.cell? ⟨w.heap.size, 4, none⟩ = some (.int .i64 col)) (ds := [10]) #[false, false, false, false, false, false, false, false, false, false, false] (by kernel_rfl) rfl rfl (⟨hg3, hxt0, hxt1, hxt2, hxt3, hxt4⟩) (fun hHeld => ?_); refine with_tabW lex_scan_tell.tab3 lex_scan_tell.bits3 (fun HT_ HW_ => ?_)
    refine pure_ (i := 0) (N := (some 29)) (v := ?_) (a' := ?_) #[true, false, false, false, false, false, false, false, false, false, false] rfl rfl (any_of HT_.out (by kernel_rfl)) (fun _ _ _ h => h) (Or.inl ⟨by rfl, ?_⟩) ?_ ?_
    rotate_left
    · intro w'
      go_simp
      with_reducible rfl
    rotate_left
    · simp only [Act.put, List.setIfInBounds_toArray, List.set_cons_zero, List.set_cons_succ, i64_w, i32_w]
      rfl
    refine pure_ (i := 1) (N := (some 30)) (v := ?_) (a' := ?_) #[true, true, false, false, false, false, false, false, false, false, false] rfl rfl (any_of HT_.out (by kernel_rfl)) (fun _ _ _ h => h) (Or.inl ⟨by rfl, ?_⟩) ?_ ?_
    rotate_left
    · intro w'
      go_simp
      with_reducible rfl
    rotate_left
    · simp only [Act.put, List.setIfInBounds_toArray, List.set_cons_zero, List.set_cons_succ, i64_w, i32_w]
      rfl
    refine pure_ (i := 2) (N := (some 31)) (v := ?_) (a' := ?_) #[true, true, true, false, false, false, false, false, false, false, false] rfl rfl (any_of HT_.out (by kernel_rfl)) (fun _ _ _ h => h) (Or.inl ⟨by rfl, ?_⟩) ?_ ?_
    rotate_left
    · intro w'
      go_simp
      with_reducible rfl
    rotate_left
    · simp only [Act.put, List.setIfInBounds_toArray, List.set_cons_zero, List.set_cons_succ, i64_w, i32_w]
      rfl
    refine pure_ (i := 3) (N := (some 32)) (v := ?_) (a' := ?_) #[true, true, true, true, false, false, false, false, false, false, false] rfl rfl (any_of HT_.out (by kernel_rfl)) (fun _ _ _ h => h) (Or.inl ⟨by rfl, ?_⟩) ?_ ?_
    rotate_left
    · intro w'
      go_simp
      with_reducible rfl
    rotate_left
    · simp only [Act.put, List.setIfInBounds_toArray, List.set_cons_zero, List.set_cons_succ, i64_w, i32_w]
      rfl
    refine take_ (i := 4) (N := (some 33)) (v := ?_) (a' := ?_) #[true, true, true, true, true, false, false, false, false, false, false] rfl rfl (take_ofW HT_.out HW_.out (by kernel_rfl)) (fun _ _ _ h => h) (Or.inl ⟨by rfl, ?_⟩) hHeld ?_ ?_
    rotate_left
    · intro w' ⟨s0, s1, s2, s3, s4, s5⟩
      go_simp
      with_reducible rfl
    rotate_left
    · simp only [Act.put, List.setIfInBounds_toArray, List.set_cons_zero, List.set_cons_succ, i64_w, i32_w]
      rfl
    refine take_ (i := 5) (N := (some 34)) (v := ?_) (a' := ?_) #[true, true, true, true, true, true, false, false, false, false, false] rfl rfl (take_ofW HT_.out HW_.out (by kernel_rfl)) (fun _ _ _ h => h) (Or.inl ⟨by rfl, ?_⟩) hHeld ?_ ?_
    rotate_left
    · intro w' ⟨s0, s1, s2, s3, s4, s5⟩
      go_simp
      with_reducible rfl
    rotate_left
    · simp only [Act.put, List.setIfInBounds_toArray, List.set_cons_zero, List.set_cons_succ, i64_w, i32_w]
      rfl
    refine one_ (i := 6) (N := (some 35)) #[true, true, true, true, true, true, true, false, false, false, false] rfl rfl (one_of HT_.out (by kernel_rfl)) (by decide) (fun K hK => ?_)
    refine event_step (v := .slice (some ⟨W2.heap.size, 0, none⟩) 1 1) (w1 := (W2.drew).alloc (.cells #[.int .i64 4, .string ⟨#[]⟩, .int .i64 num, .int .i64 line, .int .i64 col] 40)) (by rfl) ?_ ?_
    · go_simp
    have HB5 := Aside0.mk (below_alloc (below_drew HB.out) (.cells #[.int .i64 4, .string ⟨#[]⟩, .int .i64 num, .int .i64 line, .int .i64 col] 40))
    have n1 := below_alloc (below_drew (Below.refl W2.heap.size W2)) (.cells #[.int .i64 4, .string ⟨#[]⟩, .int .i64 num, .int .i64 line, .int .i64 col] 40)
    refine hK.out _ _ (⟨pw_cell_below n1 hg3, pw_cell_below n1 hxt0, pw_cell_below n1 hxt1, pw_cell_below n1 hxt2, pw_cell_below n1 hxt3, pw_cell_below n1 hxt4⟩) (fun hHeld => ?_)
    clear hK K
    refine norm_ (a' := ?_) ?_ ?_
    rotate_left
    · show Act.put _ (some 35) _ = _
      simp only [Act.put, List.setIfInBounds_toArray, List.set_cons_zero, List.set_cons_succ, i64_w, i32_w]
      rfl
    refine one_ (i := 7) (N := (some 36)) #[true, true, true, true, true, true, true, true, false, false, false] rfl rfl (one_of HT_.out (by kernel_rfl)) (by decide) (fun K hK => ?_)
    refine Kd.R_append_step k40 (W := W2.drew) (w0 := w) (g + 1) (by rfl) (.tmp 33) (.tmp 35) 32 40 (.agg #[(.int .i64 0), (.string ⟨#[]⟩), (.int .i64 0), (.int .i64 0), (.int .i64 0)]) 48 rfl Try.underlying32 info40 rfl (by decide) (by omega) v told (⟨4, ⟨#[]⟩, num, line, col⟩ : S40) [.int .i64 4, .string ⟨#[]⟩, .int .i64 num, .int .i64 line, .int .i64 col] (fun _ => True) (fun _ => False) rfl rfl ?aP (fun _ hk => hk.elim) (fun _ _ => trivial) ?aO ?aB ?aS ?aL ?_
    (case aP => exact k40_mkM _ _ _ (⟨4, ⟨#[]⟩, num, line, col⟩ : S40))
    (case aO => exact Kd.R_drew (Kd.R_below HR.out HB.out))
    (case aB => exact below_drew (HB.out.mono HG.out))
    (case aS => exact Nat.le_trans HG.out HB.out.size)
    (case aL => omega)
    intro v1 w5 ho hb hg hat; clear hat; obtain ⟨A1, c1, e1, hq1, hq2⟩ := Kd.R_reads ho; clear hq1 hq2; subst e1
    have HO := Aside0.mk ho
    have HB6 := Aside0.mk hb
    have BK6 := Aside0.mk ((hb.block g (Nat.lt_succ_self g)).trans BK.out)
    clear ho hb
    have hne : some w.heap.size ≠ v.ownBlock := fun e => by have := Kd.R_lt HR.out _ e.symm; omega
    have hx3 : w5.cell? ⟨g, 3, none⟩ = some v := (blk_cell BK6.out 3).trans rfl
    have hf3 := blk_frozen BK6.out 3
    refine hK.out _ _ ⟨hx3, hg.cell (show (W2.drew).cell? ⟨w.heap.size, 0, none⟩ = _ from hxt0) hne, hg.cell (show (W2.drew).cell? ⟨w.heap.size, 1, none⟩ = _ from hxt1) hne, hg.cell (show (W2.drew).cell? ⟨w.heap.size, 2, none⟩ = _ from hxt2) hne, hg.cell (show (W2.drew).cell? ⟨w.heap.size, 3, none⟩ = _ from hxt3) hne, hg.cell (show (W2.drew).cell? ⟨w.heap.size, 4, none⟩ = _ from hxt4) hne⟩ (fun hHeld => ?_)
    clear hK K hg hne hg3 hxt0 hxt1 hxt2 hxt3 hxt4
    refine norm_ (a' := ?_) ?_ ?_
    rotate_left
    · show Act.put _ (some 36) _ = _
      simp only [Act.put, List.setIfInBounds_toArray, List.set_cons_zero, List.set_cons_succ, i64_w, i32_w]
      rfl
    refine pure_ (i := 8) (N := (some 37)) (v := ?_) (a' := ?_) #[true, true, true, true, true, true, true, true, true, false, false] rfl rfl (any_of HT_.out (by kernel_rfl)) (fun _ _ _ h => h) (Or.inl ⟨by rfl, ?_⟩) ?_ ?_
    rotate_left
    · intro w'
      go_simp
      with_reducible rfl
    rotate_left
    · simp only [Act.put, List.setIfInBounds_toArray, List.set_cons_zero, List.set_cons_succ, i64_w, i32_w]
      rfl
    refine pure_ (i := 9) (N := (some 38)) (v := ?_) (a' := ?_) #[true, true, true, true, true, true, true, true, true, true, false] rfl rfl (any_of HT_.out (by kernel_rfl)) (fun _ _ _ h => h) (Or.inl ⟨by rfl, ?_⟩) ?_ ?_
    rotate_left
    · intro w'
      go_simp
      with_reducible rfl
    rotate_left
    · simp only [Act.put, List.setIfInBounds_toArray, List.set_cons_zero, List.set_cons_succ, i64_w, i32_w]
      rfl
    refine last_ (i := 10) (N := none) #[true, true, true, true, true, true, true, true, true, true, true] rfl rfl (one_of HT_.out (by kernel_rfl)) (by decide) (fun K hK => ?_)
    refine skip_ (w1 := ?_) (by rfl) rfl ?_ ?_
    rotate_left
    · go_simp
      rfl
    refine hK.out _ _ ?_
    clear hK K
    refine done_ (done_of HT_.out (by kernel_rfl)) ?_
    have n1 := (blk_set BK6.out 3 (Value.slice A1 (told ++ [(⟨4, ⟨#[]⟩, num, line, col⟩ : S40)]).length c1)).trans rfl
    have n2 := (HB6.out.mono (Nat.le_succ g)).setCell (p := ⟨g, 3, none⟩) (Nat.le_refl g) (Value.slice A1 (told ++ [(⟨4, ⟨#[]⟩, num, line, col⟩ : S40)]).length c1)
    have n3 : Kd.R k40 40 (w5.setCell ⟨g, 3, none⟩ (Value.slice A1 (told ++ [(⟨4, ⟨#[]⟩, num, line, col⟩ : S40)]).length c1)) (g + 1) (fun _ => True) (Value.slice A1 (told ++ [(⟨4, ⟨#[]⟩, num, line, col⟩ : S40)]).length c1) (told ++ [(⟨4, ⟨#[]⟩, num, line, col⟩ : S40)]) := Kd.R_mono (Kd.R_far (Kd.R_bound HO.out) (fun k hk => (show k ≠ g from by have := hk.2.1; omega)) _) (fun _ _ => trivial)
    simp only [List.length_append, List.length_cons, List.length_nil, Nat.zero_add] at n1 n2 n3 ⊢
    generalize w5.setCell ⟨g, 3, none⟩ (Value.slice A1 (told.length + 1) c1) = W6 at *
    have BK7 := Aside0.mk n1; have HB7 := Aside0.mk n2; have HO7 := Aside0.mk n3
    clear n1 n2 n3 hHeld hx3 hf3
    have hx4 : W6.cell? ⟨g, 4, none⟩ = some (.bool any) := (blk_cell BK7.out 4).trans rfl
    have hf4 := blk_frozen BK7.out 4
    go_wp2_with (go_at_call 101; (with_reducible refine (lex_scan_pass.calls g s line col _ false n _ ((blk_set BK7.out 4 (.bool false)).trans rfl) h0 h1).mono ?_); rintro e w7 ⟨rfl, hbk7, ho7⟩)
    first | go_end0 | ((try simp only [Exit.inBlock, Exit.then]); refine bodyPost_ret (results_none rfl _ _ _) rfl ?_)
    exact ⟨rfl, _, hbk7, Kd.R_step (Kd.R_bound HO7.out) (fun k hk _ => (ho7.block k (by have := hk.2.1; omega)).trans (Below.heap_setCell W6 ⟨g, 4, none⟩ _ k (show k ≠ g from by have := hk.2.1; omega))) |> fun h => Kd.R_mono h (fun _ _ => trivial), ho7.below (HB7.out.setCell (Nat.le_refl g) _) (Nat.le_refl g)⟩
  · have q0 : (kind != 4) = true := bne_iff_ne.2 hk4
    have q1 : decide (kind = 4) = false := decide_eq_false hk4
    have hgx : w.heap.size < W2.heap.size := blk_lt BT.out
    have hg0 : W2.cell? ⟨g, 0, none⟩ = some (.string s) := pw_cell_below HB.out hx0_
    have hxt1 : W2.cell? ⟨w.heap.size, 1, none⟩ = some (.string ⟨#[]⟩) := (blk_cell BT.out 1).trans rfl
    have hft1 := blk_frozen BT.out 1
    go_wp2
    have n1 : (W2.setCell ⟨w.heap.size, 1, none⟩ (.string (s.extract 0 n.toNat))).heap[w.heap.size]? = some (.cells #[.int .i64 kind, .string (s.extract 0 n.toNat), .int .i64 num, .int .i64 line, .int .i64 col] 40 (0, 0)) := (blk_set BT.out 1 _).trans rfl
    have n2 : Below w.heap.size w (W2.setCell ⟨w.heap.size, 1, none⟩ (.string (s.extract 0 n.toNat))) := HB.out.setCell (Nat.le_refl _) _
    generalize W2.setCell ⟨w.heap.size, 1, none⟩ (.string (s.extract 0 n.toNat)) = W3 at *
    clear BT HB hg0 hxt1 hft1
    have BT := Aside0.mk n1
    have HB := Aside0.mk n2
    clear n1 n2
    have hg3 : W3.cell? ⟨g, 3, none⟩ = some v := pw_cell_below HB.out hx3_
    have hxt0 : W3.cell? ⟨w.heap.size, 0, none⟩ = some (.int .i64 kind) := (blk_cell BT.out 0).trans rfl
    have hxt1 : W3.cell? ⟨w.heap.size, 1, none⟩ = some (.string (s.extract 0 n.toNat)) := (blk_cell BT.out 1).trans rfl
    have hxt2 : W3.cell? ⟨w.heap.size, 2, none⟩ = some (.int .i64 num) := (blk_cell BT.out 2).trans rfl
    have hxt3 : W3.cell? ⟨w.heap.size, 3, none⟩ = some (.int .i64 line) := (blk_cell BT.out 3).trans rfl
    have hxt4 : W3.cell? ⟨w.heap.size, 4, none⟩ = some (.int .i64 col) := (blk_cell BT.out 4).trans rfl
    refine start_ (n := 11) (S := fun w' => w'.cell? ⟨g, 3, none⟩ = some v ∧ w'.cell? ⟨w.heap.size, 0, none⟩ = some (.int .i64 kind) ∧ w'.cell? ⟨w.heap.size, 1, none⟩ = some (.string (s.extract 0 n.toNat)) ∧ w'.cell? ⟨w.heap.size, 2, none⟩ = some (.int .i64 num) ∧ w'.cell? ⟨w.heap.size, 3, none⟩ = some (.int .i64 line) ∧ w'.cell? ⟨w.heap.size, 4, none⟩ = some (.int .i64 col)) (ds := [10]) #[false, false, false, false, false, false, false, false, false, false, false] (by kernel_rfl) rfl rfl (⟨hg3, hxt0, hxt1, hxt2, hxt3, hxt4⟩) (fun hHeld => ?_); refine with_tabW lex_scan_tell.tab3 lex_scan_tell.bits3 (fun HT_ HW_ => ?_)
    refine pure_ (i := 0) (N := (some 29)) (v := ?_) (a' := ?_) #[true, false, false, false, false, false, false, false, false, false, false] rfl rfl (any_of HT_.out (by kernel_rfl)) (fun _ _ _ h => h) (Or.inl ⟨by rfl, ?_⟩) ?_ ?_
    rotate_left
    · intro w'
      go_simp
      with_reducible rfl
    rotate_left
    · simp only [Act.put, List.setIfInBounds_toArray, List.set_cons_zero, List.set_cons_succ, i64_w, i32_w]
      rfl
    refine pure_ (i := 1) (N := (some 30)) (v := ?_) (a' := ?_) #[true, true, false, false, false, false, false, false, false, false, false] rfl rfl (any_of HT_.out (by kernel_rfl)) (fun _ _ _ h => h) (Or.inl ⟨by rfl, ?_⟩) ?_ ?_
    rotate_left
    · intro w'
      go_simp
      with_reducible rfl
    rotate_left
    · simp only [Act.put, List.setIfInBounds_toArray, List.set_cons_zero, List.set_cons_succ, i64_w, i32_w]
      rfl
    refine pure_ (i := 2) (N := (some 31)) (v := ?_) (a' := ?_) #[true, true, true, false, false, false, false, false, false, false, false] rfl rfl (any_of HT_.out (by kernel_rfl)) (fun _ _ _ h => h) (Or.inl ⟨by rfl, ?_⟩) ?_ ?_
    rotate_left
    · intro w'
      go_simp
      with_reducible rfl
    rotate_left
    · simp only [Act.put, List.setIfInBounds_toArray, List.set_cons_zero, List.set_cons_succ, i64_w, i32_w]
      rfl
    refine pure_ (i := 3) (N := (some 32)) (v := ?_) (a' := ?_) #[true, true, true, true, false, false, false, false, false, false, false] rfl rfl (any_of HT_.out (by kernel_rfl)) (fun _ _ _ h => h) (Or.inl ⟨by rfl, ?_⟩) ?_ ?_
    rotate_left
    · intro w'
      go_simp
      with_reducible rfl
    rotate_left
    · simp only [Act.put, List.setIfInBounds_toArray, List.set_cons_zero, List.set_cons_succ, i64_w, i32_w]
      rfl
    refine take_ (i := 4) (N := (some 33)) (v := ?_) (a' := ?_) #[true, true, true, true, true, false, false, false, false, false, false] rfl rfl (take_ofW HT_.out HW_.out (by kernel_rfl)) (fun _ _ _ h => h) (Or.inl ⟨by rfl, ?_⟩) hHeld ?_ ?_
    rotate_left
    · intro w' ⟨s0, s1, s2, s3, s4, s5⟩
      go_simp
      with_reducible rfl
    rotate_left
    · simp only [Act.put, List.setIfInBounds_toArray, List.set_cons_zero, List.set_cons_succ, i64_w, i32_w]
      rfl
    refine take_ (i := 5) (N := (some 34)) (v := ?_) (a' := ?_) #[true, true, true, true, true, true, false, false, false, false, false] rfl rfl (take_ofW HT_.out HW_.out (by kernel_rfl)) (fun _ _ _ h => h) (Or.inl ⟨by rfl, ?_⟩) hHeld ?_ ?_
    rotate_left
    · intro w' ⟨s0, s1, s2, s3, s4, s5⟩
      go_simp
      with_reducible rfl
    rotate_left
    · simp only [Act.put, List.setIfInBounds_toArray, List.set_cons_zero, List.set_cons_succ, i64_w, i32_w]
      rfl
    refine one_ (i := 6) (N := (some 35)) #[true, true, true, true, true, true, true, false, false, false, false] rfl rfl (one_of HT_.out (by kernel_rfl)) (by decide) (fun K hK => ?_)
    refine event_step (v := .slice (some ⟨W3.heap.size, 0, none⟩) 1 1) (w1 := (W3.drew).alloc (.cells #[.int .i64 kind, .string (s.extract 0 n.toNat), .int .i64 num, .int .i64 line, .int .i64 col] 40)) (by rfl) ?_ ?_
    · go_simp
    have HB5 := Aside0.mk (below_alloc (below_drew HB.out) (.cells #[.int .i64 kind, .string (s.extract 0 n.toNat), .int .i64 num, .int .i64 line, .int .i64 col] 40))
    have n1 := below_alloc (below_drew (Below.refl W3.heap.size W3)) (.cells #[.int .i64 kind, .string (s.extract 0 n.toNat), .int .i64 num, .int .i64 line, .int .i64 col] 40)
    refine hK.out _ _ (⟨pw_cell_below n1 hg3, pw_cell_below n1 hxt0, pw_cell_below n1 hxt1, pw_cell_below n1 hxt2, pw_cell_below n1 hxt3, pw_cell_below n1 hxt4⟩) (fun hHeld => ?_)
    clear hK K
    refine norm_ (a' := ?_) ?_ ?_
    rotate_left
    · show Act.put _ (some 35) _ = _
      simp only [Act.put, List.setIfInBounds_toArray, List.set_cons_zero, List.set_cons_succ, i64_w, i32_w]
      rfl
    refine one_ (i := 7) (N := (some 36)) #[true, true, true, true, true, true, true, true, false, false, false] rfl rfl (one_of HT_.out (by kernel_rfl)) (by decide) (fun K hK => ?_)
    refine Kd.R_append_step k40 (W := W3.drew) (w0 := w) (g + 1) (by rfl) (.tmp 33) (.tmp 35) 32 40 (.agg #[(.int .i64 0), (.string ⟨#[]⟩), (.int .i64 0), (.int .i64 0), (.int .i64 0)]) 48 rfl Try.underlying32 info40 rfl (by decide) (by omega) v told (⟨kind, (s.extract 0 n.toNat), num, line, col⟩ : S40) [.int .i64 kind, .string (s.extract 0 n.toNat), .int .i64 num, .int .i64 line, .int .i64 col] (fun _ => True) (fun _ => False) rfl rfl ?aP (fun _ hk => hk.elim) (fun _ _ => trivial) ?aO ?aB ?aS ?aL ?_
    (case aP => exact k40_mkM _ _ _ (⟨kind, (s.extract 0 n.toNat), num, line, col⟩ : S40))
    (case aO => exact Kd.R_drew (Kd.R_below HR.out HB.out))
    (case aB => exact below_drew (HB.out.mono HG.out))
    (case aS => exact Nat.le_trans HG.out HB.out.size)
    (case aL => omega)
    intro v1 w5 ho hb hg hat; clear hat; obtain ⟨A1, c1, e1, hq1, hq2⟩ := Kd.R_reads ho; clear hq1 hq2; subst e1
    have HO := Aside0.mk ho
    have HB6 := Aside0.mk hb
    have BK6 := Aside0.mk ((hb.block g (Nat.lt_succ_self g)).trans BK.out)
    clear ho hb
    have hne : some w.heap.size ≠ v.ownBlock := fun e => by have := Kd.R_lt HR.out _ e.symm; omega
    have hx3 : w5.cell? ⟨g, 3, none⟩ = some v := (blk_cell BK6.out 3).trans rfl
    have hf3 := blk_frozen BK6.out 3
    refine hK.out _ _ ⟨hx3, hg.cell (show (W3.drew).cell? ⟨w.heap.size, 0, none⟩ = _ from hxt0) hne, hg.cell (show (W3.drew).cell? ⟨w.heap.size, 1, none⟩ = _ from hxt1) hne, hg.cell (show (W3.drew).cell? ⟨w.heap.size, 2, none⟩ = _ from hxt2) hne, hg.cell (show (W3.drew).cell? ⟨w.heap.size, 3, none⟩ = _ from hxt3) hne, hg.cell (show (W3.drew).cell? ⟨w.heap.size, 4, none⟩ = _ from hxt4) hne⟩ (fun hHeld => ?_)
    clear hK K hg hne hg3 hxt0 hxt1 hxt2 hxt3 hxt4
    refine norm_ (a' := ?_) ?_ ?_
    rotate_left
    · show Act.put _ (some 36) _ = _
      simp only [Act.put, List.setIfInBounds_toArray, List.set_cons_zero, List.set_cons_succ, i64_w, i32_w]
      rfl
    refine pure_ (i := 8) (N := (some 37)) (v := ?_) (a' := ?_) #[true, true, true, true, true, true, true, true, true, false, false] rfl rfl (any_of HT_.out (by kernel_rfl)) (fun _ _ _ h => h) (Or.inl ⟨by rfl, ?_⟩) ?_ ?_
    rotate_left
    · intro w'
      go_simp
      with_reducible rfl
    rotate_left
    · simp only [Act.put, List.setIfInBounds_toArray, List.set_cons_zero, List.set_cons_succ, i64_w, i32_w]
      rfl
    refine pure_ (i := 9) (N := (some 38)) (v := ?_) (a' := ?_) #[true, true, true, true, true, true, true, true, true, true, false] rfl rfl (any_of HT_.out (by kernel_rfl)) (fun _ _ _ h => h) (Or.inl ⟨by rfl, ?_⟩) ?_ ?_
    rotate_left
    · intro w'
      go_simp
      with_reducible rfl
    rotate_left
    · simp only [Act.put, List.setIfInBounds_toArray, List.set_cons_zero, List.set_cons_succ, i64_w, i32_w]
      rfl
    refine last_ (i := 10) (N := none) #[true, true, true, true, true, true, true, true, true, true, true] rfl rfl (one_of HT_.out (by kernel_rfl)) (by decide) (fun K hK => ?_)
    refine skip_ (w1 := ?_) (by rfl) rfl ?_ ?_
    rotate_left
    · go_simp
      rfl
    refine hK.out _ _ ?_
    clear hK K
    refine done_ (done_of HT_.out (by kernel_rfl)) ?_
    have n1 := (blk_set BK6.out 3 (Value.slice A1 (told ++ [(⟨kind, (s.extract 0 n.toNat), num, line, col⟩ : S40)]).length c1)).trans rfl
    have n2 := (HB6.out.mono (Nat.le_succ g)).setCell (p := ⟨g, 3, none⟩) (Nat.le_refl g) (Value.slice A1 (told ++ [(⟨kind, (s.extract 0 n.toNat), num, line, col⟩ : S40)]).length c1)
    have n3 : Kd.R k40 40 (w5.setCell ⟨g, 3, none⟩ (Value.slice A1 (told ++ [(⟨kind, (s.extract 0 n.toNat), num, line, col⟩ : S40)]).length c1)) (g + 1) (fun _ => True) (Value.slice A1 (told ++ [(⟨kind, (s.extract 0 n.toNat), num, line, col⟩ : S40)]).length c1) (told ++ [(⟨kind, (s.extract 0 n.toNat), num, line, col⟩ : S40)]) := Kd.R_mono (Kd.R_far (Kd.R_bound HO.out) (fun k hk => (show k ≠ g from by have := hk.2.1; omega)) _) (fun _ _ => trivial)
    simp only [List.length_append, List.length_cons, List.length_nil, Nat.zero_add] at n1 n2 n3 ⊢
    generalize w5.setCell ⟨g, 3, none⟩ (Value.slice A1 (told.length + 1) c1) = W6 at *
    have BK7 := Aside0.mk n1; have HB7 := Aside0.mk n2; have HO7 := Aside0.mk n3
    clear n1 n2 n3 hHeld hx3 hf3
    have hx4 : W6.cell? ⟨g, 4, none⟩ = some (.bool any) := (blk_cell BK7.out 4).trans rfl
    have hf4 := blk_frozen BK7.out 4
    go_wp2_with (go_at_call 101; (with_reducible refine (lex_scan_pass.calls g s line col _ true n _ ((blk_set BK7.out 4 (.bool true)).trans rfl) h0 h1).mono ?_); rintro e w7 ⟨rfl, hbk7, ho7⟩)
    first | go_end0 | ((try simp only [Exit.inBlock, Exit.then]); refine bodyPost_ret (results_none rfl _ _ _) rfl ?_)
    exact ⟨rfl, _, hbk7, Kd.R_step (Kd.R_bound HO7.out) (fun k hk _ => (ho7.block k (by have := hk.2.1; omega)).trans (Below.heap_setCell W6 ⟨g, 4, none⟩ _ k (show k ≠ g from by have := hk.2.1; omega))) |> fun h => Kd.R_mono h (fun _ _ => trivial), ho7.below (HB7.out.setCell (Nat.le_refl g) _) (Nat.le_refl g)⟩
end


/-! ### lex_begins: function 67 -/


/-! ### lex_small: function 69 -/
def lex_small.f (a0 : Int) : Option (Bool) := if a0 ≥ 97 then (some (decide (a0 ≤ 122))) else (some false)
set_option maxHeartbeats 8000000 in
set_option maxRecDepth 100000 in
theorem lex_small.calls (a0 : Int) (r : Bool) (w : World) (h : lex_small.f a0 = some r) :
    Calls Try.prog 69 #[.int .u8 a0] w fun e w' => e = .returned (.bool r) ∧ Drawn0 w w' := by
  have H : (if a0 ≥ 97 then (some (decide (a0 ≤ 122))) else (some false)) = some r := h
  clear h
  by_cases c2 : a0 ≥ 97
  · rw [if_pos c2] at H
    have c2b0 : decide (97 ≤ a0) = true := decide_eq_true c2
    clear c2
    obtain rfl := Option.some.inj H
    go_enter Try.func69, Try.ntmps69
    go_wp2
    go_ret
    exact ⟨by first | rfl | (simp; done) | (simp [*]; done), by repeat (first | exact Drawn0.refl _ | apply Drawn0.step)⟩
  · rw [if_neg c2] at H
    have c2b0 : decide (97 ≤ a0) = false := decide_eq_false c2
    clear c2
    obtain rfl := Option.some.inj H
    go_enter Try.func69, Try.ntmps69
    go_wp2
    go_ret
    exact ⟨by first | rfl | (simp; done) | (simp [*]; done), by repeat (first | exact Drawn0.refl _ | apply Drawn0.step)⟩

/-! ### lex_digit: function 104 -/
def lex_digit.f (a0 : Int) : Option (Bool) := if a0 ≥ 48 then (some (decide (a0 ≤ 57))) else (some false)
set_option maxHeartbeats 8000000 in
set_option maxRecDepth 100000 in
theorem lex_digit.calls (a0 : Int) (r : Bool) (w : World) (h : lex_digit.f a0 = some r) :
    Calls Try.prog 104 #[.int .u8 a0] w fun e w' => e = .returned (.bool r) ∧ Drawn0 w w' := by
  have H : (if a0 ≥ 48 then (some (decide (a0 ≤ 57))) else (some false)) = some r := h
  clear h
  by_cases c2 : a0 ≥ 48
  · rw [if_pos c2] at H
    have c2b0 : decide (48 ≤ a0) = true := decide_eq_true c2
    clear c2
    obtain rfl := Option.some.inj H
    go_enter Try.func104, Try.ntmps104
    go_wp2
    go_ret
    exact ⟨by first | rfl | (simp; done) | (simp [*]; done), by repeat (first | exact Drawn0.refl _ | apply Drawn0.step)⟩
  · rw [if_neg c2] at H
    have c2b0 : decide (48 ≤ a0) = false := decide_eq_false c2
    clear c2
    obtain rfl := Option.some.inj H
    go_enter Try.func104, Try.ntmps104
    go_wp2
    go_ret
    exact ⟨by first | rfl | (simp; done) | (simp [*]; done), by repeat (first | exact Drawn0.refl _ | apply Drawn0.step)⟩

/-! ### lex_inName: function 68 -/
def lex_inName.f (a0 : Int) : Option (Bool) := (lex_small.f a0).bind fun t103 => (if t103 = true then (some true) else ((lex_digit.f a0).bind fun t104 => (if t104 = true then (some true) else (some (a0 == 45)))))
set_option maxHeartbeats 8000000 in
set_option maxRecDepth 100000 in
theorem lex_inName.calls (a0 : Int) (r : Bool) (w : World) (h : lex_inName.f a0 = some r) :
    Calls Try.prog 68 #[.int .u8 a0] w fun e w' => e = .returned (.bool r) ∧ Drawn0 w w' := by
  have H : ((lex_small.f a0).bind fun t103 => (if t103 = true then (some true) else ((lex_digit.f a0).bind fun t104 => (if t104 = true then (some true) else (some (a0 == 45)))))) = some r := h
  clear h
  replace H := Option.bind_eq_some_iff.mp H
  obtain ⟨t103, A20, H⟩ := H
  replace H : (if t103 = true then (some true) else ((lex_digit.f a0).bind fun t104 => (if t104 = true then (some true) else (some (a0 == 45))))) = some r := H
  have A2 := Aside0.mk A20
  clear A20
  by_cases c3 : t103 = true
  · subst c3
    have H1 : (some true) = some r := by rw [if_pos rfl] at H; exact H
    clear H
    have H := H1
    clear H1
    obtain rfl := Option.some.inj H
    go_enter Try.func68, Try.ntmps68
    go_wp2_with (first | ((with_reducible refine gate_callee (f := 69) rfl ?_); refine goesL_ (some 4) rfl rfl Try.func69 (by kernel_rfl) rfl #[.int .u8 a0] rfl (by (try simp only [List.map_toArray, List.map_cons, List.map_nil]); first | done | rfl | (simp only [List.length_drop, List.length_take]; rfl)) ?_; (with_reducible refine (lex_small.calls a0 true _ A2.out).mono ?_); rintro e w' ⟨rfl, ⟨nd, rfl⟩⟩; refine ⟨_, rfl, ?_⟩))
    go_ret
    exact ⟨by first | rfl | (simp; done) | (simp [*]; done), by repeat (first | exact Drawn0.refl _ | apply Drawn0.step)⟩
  · replace c3 := Bool.eq_false_iff.mpr c3
    subst c3
    have H1 : ((lex_digit.f a0).bind fun t104 => (if t104 = true then (some true) else (some (a0 == 45)))) = some r := by rw [if_neg (show ¬ (false = true) by decide)] at H; exact H
    clear H
    have H := H1
    clear H1
    replace H := Option.bind_eq_some_iff.mp H
    obtain ⟨t104, A40, H⟩ := H
    replace H : (if t104 = true then (some true) else (some (a0 == 45))) = some r := H
    have A4 := Aside0.mk A40
    clear A40
    by_cases c5 : t104 = true
    · subst c5
      have H1 : (some true) = some r := by rw [if_pos rfl] at H; exact H
      clear H
      have H := H1
      clear H1
      obtain rfl := Option.some.inj H
      go_enter Try.func68, Try.ntmps68
      go_wp2_with (first | ((with_reducible refine gate_callee (f := 69) rfl ?_); refine goesL_ (some 4) rfl rfl Try.func69 (by kernel_rfl) rfl #[.int .u8 a0] rfl (by (try simp only [List.map_toArray, List.map_cons, List.map_nil]); first | done | rfl | (simp only [List.length_drop, List.length_take]; rfl)) ?_; (with_reducible refine (lex_small.calls a0 false _ A2.out).mono ?_); rintro e w' ⟨rfl, ⟨nd, rfl⟩⟩; refine ⟨_, rfl, ?_⟩) | (go_at_call 104; (with_reducible refine (lex_digit.calls a0 true _ A4.out).mono ?_); rintro e w' ⟨rfl, ⟨nd, rfl⟩⟩))
      go_ret
      exact ⟨by first | rfl | (simp; done) | (simp [*]; done), by repeat (first | exact Drawn0.refl _ | apply Drawn0.step)⟩
    · replace c5 := Bool.eq_false_iff.mpr c5
      subst c5
      have H1 : (some (a0 == 45)) = some r := by rw [if_neg (show ¬ (false = true) by decide)] at H; exact H
      clear H
      have H := H1
      clear H1
      obtain rfl := Option.some.inj H
      go_enter Try.func68, Try.ntmps68
      go_wp2_with (first | ((with_reducible refine gate_callee (f := 69) rfl ?_); refine goesL_ (some 4) rfl rfl Try.func69 (by kernel_rfl) rfl #[.int .u8 a0] rfl (by (try simp only [List.map_toArray, List.map_cons, List.map_nil]); first | done | rfl | (simp only [List.length_drop, List.length_take]; rfl)) ?_; (with_reducible refine (lex_small.calls a0 false _ A2.out).mono ?_); rintro e w' ⟨rfl, ⟨nd, rfl⟩⟩; refine ⟨_, rfl, ?_⟩) | (go_at_call 104; (with_reducible refine (lex_digit.calls a0 false _ A4.out).mono ?_); rintro e w' ⟨rfl, ⟨nd, rfl⟩⟩))
      go_ret
      exact ⟨by first | rfl | (simp; done) | (simp [*]; done), by repeat (first | exact Drawn0.refl _ | apply Drawn0.step)⟩

/-! ### lex_scan_ends: function 103 -/
section
open Go
open Go.Proofs.YtpcnpmcknknfcaaW.Mine
set_option maxHeartbeats 1000000 in
theorem lex_scan_ends.yes (g : Nat) (s : ByteArray) (line col : Int) (v : Value) (told : List S40) (w : World) (hbk : w.heap[g]? = some (.cells #[.string s, .int .i64 line, .int .i64 col, v, .bool true] 89 (0, 0))) (hr : Kd.R k40 40 w (g + 1) (fun _ => True) v told) (hl : told.length < 140000) (h1 : 1 ≤ s.size) (hln : 0 ≤ line ∧ line ≤ 1000000) (hco : 0 ≤ col ∧ col ≤ 1000000) :
    Calls Try.prog 103 #[.pointer (some ⟨g, 0, none⟩)] w fun e w' => e = .returned (.tuple #[]) ∧ ∃ v', w'.heap[g]? = some (.cells #[.string (s.extract 1 s.size), .int .i64 (line + 1), .int .i64 1, v', .bool false] 89 (0, 0)) ∧
      Kd.R k40 40 w' (g + 1) (fun _ => True) v' (told ++ [(⟨4, ⟨#[]⟩, 0, line, col⟩ : S40)]) ∧ Below g w w' := by
  have BK := Aside0.mk hbk
  have HR := Aside0.mk hr
  have hx4 : w.cell? ⟨g, 4, none⟩ = some (.bool true) := (blk_cell hbk 4).trans rfl
  have hx1 : w.cell? ⟨g, 1, none⟩ = some (.int .i64 line) := (blk_cell hbk 1).trans rfl
  clear hbk hr
  go_enter Try.func103, Try.ntmps103
  go_wp2_with (go_at_call 59; (with_reducible refine (lex_scan_tell.calls g s line col v true told 4 1 0 _ BK.out HR.out hl (by omega) (by omega)).mono ?_); rintro e w1 ⟨rfl, v1, hbk1, hr1, hb1⟩; have BK1 := Aside0.mk hbk1; have HR1 := Aside0.mk hr1; have HB1 := Aside0.mk hb1; clear hbk1 hr1 hb1; have hz1 : w1.cell? ⟨g, 1, none⟩ = some (.int .i64 line) := (blk_cell BK1.out 1).trans rfl; have hz2 := (blk_cell BK1.out 2).trans rfl; have hf1 := blk_frozen BK1.out 1; have hf2 := blk_frozen BK1.out 2; clear hx1 hx4)
  first | go_end0 | ((try simp only [Exit.inBlock, Exit.then]); refine bodyPost_ret (results_none rfl _ _ _) rfl ?_)
  refine ⟨rfl, _, (blk_set (blk_set BK1.out 1 _) 2 _).trans rfl, ?_, (HB1.out.setCell (Nat.le_refl g) _).setCell (Nat.le_refl g) _⟩
  exact Kd.R_mono (Kd.R_far (Kd.R_bound (Kd.R_far (Kd.R_bound HR1.out) (fun k hk => (show k ≠ g from by have := hk.2.1; omega)) _)) (fun k hk => (show k ≠ g from by have := hk.2.1; omega)) _) (fun _ _ => trivial)
set_option maxHeartbeats 1000000 in
theorem lex_scan_ends.no (g : Nat) (s : ByteArray) (line col : Int) (v : Value) (told : List S40) (w : World) (hbk : w.heap[g]? = some (.cells #[.string s, .int .i64 line, .int .i64 col, v, .bool false] 89 (0, 0))) (hr : Kd.R k40 40 w (g + 1) (fun _ => True) v told) (hl : told.length < 140000) (h1 : 1 ≤ s.size) (hln : 0 ≤ line ∧ line ≤ 1000000) (hco : 0 ≤ col ∧ col ≤ 1000000) :
    Calls Try.prog 103 #[.pointer (some ⟨g, 0, none⟩)] w fun e w' => e = .returned (.tuple #[]) ∧ ∃ v', w'.heap[g]? = some (.cells #[.string (s.extract 1 s.size), .int .i64 (line + 1), .int .i64 1, v', .bool false] 89 (0, 0)) ∧
      Kd.R k40 40 w' (g + 1) (fun _ => True) v' told ∧ Below g w w' := by
  have BK := Aside0.mk hbk
  have HR := Aside0.mk hr
  have hx4 : w.cell? ⟨g, 4, none⟩ = some (.bool false) := (blk_cell hbk 4).trans rfl
  have hx1 : w.cell? ⟨g, 1, none⟩ = some (.int .i64 line) := (blk_cell hbk 1).trans rfl
  clear hbk hr
  go_enter Try.func103, Try.ntmps103
  go_wp2_with (go_at_call 101; (with_reducible refine (lex_scan_pass.calls g s line col v false 1 _ BK.out (by omega) (by omega)).mono ?_); rintro e w1 ⟨rfl, hbk1, ho1⟩; have BK1 := Aside0.mk hbk1; have HR1 : Aside0 (Kd.R k40 40 w1 (g + 1) (fun _ => True) v told) := ⟨Kd.R_mono (Kd.R_step (Kd.R_bound HR.out) (fun k hk _ => ho1.block k (by have := hk.2.1; omega))) (fun _ _ => trivial)⟩; have HB1 := Aside0.mk (ho1.below (Below.refl g w) (Nat.le_refl g)); clear hbk1 ho1; have hz1 : w1.cell? ⟨g, 1, none⟩ = some (.int .i64 line) := (blk_cell BK1.out 1).trans rfl; have hz2 := (blk_cell BK1.out 2).trans rfl; have hf1 := blk_frozen BK1.out 1; have hf2 := blk_frozen BK1.out 2; clear hx1 hx4)
  first | go_end0 | ((try simp only [Exit.inBlock, Exit.then]); refine bodyPost_ret (results_none rfl _ _ _) rfl ?_)
  refine ⟨rfl, _, (blk_set (blk_set BK1.out 1 _) 2 _).trans rfl, ?_, (HB1.out.setCell (Nat.le_refl g) _).setCell (Nat.le_refl g) _⟩
  exact Kd.R_mono (Kd.R_far (Kd.R_bound (Kd.R_far (Kd.R_bound HR1.out) (fun k hk => (show k ≠ g from by have := hk.2.1; omega)) _)) (fun k hk => (show k ≠ g from by have := hk.2.1; omega)) _) (fun _ _ => trivial)
theorem lex_scan_ends.calls (g : Nat) (s : ByteArray) (line col : Int) (v : Value) (any : Bool) (told : List S40) (w : World) (hbk : w.heap[g]? = some (.cells #[.string s, .int .i64 line, .int .i64 col, v, .bool any] 89 (0, 0))) (hr : Kd.R k40 40 w (g + 1) (fun _ => True) v told) (hl : told.length < 140000) (h1 : 1 ≤ s.size) (hln : 0 ≤ line ∧ line ≤ 1000000) (hco : 0 ≤ col ∧ col ≤ 1000000) :
    Calls Try.prog 103 #[.pointer (some ⟨g, 0, none⟩)] w fun e w' => e = .returned (.tuple #[]) ∧ ∃ v', w'.heap[g]? = some (.cells #[.string (s.extract 1 s.size), .int .i64 (line + 1), .int .i64 1, v', .bool false] 89 (0, 0)) ∧
      Kd.R k40 40 w' (g + 1) (fun _ => True) v' (if any = true then told ++ [(⟨4, ⟨#[]⟩, 0, line, col⟩ : S40)] else told) ∧ Below g w w' := by
  cases any with
  | true => rw [if_pos rfl]; exact lex_scan_ends.yes g s line col v told w hbk hr hl h1 hln hco
  | false => rw [if_neg (by decide)]; exact lex_scan_ends.no g s line col v told w hbk hr hl h1 hln hco
end


end Go.Proofs.Ytpcnpmcknknfcaa.PLsh
