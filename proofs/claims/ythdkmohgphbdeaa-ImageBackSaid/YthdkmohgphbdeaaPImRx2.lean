/- A text written by my program wip/gen/p2.py out of the translation and of my foreign texts; not trusted: Lean checks it. -/
import Derived.Test.YthdkmohgphbdeaaPImRx0
namespace Go.Proofs.Ythdkmohgphbdeaa.PImR
open Go.RowKit Go.Proofs.YthdkmohgphbdeaaW.PrintWords Go.Proofs.YthdkmohgphbdeaaW.PrintLast Go.Proofs.YthdkmohgphbdeaaW.PrintMore
attribute [local go_sem] max2_int min2_int max_two min_two max_three min_three max_four min_four   -- for this text's walks alone
set_option linter.unusedVariables false
set_option linter.unusedSimpArgs false

theorem cutlen_ {α : Type} {R : α → List Value → Prop} {sz : Nat} {w : World} {A : Option Addr} {n m : Nat} {xs : List α} (h : m = n) (g : ReadsRow R sz w A m xs) : ReadsRow R sz w A n xs := h ▸ g

/-! ### image_put: function 31 -/
def image_put.l0 : Nat → List Int → Int → Int → Option (List Int)
  | 0, _, _, _ => none
  | k + 1, x0, x2, x7 => if x7 ≥ 0 then (if 0 ≤ (wrap64 (8 * x7)) then (if x0.length < 140737488355328 then (image_put.l0 k (x0 ++ [(shr .u64 x2 (wrap64 (8 * x7))) % 256]) x2 (wrap64 (x7 - 1))) else (none)) else (none)) else (some x0)
def image_put.f (k : Nat) (l0 : List Int) (a1 : Int) (a2 : Int) : Option (List Int) := image_put.l0 k l0 a2 (wrap64 (a1 - 1))
theorem image_put.mono_l : ∀ k, (∀ y0 y1 y2, LeO (image_put.l0 k y0 y1 y2) (image_put.l0 (k + 1) y0 y1 y2))
  | 0 => fun _ _ _ r h => by simp [image_put.l0] at h
  | k + 1 => by
    have ih0 := image_put.mono_l k
    · intro y0 y1 y2
      unfold image_put.l0
      repeat' first
      | (with_reducible exact ih0 _ _ _)
      | (with_reducible exact LeO.refl _)
      | (with_reducible exact LeO.none _)
      | (with_reducible refine LeO.ite ?_ ?_)
      | (with_reducible refine LeO.bind ?_ (fun _ => ?_))
      | exact ih0 _ _ _
      | exact LeO.none _
      | refine LeO.ite ?_ ?_
      | refine LeO.bind ?_ (fun _ => ?_)
theorem image_put.mono : ∀ a0 a1 a2 k, LeO (image_put.f k a0 a1 a2) (image_put.f (k + 1) a0 a1 a2) := by
  intro a0 a1 a2 k
  have ih0 := image_put.mono_l k
  unfold image_put.f
  repeat' first
      | (with_reducible exact ih0 _ _ _)
      | (with_reducible exact LeO.refl _)
      | (with_reducible exact LeO.none _)
      | (with_reducible refine LeO.ite ?_ ?_)
      | (with_reducible refine LeO.bind ?_ (fun _ => ?_))
      | exact ih0 _ _ _
      | exact LeO.none _
      | refine LeO.ite ?_ ?_
      | refine LeO.bind ?_ (fun _ => ?_)
set_option maxHeartbeats 8000000 in
set_option maxRecDepth 100000 in
theorem image_put.calls (k : Nat) (P0_ : Nat → Prop) (u9000_ : Value) (l0 : List Int) (a1 : Int) (a2 : Int) (r : List Int) (w0 w : World) (hB : Below w0.heap.size w0 w) (ho0 : Kd.R (Kd.int .u8) 5 w w0.heap.size P0_ u9000_ l0) (h : image_put.f k l0 a1 a2 = some r) :
    Calls Try.prog 31 #[u9000_, .int .i64 a1, .int .u64 a2] w fun e w' => ∃ v0_ : Value, e = .returned (v0_) ∧ Kd.R (Kd.int .u8) 5 w' w0.heap.size (fun k_ => (P0_ k_ ∨ w.heap.size ≤ k_)) v0_ r ∧ Below w0.heap.size w0 w' ∧ Kept w w' (fun k_ => P0_ k_) := by
  have HO0 := Aside0.mk (show Kd.R (Kd.int .u8) 5 w w0.heap.size (fun k_ => (P0_ k_ ∨ w.heap.size ≤ k_)) u9000_ l0 from Kd.R_mono ho0 (fun k_ hk => (.inl hk)))
  have HK := Aside0.mk (Kept.refl w (fun k_ => P0_ k_))
  have HW0 := Aside0.mk hB.size
  have HB := Aside0.mk hB
  clear hB
  have H : (image_put.l0 k l0 a2 (wrap64 (a1 - 1))) = some r := h
  clear h
  have H' := Aside0.mk H
  clear H
  go_enter Try.func31, Try.ntmps31
  go_wp2
  go_loopg [0, 7] k (fun kq v0 v7 w' => ∃ (x0_1 : List Int) (x7_1 : Int), v7 = .int .i64 x7_1 ∧ Aside0 (image_put.l0 kq x0_1 a2 x7_1 = some r) ∧ Aside0 (kq ≤ k) ∧ Aside0 (Kd.R (Kd.int .u8) 5 w' w0.heap.size (fun k_ => (P0_ k_ ∨ w.heap.size ≤ k_)) v0 x0_1) ∧ Aside0 (Kept w w' (fun k_ => P0_ k_)) ∧ Aside0 (Below w0.heap.size w0 w'))
  case atStart => exact ⟨(l0), (wrap64 (a1 - 1)), (by first | rfl | (simp; done) | (simp [*]; done)), H', ⟨Nat.le_refl _⟩, ⟨by (with_reducible repeat (first | apply Kd.R_alloc | apply Kd.R_drewN | apply Kd.R_drew)); exact HO0.out⟩, ⟨by repeat (first | (with_reducible first | exact HK.out | apply Kept.alloc | apply Kept.drewN | apply Kept.drew) | exact HK.out)⟩, ⟨by repeat (first | (with_reducible first | exact HB.out | apply below_alloc | apply pw_below_drewN | apply below_drew1) | exact HB.out)⟩⟩
  case round =>
    clear H'
    try clear p2
    try clear c3
    obtain ⟨x0_1, x7_1, rfl, HA, HK1, HO_0, HK, HB⟩ := hrel
    cases gk with
    | zero => exact absurd HA.out (by simp [image_put.l0])
    | succ k1 =>
      have H := HA.out
      clear HA
      simp only [image_put.l0] at H
      by_cases c4 : x7_1 ≥ 0
      · rw [if_pos c4] at H
        have c4b0 : decide (0 ≤ x7_1) = true := decide_eq_true c4
        clear c4
        obtain ⟨ji5, hji5⟩ : ∃ j_ : Int, (wrap64 (8 * x7_1)) = j_ := ⟨_, rfl⟩
        replace H : (if 0 ≤ (ji5) then (if x0_1.length < 140737488355328 then (image_put.l0 k1 (x0_1 ++ [(shr .u64 a2 (ji5)) % 256]) a2 (wrap64 (x7_1 - 1))) else (none)) else (none)) = some r := by first | (rw [hji5] at H; exact H) | (simp only [hji5] at H ⊢; exact H)
        have hji5w : (IntKind.i64.wrap (8 * x7_1)) = ji5 := (i64_w _).trans hji5
        by_cases c6 : 0 ≤ (ji5)
        · rw [if_pos c6] at H
          have c6b0 := eq_true c6
          have c6b1 : decide (0 ≤ (ji5)) = true := decide_eq_true c6
          clear c6
          obtain ⟨ji7, hji7⟩ : ∃ j_ : Int, (shr .u64 a2 (ji5)) = j_ := ⟨_, rfl⟩
          replace H : (if x0_1.length < 140737488355328 then (image_put.l0 k1 (x0_1 ++ [(ji7) % 256]) a2 (wrap64 (x7_1 - 1))) else (none)) = some r := by first | (rw [hji7] at H; exact H) | (simp only [hji7] at H ⊢; exact H)
          have hji7_ : (a2 / 2 ^ min (ji5).toNat 64) = ji7 := hji7
          have hji7z : (ji5) ≤ 64 → (a2 / 2 ^ (ji5).toNat) = ji7 := shr_small hji7
          by_cases c8 : x0_1.length < 140737488355328
          · rw [if_pos c8] at H
            have LMc8 := Aside0.mk c8
            clear c8
            obtain ⟨y101, hy101⟩ : ∃ y_ : List Int, y_ = (x0_1 ++ [(ji7) % 256]) := ⟨_, rfl⟩
            replace H : (image_put.l0 k1 y101 a2 (wrap64 (x7_1 - 1))) = some r := by first | (rw [hy101]; with_reducible exact H) | (have H2_ := (Option.bind_some _ _).symm.trans H; rw [hy101]; with_reducible exact H2_) | (have H2_ := (Option.bind_some _ _).symm.trans H; with_reducible exact H2_) | with_reducible exact H | (rw [hy101]; exact H) | exact H
            have Ny101 := Aside0.mk hy101
            clear hy101
            have H' := Aside0.mk H
            clear H
            go_wp2_with (first | ((with_reducible refine gate_builtin (b := .append) (xs := #[.tmp 14, .tmp 20]) rfl ?_); at_builtin; refine Kd.R_append (Kd.int .u8) (w0 := w0) w0.heap.size rfl (.tmp 14) (.tmp 20) 24 5 (.int .u8 0) 1 rfl Try.underlying24 info5 rfl (by decide) (by omega) u0 x0_1 ((ji7) % 256) [.int .u8 ((ji7) % 256)] (fun k_ => (P0_ k_ ∨ w.heap.size ≤ k_)) (fun _ => False) rfl rfl ?aP (fun _ hk => hk.elim) ?aF ?aO ?aB ?aS ?aL ?_; (case aP => exact rfl); (case aB => exact (by repeat (first | (with_reducible first | exact HB.out | apply below_alloc | apply pw_below_drewN | apply below_drew1) | exact HB.out))); (case aF => exact (fun k_ hk => (.inr (Nat.le_trans (by first | exact HK.out.1 | exact (show Kept w _ (fun k_ => P0_ k_) from by repeat (first | (with_reducible first | exact HK.out | apply Kept.alloc | apply Kept.drewN | apply Kept.drew) | exact HK.out)).1) hk)))); (case aO => exact (by (with_reducible repeat (first | apply Kd.R_alloc | apply Kd.R_drewN | apply Kd.R_drew)); exact HO_0.out)); (case aS => exact (below_size (by repeat (first | (with_reducible first | exact HB.out | apply below_alloc | apply pw_below_drewN | apply below_drew1) | exact HB.out)))); (case aL => have := LMc8.out; omega); intro v102 w9 ho hb hg hat; rw [← Ny101.out] at ho; have n0_ := Aside0.mk (hb); have n1_ := Aside0.mk (Kept.of_grown (S := (fun k_ => P0_ k_)) hg (by repeat (first | (with_reducible first | exact HK.out | apply Kept.alloc | apply Kept.drewN | apply Kept.drew) | exact HK.out)) (fun k_ e_ => (HO_0.out.1 k_ e_))); have n2_ := Aside0.mk (ho); clear HB; clear HK; clear HO_0; have HB := n0_; have HK := n1_; have HO103 := n2_; clear n0_ n1_ n2_; clear ho hb hg hat))
            go_roundg k1
            case measure => have := HK1.out; omega
            case rel => exact ⟨(y101), (wrap64 (x7_1 - 1)), (by first | rfl | (simp; done) | (simp [*]; done)), H', ⟨by have := HK1.out; omega⟩, ⟨by (with_reducible repeat (first | apply Kd.R_alloc | apply Kd.R_drewN | apply Kd.R_drew)); exact HO103.out⟩, ⟨by repeat (first | (with_reducible first | exact HK.out | apply Kept.alloc | apply Kept.drewN | apply Kept.drew) | exact HK.out)⟩, ⟨by repeat (first | (with_reducible first | exact HB.out | apply below_alloc | apply pw_below_drewN | apply below_drew1) | exact HB.out)⟩⟩
          · rw [if_neg c8] at H
            exact absurd H (by simp)
        · rw [if_neg c6] at H
          exact absurd H (by simp)
      · rw [if_neg c4] at H
        have c4b0 : decide (0 ≤ x7_1) = false := decide_eq_false c4
        clear c4
        obtain rfl := Option.some.inj H
        go_wp2
        go_ret
        exact ⟨_, by first | rfl | (simp [errW_none, errW_some] <;> rfl) | (simp [*, errW_none, errW_some] <;> rfl), by (with_reducible repeat (first | apply Kd.R_alloc | apply Kd.R_drewN | apply Kd.R_drew)); exact HO_0.out, by repeat (first | (with_reducible first | exact HB.out | apply below_alloc | apply pw_below_drewN | apply below_drew1) | exact HB.out), by repeat (first | (with_reducible first | exact HK.out | apply Kept.alloc | apply Kept.drewN | apply Kept.drew) | exact HK.out)⟩

/-! ### image_Write: function 11 -/
section
open Go
open Go.Proofs.YthdkmohgphbdeaaW.Mine
attribute [local go_sem 2000] max_ints3
def image_Write.be8 (u : Int) : List Int := [(u / 72057594037927936) % 256, (u / 281474976710656) % 256, (u / 1099511627776) % 256, (u / 4294967296) % 256, (u / 16777216) % 256, (u / 65536) % 256, (u / 256) % 256, u % 256]
def image_Write.be4 (u : Int) : List Int := [(u / 16777216) % 256, (u / 65536) % 256, (u / 256) % 256, u % 256]
theorem image_Write.wr64 (n : Int) : 0 ≤ IntKind.u64.wrap n ∧ IntKind.u64.wrap n ≤ 18446744073709551615 := by
  simp only [IntKind.wrap, IntKind.signed, IntKind.bits]
  simp
  omega
theorem image_Write.wrid (n : Int) (h0 : 0 ≤ n) (h1 : n ≤ 18446744073709551615) : IntKind.u64.wrap n = n := by
  simp only [IntKind.wrap, IntKind.signed, IntKind.bits]
  simp
  omega
theorem image_Write.put8 (l : List Int) (u : Int) (hl : l.length < 100000) (h0 : 0 ≤ u) (h1 : u ≤ 18446744073709551615) : image_put.f 12 l 8 u = some (l ++ image_Write.be8 u) := by
  have e : ∀ m : Nat, m < 100 → (l.length + m < 140737488355328) = True := fun m hm => by simp; omega
  simp [image_put.f, image_put.l0, wrap64, shr, IntKind.bits, image_Write.be8]
  omega
theorem image_Write.put4 (l : List Int) (u : Int) (hl : l.length < 100000) (h0 : 0 ≤ u) (h1 : u ≤ 18446744073709551615) : image_put.f 12 l 4 u = some (l ++ image_Write.be4 u) := by
  simp [image_put.f, image_put.l0, wrap64, shr, IntKind.bits, image_Write.be4]
  omega
def image_Write.str (sA sB sC : ByteArray) : Nat → ByteArray
  | 0 => sA
  | 1 => sB
  | _ => sC
def image_Write.pre (op : Int) (sA sB sC : ByteArray) (n : Int) : Nat → List Int
  | 0 => [op] ++ image_Write.be8 (IntKind.u64.wrap n)
  | k + 1 => (image_Write.pre op sA sB sC n k ++ [((image_Write.str sA sB sC k).size : Int)]) ++ bytesOf (image_Write.str sA sB sC k)
theorem image_Write.pre_len (op : Int) (sA sB sC : ByteArray) (n : Int) (hA : (sA.size : Int) ≤ 255) (hB : (sB.size : Int) ≤ 255) (hC : (sC.size : Int) ≤ 255) : ∀ k, (image_Write.pre op sA sB sC n k).length ≤ 9 + 256 * k
  | 0 => by simp [image_Write.pre, image_Write.be8]
  | k + 1 => by
    have h := image_Write.pre_len op sA sB sC n hA hB hC k
    have h2 : (image_Write.str sA sB sC k).size ≤ 255 := by unfold image_Write.str; split <;> omega
    simp only [image_Write.pre, List.length_append, List.length_cons, List.length_nil, bytesOf_length]
    omega
theorem image_Write.index (sA sB sC : ByteArray) (w : World) : ∀ k : Nat, k < 3 → (Instr.index 65 (.agg #[.string sA, .string sB, .string sC]) (.int .i64 (k : Int))).run Try.prog w = .ok (.string (image_Write.str sA sB sC k)) w
  | 0, _ => by kernel_rfl
  | 1, _ => by kernel_rfl
  | 2, _ => by kernel_rfl
def image_Write.all (op : Int) (sA sB sC : ByteArray) (n : Int) (sT : ByteArray) : List Int := (image_Write.pre op sA sB sC n 3 ++ image_Write.be4 (sT.size : Int)) ++ bytesOf sT
def image_Write.T11 : Bool × List (List Nat × List Nat) := (true, [([], []), ([], []), ([1], [1]), ([2], [2]), ([3], [3]), ([0, 4], [0, 4]), ([], []), ([6], [6]), ([5, 7, 5], [5, 7]), ([8, 8, 0, 1, 2, 3, 4, 5, 6, 7, 8], [8]), ([9, 0, 1, 2, 3, 4, 5, 6, 7, 8, 9], [])])
def image_Write.B11 : List Nat := [0, 0, 2, 6, 14, 31, 0, 64, 255, 511, 1023]
theorem image_Write.tab11 : rtab .any (opsOf Try.f11 11) = image_Write.T11 := by kernel_rfl
theorem image_Write.bits11 : waitsOk image_Write.T11.2 image_Write.B11 = true := by kernel_rfl
set_option maxHeartbeats 4000000 in
set_option maxRecDepth 100000 in
theorem image_Write.good (op : Int) (sA sB sC : ByteArray) (n : Int) (sT : ByteArray) (h1 : ¬ op < 1) (h2 : ¬ op > 255) (hA : (sA.size : Int) ≤ 255) (hB : (sB.size : Int) ≤ 255) (hC : (sC.size : Int) ≤ 255) (hT : (sT.size : Int) ≤ 65536) (w : World) :
    Calls Try.prog 11 #[.agg #[.int .i64 op, .string sA, .string sB, .string sC, .int .i64 n, .string sT]] w fun e w' => ∃ v, e = .returned (.tuple #[v, .int .i64 0]) ∧ Kd.R (Kd.int .u8) 5 w' w.heap.size (fun _ => True) v (image_Write.all op sA sB sC n sT) ∧ Below w.heap.size w w' := by
  have c1 : decide (op < 1) = false := decide_eq_false h1
  have c2 : decide (255 < op) = false := decide_eq_false h2
  have c3 : decide (255 < mx3 (sA.size : Int) (sB.size : Int) (sC.size : Int)) = false := decide_eq_false (by unfold mx3; omega)
  have c6 : decide (65536 < (sT.size : Int)) = false := decide_eq_false (by omega)
  have HIX := Aside0.mk (image_Write.index sA sB sC)
  have HPL := Aside0.mk (image_Write.pre_len op sA sB sC n hA hB hC)
  go_enter Try.func11, Try.ntmps11
  have BK := Aside0.mk (heap_alloc_new w (.cells #[.int .i64 op, .string sA, .string sB, .string sC, .int .i64 n, .string sT] 23))
  have HB := Aside0.mk ((Below.refl w.heap.size w).alloc (Nat.le_refl _) (.cells #[.int .i64 op, .string sA, .string sB, .string sC, .int .i64 n, .string sT] 23))
  go_wp2_with (first
    | ((with_reducible refine gate_dst (N := 37) rfl ?_); refine Kd.R_lit (Kd.int .u8) _ 5 ?hg (N := 37) ?hd (xs := [op]) (inner := [.int .u8 op]) (ok := fun _ => True) (okp := fun _ => True) ?hr ?hp (fun _ hk => hk) trivial (Below.refl _ _) (Nat.le_refl _) (by simp) ?_; (case hd => rfl); (case hg => rfl); (case hr => first | (go_simp; done) | (go_simp; rfl)); (case hp => exact (Reps.one (show Kd.M (Kd.int .u8) _ _ _ op [.int .u8 op] from rfl) (Reps.none _ _))); intro v w2 ho hb hg_ hn_; clear hg_ hn_; have n0_ := Aside0.mk (Kd.R_lower ho (below_size (by repeat (first | (with_reducible first | exact HB.out | apply below_alloc | apply pw_below_drewN | apply below_drew1) | exact HB.out)))); have n1_ := Aside0.mk (below_step (by repeat (first | (with_reducible first | exact HB.out | apply below_alloc | apply pw_below_drewN | apply below_drew1) | exact HB.out)) hb); have n2_ := Aside0.mk (blk_below (by (with_reducible repeat (first | refine blk_drewN ?_ _ | refine blk_drew ?_ | refine blk_alloc ?_ _)); exact BK.out) hb); clear HB BK; (try clear hx0 hx1 hx2 hx3 hx4 hx5); have HO := n0_; have HB := n1_; have BK := n2_; clear n0_ n1_ n2_ ho hb; have hx0 := (blk_cell BK.out 0).trans rfl; have hx1 := (blk_cell BK.out 1).trans rfl; have hx2 := (blk_cell BK.out 2).trans rfl; have hx3 := (blk_cell BK.out 3).trans rfl; have hx4 := (blk_cell BK.out 4).trans rfl; have hx5 := (blk_cell BK.out 5).trans rfl)
    | (go_at_call 31; (with_reducible refine (image_put.calls 12 _ _ [op] 8 (IntKind.u64.wrap n) ([op] ++ image_Write.be8 (IntKind.u64.wrap n)) w _ HB.out (own_alone HO.out) (image_Write.put8 _ _ (by simp) (image_Write.wr64 n).1 (image_Write.wr64 n).2)).mono ?_); rintro e w2 ⟨v2, rfl, ho, hb, hk⟩; have n2_ := Aside0.mk (kept_blk (5) 23 (by decide) HO.out BK.out hk); clear HO HB BK hk; (try clear hx0 hx1 hx2 hx3 hx4 hx5); have HO := Aside0.mk (Kd.R_mono ho (fun _ _ => trivial)); have HB := Aside0.mk hb; have BK := n2_; clear n2_ ho hb; have hx0 := (blk_cell BK.out 0).trans rfl; have hx1 := (blk_cell BK.out 1).trans rfl; have hx2 := (blk_cell BK.out 2).trans rfl; have hx3 := (blk_cell BK.out 3).trans rfl; have hx4 := (blk_cell BK.out 4).trans rfl; have hx5 := (blk_cell BK.out 5).trans rfl))
  go_loopw [4, 49] (fun b i wr => ∃ k : Nat, k ≤ 3 ∧ i = .int .i64 k ∧ Kd.R (Kd.int .u8) 5 wr w.heap.size (fun _ => True) b (image_Write.pre op sA sB sC n k) ∧ Below w.heap.size w wr ∧ wr.heap[w.heap.size]? = some (.cells #[.int .i64 op, .string sA, .string sB, .string sC, .int .i64 n, .string sT] 23 (0, 0))) (fun _ i _ => 3 - (intOf i).toNat)
  case atStart => exact ⟨0, by omega, rfl, HO.out, HB.out, BK.out⟩
  case round =>
    obtain ⟨k, hk, rfl, ho, hb, hbk⟩ := hrel
    clear hx0 hx1 hx2 hx3 hx4 hx5 HO HB BK
    have HO := Aside0.mk ho
    have HB := Aside0.mk hb
    have BK := Aside0.mk hbk
    clear ho hb hbk
    by_cases hlt : k < 3
    · have hix := fun W => HIX.out W k hlt
      have hs2 : (image_Write.str sA sB sC k).size ≤ 255 := by unfold image_Write.str; split <;> omega
      have hpl := HPL.out k
      have HPS : Aside0 (image_Write.pre op sA sB sC n (k + 1) = (image_Write.pre op sA sB sC n k ++ [((image_Write.str sA sB sC k).size : Int)]) ++ bytesOf (image_Write.str sA sB sC k)) := ⟨rfl⟩
      generalize image_Write.str sA sB sC k = s at *
      generalize image_Write.pre op sA sB sC n k = xs at *
      go_wp2_with (first
        | ((with_reducible refine gate_builtin (b := .append) (xs := #[.tmp 52, .tmp 56]) rfl ?_); at_builtin; refine Kd.R_append (Kd.int .u8) (w0 := w) w.heap.size rfl (.tmp 52) (.tmp 56) 24 5 (.int .u8 0) 1 rfl Try.underlying24 info5 rfl (by decide) (by omega) _ xs (s.size : Int) [.int .u8 (s.size : Int)] (fun _ => True) (fun _ => False) rfl rfl ?aP (fun _ hk => hk.elim) ?aF ?aO ?aB ?aS ?aL ?_; (case aP => exact rfl); (case aB => exact (by repeat (first | (with_reducible first | exact HB.out | apply below_alloc | apply pw_below_drewN | apply below_drew1) | exact HB.out))); (case aF => exact (fun _ _ => trivial)); (case aO => exact (by (with_reducible repeat (first | apply Kd.R_alloc | apply Kd.R_drewN | apply Kd.R_drew)); exact HO.out)); (case aS => exact (below_size (by repeat (first | (with_reducible first | exact HB.out | apply below_alloc | apply pw_below_drewN | apply below_drew1) | exact HB.out)))); (case aL => omega); intro v w2 ho hb hg hat; have n2_ := Aside0.mk (own_blk (d := Kd.int .u8) (e := 5) (t := 23) (by decide) (by (with_reducible repeat (first | apply Kd.R_alloc | apply Kd.R_drewN | apply Kd.R_drew)); exact HO.out) (by (with_reducible repeat (first | refine blk_drewN ?_ _ | refine blk_drew ?_ | refine blk_alloc ?_ _)); exact BK.out) hg); clear HO HB BK; have HO := Aside0.mk ho; have HB := Aside0.mk hb; have BK := n2_; clear n2_ ho hb hg hat)
        | ((with_reducible refine gate_builtin (b := .append) (xs := #[.tmp 57, .tmp 58]) rfl ?_); at_builtin; refine R_append_str (ok := fun _ => True) (w0 := w) w.heap.size rfl (.tmp 57) (.tmp 58) 24 9 5 rfl Try.underlying24 Try.underlying9 info5 _ (xs ++ [(s.size : Int)]) s rfl rfl ?aO ?aB ?aS ?aL ?_; (case aB => exact (by repeat (first | (with_reducible first | exact HB.out | apply below_alloc | apply pw_below_drewN | apply below_drew1) | exact HB.out))); (case aO => exact (by (with_reducible repeat (first | apply Kd.R_alloc | apply Kd.R_drewN | apply Kd.R_drew)); exact HO.out)); (case aS => exact (below_size (by repeat (first | (with_reducible first | exact HB.out | apply below_alloc | apply pw_below_drewN | apply below_drew1) | exact HB.out)))); (case aL => simp only [List.length_append, List.length_cons, List.length_nil]; omega); intro v w2 ho hb hg; have n2_ := Aside0.mk (own_blk (d := Kd.int .u8) (e := 5) (t := 23) (by decide) (by (with_reducible repeat (first | apply Kd.R_alloc | apply Kd.R_drewN | apply Kd.R_drew)); exact HO.out) (by (with_reducible repeat (first | refine blk_drewN ?_ _ | refine blk_drew ?_ | refine blk_alloc ?_ _)); exact BK.out) hg); clear HO HB BK; have HO := Aside0.mk ho; have HB := Aside0.mk hb; have BK := n2_; clear n2_ ho hb hg))
      go_roundw
      case rel => exact ⟨k + 1, by omega, by go_num, by rw [HPS.out]; exact HO.out, HB.out, BK.out⟩
      case measure => simp [intOf]; omega
    · obtain rfl : k = 3 := by omega
      have hx0 := (blk_cell BK.out 0).trans rfl
      have hx1 := (blk_cell BK.out 1).trans rfl
      have hx2 := (blk_cell BK.out 2).trans rfl
      have hx3 := (blk_cell BK.out 3).trans rfl
      have hx4 := (blk_cell BK.out 4).trans rfl
      have hx5 := (blk_cell BK.out 5).trans rfl
      go_wp2
      refine start_ (n := 11) (S := fun w' => w'.cell? ⟨w.heap.size, 5, none⟩ = some (.string sT)) (ds := []) #[false, false, false, false, false, false, false, false, false, false, false] (by kernel_rfl) rfl rfl (by first | exact hx5 | (simp; exact hx5)) (fun hHeld => ?_); refine with_tabW image_Write.tab11 image_Write.bits11 (fun HT_ HW_ => ?_)
      refine pure_ (i := 0) (N := (some 61)) (v := ?_) (a' := ?_) #[true, false, false, false, false, false, false, false, false, false, false] rfl rfl (any_of HT_.out (by kernel_rfl)) (fun _ _ _ h => h) (Or.inl ⟨by rfl, ?_⟩) ?_ ?_
      rotate_left
      · intro w'
        go_simp
        with_reducible rfl
      rotate_left
      · simp only [Act.put, List.setIfInBounds_toArray, List.set_cons_zero, List.set_cons_succ, i64_w, i32_w]
        rfl
      refine pure_ (i := 1) (N := (some 62)) (v := ?_) (a' := ?_) #[true, true, false, false, false, false, false, false, false, false, false] rfl rfl (any_of HT_.out (by kernel_rfl)) (fun _ _ _ h => h) (Or.inl ⟨by rfl, ?_⟩) ?_ ?_
      rotate_left
      · intro w'
        go_simp
        with_reducible rfl
      rotate_left
      · simp only [Act.put, List.setIfInBounds_toArray, List.set_cons_zero, List.set_cons_succ, i64_w, i32_w]
        rfl
      refine pure_ (i := 6) (N := (some 67)) (v := ?_) (a' := ?_) #[true, true, false, false, false, false, true, false, false, false, false] rfl rfl (any_of HT_.out (by kernel_rfl)) (fun _ _ _ h => h) (Or.inl ⟨by rfl, ?_⟩) ?_ ?_
      rotate_left
      · intro w'
        go_simp
        with_reducible rfl
      rotate_left
      · simp only [Act.put, List.setIfInBounds_toArray, List.set_cons_zero, List.set_cons_succ, i64_w, i32_w]
        rfl
      refine take_ (i := 2) (N := (some 63)) (v := ?_) (a' := ?_) #[true, true, true, false, false, false, true, false, false, false, false] rfl rfl (take_ofW HT_.out HW_.out (by kernel_rfl)) (fun _ _ _ h => h) (Or.inl ⟨by rfl, ?_⟩) hHeld ?_ ?_
      rotate_left
      · intro w' s0
        go_simp
        with_reducible rfl
      rotate_left
      · simp only [Act.put, List.setIfInBounds_toArray, List.set_cons_zero, List.set_cons_succ, i64_w, i32_w]
        rfl
      refine take_ (i := 7) (N := (some 68)) (v := ?_) (a' := ?_) #[true, true, true, false, false, false, true, true, false, false, false] rfl rfl (take_ofW HT_.out HW_.out (by kernel_rfl)) (fun _ _ _ h => h) (Or.inl ⟨by rfl, ?_⟩) hHeld ?_ ?_
      rotate_left
      · intro w' s0
        go_simp
        with_reducible rfl
      rotate_left
      · simp only [Act.put, List.setIfInBounds_toArray, List.set_cons_zero, List.set_cons_succ, i64_w, i32_w]
        rfl
      refine pure_ (i := 3) (N := (some 64)) (v := ?_) (a' := ?_) #[true, true, true, true, false, false, true, true, false, false, false] rfl rfl (any_of HT_.out (by kernel_rfl)) (fun _ _ _ h => h) (Or.inl ⟨by rfl, ?_⟩) ?_ ?_
      rotate_left
      · intro w'
        go_simp
        with_reducible rfl
      rotate_left
      · simp only [Act.put, List.setIfInBounds_toArray, List.set_cons_zero, List.set_cons_succ, i64_w, i32_w]
        rfl
      refine pure_ (i := 4) (N := (some 65)) (v := ?_) (a' := ?_) #[true, true, true, true, true, false, true, true, false, false, false] rfl rfl (any_of HT_.out (by kernel_rfl)) (fun _ _ _ h => h) (Or.inl ⟨by rfl, ?_⟩) ?_ ?_
      rotate_left
      · intro w'
        go_simp
        with_reducible rfl
      rotate_left
      · simp only [Act.put, List.setIfInBounds_toArray, List.set_cons_zero, List.set_cons_succ, i64_w, i32_w]
        rfl
      refine one_ (i := 5) (N := (some 66)) #[true, true, true, true, true, true, true, true, false, false, false] rfl rfl (one_of HT_.out (by kernel_rfl)) (by decide) (fun K hK => ?_)
      refine goes_ Try.func31 (by kernel_rfl) rfl #[u4, .int .i64 4, .int .u64 (IntKind.u64.wrap (sT.size : Int))] (by rfl) rfl rfl (by (try simp only [List.map_toArray, List.map_cons, List.map_nil]); first | done | rfl) ?_
      with_reducible refine (image_put.calls 12 _ _ (image_Write.pre op sA sB sC n 3) 4 (IntKind.u64.wrap (sT.size : Int)) (image_Write.pre op sA sB sC n 3 ++ image_Write.be4 (sT.size : Int)) w _ ?side0 (own_alone (ok := fun _ => True) ?side1) ?side2).mono ?_
      (case side0 => exact (by repeat (first | (with_reducible first | exact HB.out | apply below_alloc | apply pw_below_drewN | apply below_drew1) | exact HB.out)))
      (case side1 => exact (by (with_reducible repeat (first | apply Kd.R_alloc | apply Kd.R_drewN | apply Kd.R_drew)); exact HO.out))
      (case side2 => rw [image_Write.wrid _ (by omega) (by omega)]; exact image_Write.put4 _ _ (by have := HPL.out 3; omega) (by omega) (by omega))
      rintro e w2 ⟨v2, rfl, ho, hb, hk⟩
      refine ⟨_, rfl, ?_⟩
      have n2_ := Aside0.mk (kept_blk (5) 23 (by decide) (by (with_reducible repeat (first | apply Kd.R_alloc | apply Kd.R_drewN | apply Kd.R_drew)); exact HO.out) (by (with_reducible repeat (first | refine blk_drewN ?_ _ | refine blk_drew ?_ | refine blk_alloc ?_ _)); exact BK.out) hk)
      clear HO HB BK hk hx0 hx1 hx2 hx3 hx4 hx5
      have HO := Aside0.mk (Kd.R_mono ho (fun _ _ => trivial))
      have HB := Aside0.mk hb
      have BK := n2_
      clear n2_ ho hb
      have hx5 := (blk_cell BK.out 5).trans rfl
      refine hK.out _ _ (hx5) (fun hHeld => ?_)
      clear hK K
      refine norm_ (a' := ?_) ?_ ?_
      rotate_left
      · show Act.put _ (some 66) _ = _
        simp only [Act.put, List.setIfInBounds_toArray, List.set_cons_zero, List.set_cons_succ, i64_w, i32_w]
        rfl
      refine one_ (i := 8) (N := (some 69)) #[true, true, true, true, true, true, true, true, true, false, false] rfl rfl (one_of HT_.out (by kernel_rfl)) (by decide) (fun K hK => ?_)
      refine R_append_str_step (ok := fun _ => True) (w0 := w) w.heap.size (by rfl) (.tmp 66) (.tmp 68) 24 9 5 rfl Try.underlying24 Try.underlying9 info5 _ (image_Write.pre op sA sB sC n 3 ++ image_Write.be4 (sT.size : Int)) sT rfl rfl ?aO ?aB ?aS ?aL ?_
      (case aB => exact (by repeat (first | (with_reducible first | exact HB.out | apply below_alloc | apply pw_below_drewN | apply below_drew1) | exact HB.out)))
      (case aO => exact (by (with_reducible repeat (first | apply Kd.R_alloc | apply Kd.R_drewN | apply Kd.R_drew)); exact HO.out))
      (case aS => exact (below_size (by repeat (first | (with_reducible first | exact HB.out | apply below_alloc | apply pw_below_drewN | apply below_drew1) | exact HB.out))))
      (case aL => have := HPL.out 3; simp only [List.length_append, image_Write.be4, List.length_cons, List.length_nil]; omega)
      intro v w3 ho hb hg
      have n2_ := Aside0.mk (own_blk (d := Kd.int .u8) (e := 5) (t := 23) (by decide) (by (with_reducible repeat (first | apply Kd.R_alloc | apply Kd.R_drewN | apply Kd.R_drew)); exact HO.out) (by (with_reducible repeat (first | refine blk_drewN ?_ _ | refine blk_drew ?_ | refine blk_alloc ?_ _)); exact BK.out) hg)
      clear HO HB BK hg hx5
      have HO := Aside0.mk ho
      have HB := Aside0.mk hb
      have BK := n2_
      clear n2_ ho hb
      have hx5 := (blk_cell BK.out 5).trans rfl
      refine hK.out _ _ (hx5) (fun hHeld => ?_)
      clear hK K
      refine norm_ (a' := ?_) ?_ ?_
      rotate_left
      · show Act.put _ (some 69) _ = _
        simp only [Act.put, List.setIfInBounds_toArray, List.set_cons_zero, List.set_cons_succ, i64_w, i32_w]
        rfl
      refine pure_ (i := 9) (N := (some 2)) (v := ?_) (a' := ?_) #[true, true, true, true, true, true, true, true, true, true, false] rfl rfl (any_of HT_.out (by kernel_rfl)) (fun _ _ _ h => h) (Or.inl ⟨by rfl, ?_⟩) ?_ ?_
      rotate_left
      · intro w'
        go_simp
        with_reducible rfl
      rotate_left
      · simp only [Act.put, List.setIfInBounds_toArray, List.set_cons_zero, List.set_cons_succ, i64_w, i32_w]
        rfl
      refine pure_ (i := 10) (N := (some 3)) (v := ?_) (a' := ?_) #[true, true, true, true, true, true, true, true, true, true, true] rfl rfl (any_of HT_.out (by kernel_rfl)) (fun _ _ _ h => h) (Or.inl ⟨by rfl, ?_⟩) ?_ ?_
      rotate_left
      · intro w'
        go_simp
        with_reducible rfl
      rotate_left
      · simp only [Act.put, List.setIfInBounds_toArray, List.set_cons_zero, List.set_cons_succ, i64_w, i32_w]
        rfl
      refine done_ (done_of HT_.out (by kernel_rfl)) ?_
      go_wp2
      go_ret2
      exact ⟨_, rfl, HO.out, HB.out⟩
def image_Write.f (op : Int) (sA sB sC : ByteArray) (n : Int) (sT : ByteArray) : Option (List Int × Int) :=
  if op < 1 then some ([], 1) else if op > 255 then some ([], 1) else if mx3 (sA.size : Int) (sB.size : Int) (sC.size : Int) > 255 then some ([], 2) else if (sT.size : Int) > 65536 then some ([], 2) else some (image_Write.all op sA sB sC n sT, 0)
set_option maxHeartbeats 1000000 in
theorem image_Write.bad0 (op : Int) (sA sB sC : ByteArray) (n : Int) (sT : ByteArray) (h1 : op < 1) (w : World) :
    Calls Try.prog 11 #[.agg #[.int .i64 op, .string sA, .string sB, .string sC, .int .i64 n, .string sT]] w fun e w' => ∃ v, e = .returned (.tuple #[v, .int .i64 1]) ∧ Kd.R (Kd.int .u8) 5 w' w.heap.size (fun _ => True) v [] ∧ Below w.heap.size w w' := by
  have c1 : decide (op < 1) = true := decide_eq_true h1
  go_enter Try.func11, Try.ntmps11
  go_wp2
  go_ret2
  exact ⟨_, rfl, Kd.R_nil _ _ _ _ _, (Below.refl _ _).alloc (Nat.le_refl _) _⟩
set_option maxHeartbeats 1000000 in
theorem image_Write.bad1 (op : Int) (sA sB sC : ByteArray) (n : Int) (sT : ByteArray) (h1 : ¬ (op < 1)) (h2 : op > 255) (w : World) :
    Calls Try.prog 11 #[.agg #[.int .i64 op, .string sA, .string sB, .string sC, .int .i64 n, .string sT]] w fun e w' => ∃ v, e = .returned (.tuple #[v, .int .i64 1]) ∧ Kd.R (Kd.int .u8) 5 w' w.heap.size (fun _ => True) v [] ∧ Below w.heap.size w w' := by
  have c1 : decide (op < 1) = false := decide_eq_false h1
  have c2 : decide (255 < op) = true := decide_eq_true h2
  go_enter Try.func11, Try.ntmps11
  go_wp2
  go_ret2
  exact ⟨_, rfl, Kd.R_nil _ _ _ _ _, (Below.refl _ _).alloc (Nat.le_refl _) _⟩
set_option maxHeartbeats 1000000 in
theorem image_Write.bad2 (op : Int) (sA sB sC : ByteArray) (n : Int) (sT : ByteArray) (h1 : ¬ (op < 1)) (h2 : ¬ (op > 255)) (h3 : mx3 (sA.size : Int) (sB.size : Int) (sC.size : Int) > 255) (w : World) :
    Calls Try.prog 11 #[.agg #[.int .i64 op, .string sA, .string sB, .string sC, .int .i64 n, .string sT]] w fun e w' => ∃ v, e = .returned (.tuple #[v, .int .i64 2]) ∧ Kd.R (Kd.int .u8) 5 w' w.heap.size (fun _ => True) v [] ∧ Below w.heap.size w w' := by
  have c1 : decide (op < 1) = false := decide_eq_false h1
  have c2 : decide (255 < op) = false := decide_eq_false h2
  have c3 : decide (255 < mx3 (sA.size : Int) (sB.size : Int) (sC.size : Int)) = true := decide_eq_true h3
  go_enter Try.func11, Try.ntmps11
  go_wp2
  go_ret2
  exact ⟨_, rfl, Kd.R_nil _ _ _ _ _, (Below.refl _ _).alloc (Nat.le_refl _) _⟩
set_option maxHeartbeats 1000000 in
theorem image_Write.bad3 (op : Int) (sA sB sC : ByteArray) (n : Int) (sT : ByteArray) (h1 : ¬ (op < 1)) (h2 : ¬ (op > 255)) (h3 : ¬ (mx3 (sA.size : Int) (sB.size : Int) (sC.size : Int) > 255)) (h4 : (sT.size : Int) > 65536) (w : World) :
    Calls Try.prog 11 #[.agg #[.int .i64 op, .string sA, .string sB, .string sC, .int .i64 n, .string sT]] w fun e w' => ∃ v, e = .returned (.tuple #[v, .int .i64 2]) ∧ Kd.R (Kd.int .u8) 5 w' w.heap.size (fun _ => True) v [] ∧ Below w.heap.size w w' := by
  have c1 : decide (op < 1) = false := decide_eq_false h1
  have c2 : decide (255 < op) = false := decide_eq_false h2
  have c3 : decide (255 < mx3 (sA.size : Int) (sB.size : Int) (sC.size : Int)) = false := decide_eq_false h3
  have c4 : decide (65536 < (sT.size : Int)) = true := decide_eq_true h4
  go_enter Try.func11, Try.ntmps11
  go_wp2
  go_ret2
  exact ⟨_, rfl, Kd.R_nil _ _ _ _ _, (Below.refl _ _).alloc (Nat.le_refl _) _⟩
theorem image_Write.calls (a0_0 : Int) (a0_1 : ByteArray) (a0_2 : ByteArray) (a0_3 : ByteArray) (a0_4 : Int) (a0_5 : ByteArray) (r1 : List Int) (r2 : Int) (w : World) (h : image_Write.f a0_0 a0_1 a0_2 a0_3 a0_4 a0_5 = some (r1, r2)) :
    Calls Try.prog 11 #[.agg #[.int .i64 a0_0, .string a0_1, .string a0_2, .string a0_3, .int .i64 a0_4, .string a0_5]] w fun e w' => ∃ v0_ : Value, e = .returned (.tuple #[v0_, .int .i64 r2]) ∧ Kd.R (Kd.int .u8) 5 w' w.heap.size (fun _ => True) v0_ r1 ∧ Below w.heap.size w w' := by
  unfold image_Write.f at h
  by_cases h1 : a0_0 < 1
  · rw [if_pos h1] at h; injection h with h; injection h with q1 q2; subst q1; subst q2; exact image_Write.bad0 _ _ _ _ _ _ h1 w
  rw [if_neg h1] at h
  by_cases h2 : a0_0 > 255
  · rw [if_pos h2] at h; injection h with h; injection h with q1 q2; subst q1; subst q2; exact image_Write.bad1 _ _ _ _ _ _ h1 h2 w
  rw [if_neg h2] at h
  by_cases h3 : mx3 (a0_1.size : Int) (a0_2.size : Int) (a0_3.size : Int) > 255
  · rw [if_pos h3] at h; injection h with h; injection h with q1 q2; subst q1; subst q2; exact image_Write.bad2 _ _ _ _ _ _ h1 h2 h3 w
  rw [if_neg h3] at h
  by_cases h4 : (a0_5.size : Int) > 65536
  · rw [if_pos h4] at h; injection h with h; injection h with q1 q2; subst q1; subst q2; exact image_Write.bad3 _ _ _ _ _ _ h1 h2 h3 h4 w
  rw [if_neg h4] at h
  injection h with h; injection h with q1 q2; subst q1; subst q2
  exact image_Write.good _ _ _ _ _ _ h1 h2 (by unfold mx3 at h3; omega) (by unfold mx3 at h3; omega) (by unfold mx3 at h3; omega) (by omega) w
end


/-! ### provostlaw21_wakes: function 13 -/
def provostlaw21_wakes.f  : Option (Bool) := (image_Write.f 20 (⟨#[97, 110, 110]⟩ : ByteArray) (⟨#[115, 105, 103, 110]⟩ : ByteArray) (⟨#[]⟩ : ByteArray) 3 (⟨#[]⟩ : ByteArray)).bind fun bt104 => (if bt104.2 = 0 then (some ((strOfNums bt104.1).toList == ([20, 0, 0, 0, 0, 0, 0, 0, 3, 3, 97, 110, 110, 4, 115, 105, 103, 110, 0, 0, 0, 0, 0] : List UInt8))) else (some false))
set_option maxHeartbeats 8000000 in
set_option maxRecDepth 100000 in
theorem provostlaw21_wakes.calls  (r : Bool) (w : World) (h : provostlaw21_wakes.f  = some r) :
    Calls Try.prog 13 #[] w fun e w' => e = .returned (.bool r) ∧ Below w.heap.size w w' := by
  have hu23 := Try.underlying23
  have HB := Aside0.mk (Below.refl w.heap.size w)
  have H : ((image_Write.f 20 (⟨#[97, 110, 110]⟩ : ByteArray) (⟨#[115, 105, 103, 110]⟩ : ByteArray) (⟨#[]⟩ : ByteArray) 3 (⟨#[]⟩ : ByteArray)).bind fun bt104 => (if bt104.2 = 0 then (some ((strOfNums bt104.1).toList == ([20, 0, 0, 0, 0, 0, 0, 0, 3, 3, 97, 110, 110, 4, 115, 105, 103, 110, 0, 0, 0, 0, 0] : List UInt8))) else (some false))) = some r := h
  clear h
  replace H := Option.bind_eq_some_iff.mp H
  obtain ⟨⟨t104, t107⟩, A10, H⟩ := H
  replace H : (if t107 = 0 then (some ((strOfNums t104).toList == ([20, 0, 0, 0, 0, 0, 0, 0, 3, 3, 97, 110, 110, 4, 115, 105, 103, 110, 0, 0, 0, 0, 0] : List UInt8))) else (some false)) = some r := H
  have A1 := Aside0.mk A10
  clear A10
  by_cases c2 : t107 = 0
  · rw [if_pos c2] at H
    have c2b0 : (t107 == 0) = true := beq_iff_eq.mpr c2
    have c2b1 : (t107 != 0) = false := bne_eq_false_iff_eq.mpr c2
    clear c2
    obtain rfl := Option.some.inj H
    go_enter Try.func13, Try.ntmps13
    go_wp2_with (first | ((with_reducible refine gate_callee (f := 11) rfl ?_); refine goesL_ (some 5) rfl rfl Try.func11 (by kernel_rfl) rfl #[.agg #[.int .i64 20, .string (⟨#[97, 110, 110]⟩ : ByteArray), .string (⟨#[115, 105, 103, 110]⟩ : ByteArray), .string (⟨#[]⟩ : ByteArray), .int .i64 3, .string (⟨#[]⟩ : ByteArray)]] rfl (by (try simp only [List.map_toArray, List.map_cons, List.map_nil]); first | done | rfl | (simp only [List.length_drop, List.length_take]; rfl)) ?_; (with_reducible refine (image_Write.calls 20 (⟨#[97, 110, 110]⟩ : ByteArray) (⟨#[115, 105, 103, 110]⟩ : ByteArray) (⟨#[]⟩ : ByteArray) 3 (⟨#[]⟩ : ByteArray) t104 t107 _ A1.out).mono ?_); rintro e w3 ⟨v105, rfl, ho0, hb⟩; refine ⟨_, rfl, ?_⟩; have n0_ := Aside0.mk (Kd.R_lower ho0 (below_size (by repeat (first | (with_reducible first | exact HB.out | apply below_alloc | apply pw_below_drewN | apply below_drew1) | exact HB.out)))); have n1_ := Aside0.mk (below_step (by repeat (first | (with_reducible first | exact HB.out | apply below_alloc | apply pw_below_drewN | apply below_drew1) | exact HB.out)) hb); clear HB; have HO106 := n0_; have HB := n1_; clear n0_ n1_; (try clear hb); (try clear hb2); (try clear hk); (try clear hi); (try clear ho0); have hcv4 := own_string (P := Try.prog) Try.underlying24 Try.underlying5 Try.underlying9 (Kd.own_of_R HO106.out)))
    go_ret
    exact ⟨by first | rfl | (simp [errW_none, errW_some] <;> rfl) | (simp [*, errW_none, errW_some] <;> rfl), by repeat (first | (with_reducible first | exact HB.out | apply below_alloc | apply pw_below_drewN | apply below_drew1) | exact HB.out)⟩
  · rw [if_neg c2] at H
    have c2b0 : (t107 == 0) = false := beq_eq_false_iff_ne.mpr c2
    have c2b1 : (t107 != 0) = true := bne_iff_ne.mpr c2
    obtain rfl := Option.some.inj H
    go_enter Try.func13, Try.ntmps13
    go_wp2_with (first | ((with_reducible refine gate_callee (f := 11) rfl ?_); refine goesL_ (some 5) rfl rfl Try.func11 (by kernel_rfl) rfl #[.agg #[.int .i64 20, .string (⟨#[97, 110, 110]⟩ : ByteArray), .string (⟨#[115, 105, 103, 110]⟩ : ByteArray), .string (⟨#[]⟩ : ByteArray), .int .i64 3, .string (⟨#[]⟩ : ByteArray)]] rfl (by (try simp only [List.map_toArray, List.map_cons, List.map_nil]); first | done | rfl | (simp only [List.length_drop, List.length_take]; rfl)) ?_; (with_reducible refine (image_Write.calls 20 (⟨#[97, 110, 110]⟩ : ByteArray) (⟨#[115, 105, 103, 110]⟩ : ByteArray) (⟨#[]⟩ : ByteArray) 3 (⟨#[]⟩ : ByteArray) t104 t107 _ A1.out).mono ?_); rintro e w5 ⟨v105, rfl, ho0, hb⟩; refine ⟨_, rfl, ?_⟩; have n0_ := Aside0.mk (Kd.R_lower ho0 (below_size (by repeat (first | (with_reducible first | exact HB.out | apply below_alloc | apply pw_below_drewN | apply below_drew1) | exact HB.out)))); have n1_ := Aside0.mk (below_step (by repeat (first | (with_reducible first | exact HB.out | apply below_alloc | apply pw_below_drewN | apply below_drew1) | exact HB.out)) hb); clear HB; have HO106 := n0_; have HB := n1_; clear n0_ n1_; (try clear hb); (try clear hb2); (try clear hk); (try clear hi); (try clear ho0)))
    go_ret
    exact ⟨by first | rfl | (simp [errW_none, errW_some] <;> rfl) | (simp [*, errW_none, errW_some] <;> rfl), by repeat (first | (with_reducible first | exact HB.out | apply below_alloc | apply pw_below_drewN | apply below_drew1) | exact HB.out)⟩

/-! ### image_reader_take: function 34 -/
section
open Go
open Go.Proofs.YthdkmohgphbdeaaW.Mine
attribute [local go_sem 2000] min_ints2
theorem image_reader_take.wrid (n : Int) (h0 : 0 ≤ n) (h1 : n ≤ 18446744073709551615) : IntKind.u64.wrap n = n := by
  simp only [IntKind.wrap, IntKind.signed, IntKind.bits]
  simp
  omega
def image_reader_take.T1 : Bool × List (List Nat × List Nat) := (true, [([], []), ([0], [0]), ([1], [1]), ([], []), ([], []), ([4], [4]), ([5], [5]), ([6], [6]), ([7], [7]), ([3, 8], [3, 8]), ([2, 9], [2, 9]), ([10, 0, 1, 2, 3, 4, 5, 6, 7, 8, 9, 10], [10])])
def image_reader_take.B1 : List Nat := [0, 1, 3, 0, 0, 16, 48, 112, 240, 504, 1023, 2047]
theorem image_reader_take.tab1 : rtab .any (opsOf Try.f34 1) = image_reader_take.T1 := by kernel_rfl
theorem image_reader_take.bits1 : waitsOk image_reader_take.T1.2 image_reader_take.B1 = true := by kernel_rfl
set_option maxHeartbeats 2000000 in
theorem image_reader_take.calls (g : Nat) (A : Option Addr) (c : Nat) (xs : List Int) (n : Int) (w : World) (hbk : w.heap[g]? = some (.cells #[.slice A xs.length c] 67 (0, 0))) (hc : xs.length ≤ c) (h63 : xs.length ≤ 9223372036854775807) (hn : 0 ≤ n) :
    Calls Try.prog 34 #[.pointer (some ⟨g, 0, none⟩), .int .u64 n] w fun e w' => ∃ A1 c1 A2 c2, e = .returned (.slice A1 (xs.take n.toNat).length c1) ∧ (xs.take n.toNat).length ≤ c1 ∧ (xs.drop n.toNat).length ≤ c2 ∧
      (∀ W : World, Kd.C (Kd.int .u8) W A xs.length xs → Kd.C (Kd.int .u8) W A1 (xs.take n.toNat).length (xs.take n.toNat) ∧ Kd.C (Kd.int .u8) W A2 (xs.drop n.toNat).length (xs.drop n.toNat)) ∧
      w'.heap[g]? = some (.cells #[.slice A2 (xs.drop n.toNat).length c2] 67 (0, 0)) ∧ Only w w' g := by
  have hx0 := (blk_cell hbk 0).trans rfl
  have hf0 := blk_frozen hbk 0
  have HBK := Aside0.mk hbk
  clear hbk
  obtain ⟨m, hm, hm2⟩ : ∃ m : Nat, mn2 n (IntKind.u64.wrap (xs.length : Int)) = (m : Int) ∧ m = min n.toNat xs.length := ⟨min n.toNat xs.length, by rw [image_reader_take.wrid _ (by omega) (by omega)]; unfold mn2; omega, rfl⟩
  have HM := Aside0.mk hm
  have HM2 := Aside0.mk hm2
  have hml : m ≤ xs.length := by omega
  obtain ⟨i0, hi0, _, hsz, _⟩ := info_parts info5
  have hcut1 := cut_to (P := Try.prog) 67 5 .u64 Try.underlying67 hi0 A xs.length c (mn2 n (IntKind.u64.wrap (xs.length : Int))) (by omega) (by omega) hc
  rw [hm] at hcut1
  simp only [Int.toNat_natCast] at hcut1
  rw [← hm] at hcut1
  have hcut2 := cut_from (P := Try.prog) 67 5 .i64 Try.underlying67 hi0 1 hsz A xs.length c (m : Int) (by omega) (by omega)
  simp only [Int.toNat_natCast] at hcut2
  generalize hA2 : (if c = m then A else A.map fun x => x.add (m * 1)) = A2 at hcut2
  have HA2 := Aside0.mk hA2
  clear hm hm2 hi0 hsz hA2
  go_enter Try.func34, Try.ntmps34
  go_wp2
  refine start_ (n := 12) (S := fun w' => w'.cell? ⟨g, 0, none⟩ = some (.slice A xs.length c)) (ds := []) #[false, false, false, false, false, false, false, false, false, false, false, false] (by kernel_rfl) rfl rfl (hx0) (fun hHeld => ?_); refine with_tabW image_reader_take.tab1 image_reader_take.bits1 (fun HT_ HW_ => ?_)
  refine pure_ (i := 0) (N := (some 6)) (v := ?_) (a' := ?_) #[true, false, false, false, false, false, false, false, false, false, false, false] rfl rfl (any_of HT_.out (by kernel_rfl)) (fun _ _ _ h => h) (Or.inl ⟨by rfl, ?_⟩) ?_ ?_
  rotate_left
  · intro w'
    go_simp
    with_reducible rfl
  rotate_left
  · simp only [Act.put, List.setIfInBounds_toArray, List.set_cons_zero, List.set_cons_succ, i64_w, i32_w]
    rfl
  refine pure_ (i := 1) (N := (some 7)) (v := ?_) (a' := ?_) #[true, true, false, false, false, false, false, false, false, false, false, false] rfl rfl (any_of HT_.out (by kernel_rfl)) (fun _ _ _ h => h) (Or.inl ⟨by rfl, ?_⟩) ?_ ?_
  rotate_left
  · intro w'
    go_simp
    with_reducible rfl
  rotate_left
  · simp only [Act.put, List.setIfInBounds_toArray, List.set_cons_zero, List.set_cons_succ, i64_w, i32_w]
    rfl
  refine pure_ (i := 3) (N := (some 9)) (v := ?_) (a' := ?_) #[true, true, false, true, false, false, false, false, false, false, false, false] rfl rfl (any_of HT_.out (by kernel_rfl)) (fun _ _ _ h => h) (Or.inl ⟨by rfl, ?_⟩) ?_ ?_
  rotate_left
  · intro w'
    go_simp
    with_reducible rfl
  rotate_left
  · simp only [Act.put, List.setIfInBounds_toArray, List.set_cons_zero, List.set_cons_succ, i64_w, i32_w]
    rfl
  refine pure_ (i := 4) (N := (some 10)) (v := ?_) (a' := ?_) #[true, true, false, true, true, false, false, false, false, false, false, false] rfl rfl (any_of HT_.out (by kernel_rfl)) (fun _ _ _ h => h) (Or.inl ⟨by rfl, ?_⟩) ?_ ?_
  rotate_left
  · intro w'
    go_simp
    with_reducible rfl
  rotate_left
  · simp only [Act.put, List.setIfInBounds_toArray, List.set_cons_zero, List.set_cons_succ, i64_w, i32_w]
    rfl
  refine pure_ (i := 5) (N := (some 11)) (v := ?_) (a' := ?_) #[true, true, false, true, true, true, false, false, false, false, false, false] rfl rfl (any_of HT_.out (by kernel_rfl)) (fun _ _ _ h => h) (Or.inl ⟨by rfl, ?_⟩) ?_ ?_
  rotate_left
  · intro w'
    go_simp
    with_reducible rfl
  rotate_left
  · simp only [Act.put, List.setIfInBounds_toArray, List.set_cons_zero, List.set_cons_succ, i64_w, i32_w]
    rfl
  refine take_ (i := 2) (N := (some 8)) (v := ?_) (a' := ?_) #[true, true, true, true, true, true, false, false, false, false, false, false] rfl rfl (take_ofW HT_.out HW_.out (by kernel_rfl)) (fun _ _ _ h => h) (Or.inl ⟨by rfl, ?_⟩) hHeld ?_ ?_
  rotate_left
  · intro w' s0
    go_simp
    with_reducible rfl
  rotate_left
  · simp only [Act.put, List.setIfInBounds_toArray, List.set_cons_zero, List.set_cons_succ, i64_w, i32_w]
    rfl
  refine take_ (i := 6) (N := (some 12)) (v := ?_) (a' := ?_) #[true, true, true, true, true, true, true, false, false, false, false, false] rfl rfl (take_ofW HT_.out HW_.out (by kernel_rfl)) (fun _ _ _ h => h) (Or.inl ⟨by rfl, ?_⟩) hHeld ?_ ?_
  rotate_left
  · intro w' s0
    go_simp
    with_reducible rfl
  rotate_left
  · simp only [Act.put, List.setIfInBounds_toArray, List.set_cons_zero, List.set_cons_succ, i64_w, i32_w]
    rfl
  refine pure_ (i := 7) (N := (some 13)) (v := ?_) (a' := ?_) #[true, true, true, true, true, true, true, true, false, false, false, false] rfl rfl (any_of HT_.out (by kernel_rfl)) (fun _ _ _ h => h) (Or.inl ⟨by rfl, ?_⟩) ?_ ?_
  rotate_left
  · intro w'
    go_simp
    with_reducible rfl
  rotate_left
  · simp only [Act.put, List.setIfInBounds_toArray, List.set_cons_zero, List.set_cons_succ, i64_w, i32_w]
    rfl
  refine pure_ (i := 8) (N := (some 14)) (v := ?_) (a' := ?_) #[true, true, true, true, true, true, true, true, true, false, false, false] rfl rfl (any_of HT_.out (by kernel_rfl)) (fun _ _ _ h => h) (Or.inl ⟨by rfl, ?_⟩) ?_ ?_
  rotate_left
  · intro w'
    go_simp
    with_reducible rfl
  rotate_left
  · simp only [Act.put, List.setIfInBounds_toArray, List.set_cons_zero, List.set_cons_succ, i64_w, i32_w]
    rfl
  refine pure_ (i := 9) (N := (some 15)) (v := ?_) (a' := ?_) #[true, true, true, true, true, true, true, true, true, true, false, false] rfl rfl (any_of HT_.out (by kernel_rfl)) (fun _ _ _ h => h) (Or.inl ⟨by rfl, ?_⟩) ?_ ?_
  rotate_left
  · intro w'
    go_simp
    with_reducible rfl
  rotate_left
  · simp only [Act.put, List.setIfInBounds_toArray, List.set_cons_zero, List.set_cons_succ, i64_w, i32_w]
    rfl
  refine pure_ (i := 10) (N := (some 16)) (v := ?_) (a' := ?_) #[true, true, true, true, true, true, true, true, true, true, true, false] rfl rfl (any_of HT_.out (by kernel_rfl)) (fun _ _ _ h => h) (Or.inl ⟨by rfl, ?_⟩) ?_ ?_
  rotate_left
  · intro w'
    go_simp
    with_reducible rfl
  rotate_left
  · simp only [Act.put, List.setIfInBounds_toArray, List.set_cons_zero, List.set_cons_succ, i64_w, i32_w]
    rfl
  refine pure_ (i := 11) (N := (some 5)) (v := ?_) (a' := ?_) #[true, true, true, true, true, true, true, true, true, true, true, true] rfl rfl (any_of HT_.out (by kernel_rfl)) (fun _ _ _ h => h) (Or.inl ⟨by rfl, ?_⟩) ?_ ?_
  rotate_left
  · intro w'
    go_simp
    with_reducible rfl
  rotate_left
  · simp only [Act.put, List.setIfInBounds_toArray, List.set_cons_zero, List.set_cons_succ, i64_w, i32_w]
    rfl
  refine done_ (done_of HT_.out (by kernel_rfl)) ?_
  go_wp2
  have hmt : min n.toNat xs.length = m := HM2.out.symm
  have e1 : xs.take n.toNat = xs.take m := by rw [← hmt]; exact List.take_eq_take_min
  have e2 : xs.drop n.toNat = xs.drop m := by
    rcases Nat.le_total n.toNat xs.length with h | h
    · rw [show m = n.toNat by omega]
    · rw [show m = xs.length by omega, List.drop_eq_nil_of_le h, List.drop_eq_nil_of_le (Nat.le_refl _)]
  have e3 : (xs.take m).length = m := by rw [List.length_take]; omega
  have e4 : (xs.drop m).length = xs.length - m := List.length_drop
  rw [e1, e2]
  clear hmt e1 e2
  go_ret
  refine ⟨A, c, A2, c - m, by rw [e3]; rfl, by omega, by omega, fun W hC => ⟨Kd.C_take hC hml, ?_⟩, ?_, ((Only.refl w g).setCell 0 _).drew⟩
  · rw [← HA2.out]; exact Kd.C_drop hC hml hc
  · rw [e4]
    exact (blk_set HBK.out 0 _).trans (by simp)
end


/-! ### image_reader_number: function 33 -/
section
open Go
open Go.Proofs.YthdkmohgphbdeaaW.Mine
/-- the number that bytes are, the highest first -/
def image_reader_number.val (l : List Int) : Int := l.foldl (fun n c => 256 * n + c) 0
theorem image_reader_number.val_snoc (l : List Int) (c : Int) : image_reader_number.val (l ++ [c]) = 256 * image_reader_number.val l + c := by simp [image_reader_number.val]
theorem image_reader_number.join8 (v y : Int) (h0 : 0 ≤ v) (h1 : v < 72057594037927936) (h2 : 0 ≤ y) (h3 : y ≤ 255) : bits .or .u64 (v * 256) y = 256 * v + y := by
  have h := bits_join .u64 64 (by decide) (fun n a b => by simp only [IntKind.wrap, IntKind.signed, IntKind.bits]; simp; omega) 8 (v * 256) y (by omega) (by omega) (by omega) (by omega) (by omega)
  omega
theorem image_reader_number.fold_bd : ∀ (l : List Int) (a : Int), (∀ x ∈ l, 0 ≤ x ∧ x ≤ 255) → 0 ≤ a → 0 ≤ l.foldl (fun n c => 256 * n + c) a ∧ l.foldl (fun n c => 256 * n + c) a < (a + 1) * 256 ^ l.length
  | [], a, _, h => by simp; omega
  | c :: l, a, hx, h => by
    obtain ⟨h3, h4⟩ := hx c List.mem_cons_self
    obtain ⟨h1, h2⟩ := image_reader_number.fold_bd l (256 * a + c) (fun x hm => hx x (List.mem_cons_of_mem _ hm)) (by omega)
    refine ⟨h1, Int.lt_of_lt_of_le h2 ?_⟩
    rw [List.length_cons, Int.pow_succ, Int.mul_comm (256 ^ l.length) 256, ← Int.mul_assoc]
    exact Int.mul_le_mul_of_nonneg_right (by omega) (Int.pow_nonneg (by decide))
theorem image_reader_number.val_bd (l : List Int) (h : ∀ x ∈ l, 0 ≤ x ∧ x ≤ 255) : 0 ≤ image_reader_number.val l ∧ image_reader_number.val l < 256 ^ l.length := by
  have := image_reader_number.fold_bd l 0 h (Int.le_refl _)
  simpa [image_reader_number.val] using this
theorem image_reader_number.val_bd1 (l : List Int) (h : ∀ x ∈ l, 0 ≤ x ∧ x ≤ 255) (h1 : l.length ≤ 1) : 0 ≤ image_reader_number.val l ∧ image_reader_number.val l ≤ 255 := by
  obtain ⟨h2, h3⟩ := image_reader_number.val_bd l h
  have : l.length = 0 ∨ l.length = 1 := by omega
  rcases this with e | e <;> rw [e] at h3 <;> simp only [Int.reducePow] at h3 <;> omega
theorem image_reader_number.val_bd7 (l : List Int) (h : ∀ x ∈ l, 0 ≤ x ∧ x ≤ 255) (h7 : l.length ≤ 7) : 0 ≤ image_reader_number.val l ∧ image_reader_number.val l < 72057594037927936 := by
  obtain ⟨h1, h2⟩ := image_reader_number.val_bd l h
  refine ⟨h1, ?_⟩
  have : l.length = 0 ∨ l.length = 1 ∨ l.length = 2 ∨ l.length = 3 ∨ l.length = 4 ∨ l.length = 5 ∨ l.length = 6 ∨ l.length = 7 := by omega
  rcases this with e | e | e | e | e | e | e | e <;> rw [e] at h2 <;> simp only [Int.reducePow] at h2 <;> omega
def image_reader_number.Post (g : Nat) (xs : List Int) (n : Int) (w0 w : World) (e : Ending) (w' : World) : Prop := e = .returned (.int .u64 (image_reader_number.val (xs.take n.toNat))) ∧ ∃ A2 c2, (xs.drop n.toNat).length ≤ c2 ∧ Kd.C (Kd.int .u8) w0 A2 (xs.drop n.toNat).length (xs.drop n.toNat) ∧
      w'.heap[g]? = some (.cells #[.slice A2 (xs.drop n.toNat).length c2] 67 (0, 0)) ∧ Only w w' g
set_option maxHeartbeats 2000000 in
theorem image_reader_number.calls (g : Nat) (A : Option Addr) (c : Nat) (xs : List Int) (n : Int) (w0 w : World) (hbk : w.heap[g]? = some (.cells #[.slice A xs.length c] 67 (0, 0))) (hc : xs.length ≤ c) (h63 : xs.length ≤ 9223372036854775807) (hn : 0 ≤ n) (hn8 : n ≤ 8)
    (hC : Kd.C (Kd.int .u8) w0 A xs.length xs) (hB : Below w0.heap.size w0 w) (hg : w0.heap.size ≤ g) (hx : ∀ x ∈ xs, 0 ≤ x ∧ x ≤ 255) :
    Calls Try.prog 33 #[.pointer (some ⟨g, 0, none⟩), .int .u64 n] w (image_reader_number.Post g xs n w0 w) := by
  have HC := Aside0.mk hC
  have HB := Aside0.mk hB
  have HX := Aside0.mk hx
  have HG := Aside0.mk hg
  have HBK := Aside0.mk hbk
  have HLE := Aside0.mk hc
  have hys : (xs.take n.toNat).length ≤ 8 := by rw [List.length_take]; omega
  have hyx : ∀ x ∈ xs.take n.toNat, 0 ≤ x ∧ x ≤ 255 := fun x h => hx x (List.mem_of_mem_take h)
  clear hC hB hx hg hbk hc
  have HYX := Aside0.mk hyx
  clear hyx
  go_enter Try.func33, Try.ntmps33
  go_wp2_with (go_at_call 34; (with_reducible refine (image_reader_take.calls g A c xs n w HBK.out HLE.out h63 hn).mono ?_); rintro e w' ⟨A1, c1, A2, c2, rfl, hc1, hc2, hCC, hbk2, ho⟩; generalize hY : xs.take n.toNat = ys at hys hc1 hCC HYX ⊢; have HYE := Aside0.mk hY; clear hY; have HCC := Aside0.mk hCC; have HBK2 := Aside0.mk hbk2; have HO := Aside0.mk ho; have HC2 := Aside0.mk hc2; clear hCC hbk2 ho hc2 HBK)
  have HY : Aside0 (Kd.C (Kd.int .u8) w' A1 ys.length ys) := ⟨Kd.C_below (HCC.out w0 HC.out).1 (HO.out.below HB.out HG.out)⟩
  go_loop [5, 12] (fun v i => ∃ k : Nat, k ≤ ys.length ∧ i = .int .i64 k ∧ v = .int .u64 (image_reader_number.val (ys.take k))) (fun _ i => ys.length - (intOf i).toNat)
  case atStart => exact ⟨0, Nat.zero_le _, rfl, rfl⟩
  case round =>
    obtain ⟨k, hk, rfl, rfl⟩ := hrel
    by_cases hlt : k < ys.length
    · obtain ⟨ad, rfl, hx⟩ := Kd.at_int HY.out (k : Int) (by omega) (by omega)
      rw [Int.toNat_natCast] at hx
      obtain ⟨hb0, hb2⟩ := image_reader_number.val_bd7 (ys.take k) (fun x h => HYX.out x (List.mem_of_mem_take h)) (by rw [List.length_take]; omega)
      have hrd : rd ys k = ys[k] := by unfold rd; rw [Int.toNat_natCast, List.getD_eq_getElem?_getD, List.getElem?_eq_getElem hlt]; rfl
      obtain ⟨hr0, hr1⟩ := HYX.out ys[k] (List.getElem_mem hlt)
      rw [← hrd] at hr0 hr1
      have HS : Aside0 (image_reader_number.val (ys.take (k + 1)) = 256 * image_reader_number.val (ys.take k) + rd ys k) := ⟨by rw [List.take_succ_eq_append_getElem hlt, image_reader_number.val_snoc, hrd]⟩
      clear hrd
      generalize rd ys k = y at *
      generalize image_reader_number.val (ys.take k) = v at *
      have HJ := Aside0.mk (image_reader_number.join8 v y hb0 hb2 hr0 hr1)
      go_wp2
      go_round
      case rel => exact ⟨k + 1, by omega, by go_num, by rw [HJ.out, HS.out]⟩
      case measure => simp [intOf]; omega
    · obtain rfl : k = ys.length := by omega
      go_wp2
      go_ret
      unfold image_reader_number.Post
      rw [HYE.out]
      exact ⟨rfl, A2, c2, HC2.out, (HCC.out w0 HC.out).2, HBK2.out, HO.out⟩
theorem image_reader_number.kcalls (g : Nat) (A : Option Addr) (c : Nat) (xs : List Int) (n : Int) (k : Nat) (w0 w : World) (hbk : w.heap[g]? = some (.cells #[.slice A xs.length c] 67 (0, 0))) (hc : xs.length ≤ c) (h63 : xs.length ≤ 9223372036854775807) (hnk : n = (k : Int)) (hk : k ≤ 8)
    (hC : Kd.C (Kd.int .u8) w0 A xs.length xs) (hB : Below w0.heap.size w0 w) (hg : w0.heap.size ≤ g) (hx : ∀ x ∈ xs, 0 ≤ x ∧ x ≤ 255) :
    Calls Try.prog 33 #[.pointer (some ⟨g, 0, none⟩), .int .u64 n] w fun e w' => e = .returned (.int .u64 (image_reader_number.val (xs.take k))) ∧ ∃ A2 c2, (xs.drop k).length ≤ c2 ∧ Kd.C (Kd.int .u8) w0 A2 (xs.drop k).length (xs.drop k) ∧
      w'.heap[g]? = some (.cells #[.slice A2 (xs.drop k).length c2] 67 (0, 0)) ∧ Only w w' g := by
  subst hnk
  exact image_reader_number.calls g A c xs (k : Int) w0 w hbk hc h63 (by omega) (by omega) hC hB hg hx
end


/-! ### bytes_Equal: function 35 -/
def bytes_Equal.f (l0 : List Int) (l1 : List Int) : Option (Bool) := some ((strOfNums l0).toList == (strOfNums l1).toList)
set_option maxHeartbeats 8000000 in
set_option maxRecDepth 100000 in
theorem bytes_Equal.calls (A0 : Option Addr) (c0 : Nat) (l0 : List Int) (A1 : Option Addr) (c1 : Nat) (l1 : List Int) (r : Bool) (w : World) (hr0 : Kd.C (Kd.int .u8) w A0 l0.length l0) (hc0 : l0.length ≤ c0) (hr1 : Kd.C (Kd.int .u8) w A1 l1.length l1) (hc1 : l1.length ≤ c1) (h : bytes_Equal.f l0 l1 = some r) :
    Calls Try.prog 35 #[.slice A0 l0.length c0, .slice A1 l1.length c1] w fun e w' => e = .returned (.bool r) ∧ Drawn0 w w' := by
  have HR0 := Aside0.mk hr0
  have HC0 := Aside0.mk hc0
  clear hr0 hc0
  have HR1 := Aside0.mk hr1
  have HC1 := Aside0.mk hc1
  clear hr1 hc1
  have H : (some ((strOfNums l0).toList == (strOfNums l1).toList)) = some r := h
  clear h
  obtain rfl := Option.some.inj H
  have hcv3 := Kd.C_string (P := Try.prog) (A := A0) (c := c0) Try.underlying24 Try.underlying5 Try.underlying9 HR0.out
  have hcv4 := Kd.C_string (P := Try.prog) (A := A1) (c := c1) Try.underlying24 Try.underlying5 Try.underlying9 HR1.out
  go_enter Try.func35, Try.ntmps35
  go_wp2
  go_ret
  exact ⟨by first | rfl | (simp; done) | (simp [*]; done), by repeat (first | exact Drawn0.refl _ | apply Drawn0.step)⟩

end Go.Proofs.Ythdkmohgphbdeaa.PImR
