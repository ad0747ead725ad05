/- A text written by my program wip/gen/p2.py out of the translation and of my foreign texts; not trusted: Lean checks it. -/
import Derived.Test.YtpcnpmcknknfcaaPPexx0
import Derived.Test.YtpcnpmcknknfcaaPPexx1
import Derived.Test.YtpcnpmcknknfcaaPPexx2
namespace Go.Proofs.Ytpcnpmcknknfcaa.PPex
open Go.RowKit Go.Proofs.YtpcnpmcknknfcaaW.PrintWords Go.Proofs.YtpcnpmcknknfcaaW.PrintLast Go.Proofs.YtpcnpmcknknfcaaW.PrintMore
attribute [local go_sem] max2_int min2_int max_two min_two max_three min_three max_four min_four   -- for this text's walks alone
set_option linter.unusedVariables false
set_option linter.unusedSimpArgs false

/-! ### part_Rank: function 30 -/
section
open Go
open Go.Proofs.YtpcnpmcknknfcaaW.Mine
attribute [local go_sem 2000] max_ints2
/-- the rank of a row's first places -/
def part_Rank.acc (l : List Int) : Nat → Int
 | 0 => 0
 | k + 1 => IntKind.u64.wrap (part_Rank.acc l k + IntKind.u64.wrap (IntKind.u64.wrap (rd l k) * wy (l.length - 1 - k) (usedF 0 (l.take k)).toNat))
set_option maxHeartbeats 1000000 in
theorem part_Rank.good (A0 : Option Addr) (c0 : Nat) (l : List Int) (w : World) (hr0 : Kd.C (Kd.int .i64) w A0 l.length l) (hc0 : l.length ≤ c0) (h25 : l.length ≤ 25) (hleg : legalF 0 l = true) :
  Calls Try.prog 30 #[.slice A0 l.length c0] w fun e w' => e = .returned (.tuple #[.int .u64 (part_Rank.acc l l.length), .int .i64 0]) ∧ Below w.heap.size w w' := by
 obtain ⟨kk, hk⟩ := legal_k l
 rw [hleg, decide_eq_true h25, Bool.true_and] at hk
 have HK := Aside0.mk hk
 have HR := Aside0.mk hr0
 have HC0 := Aside0.mk hc0
 have HLG := Aside0.mk hleg
 have i1 : l.length ≤ 9223372036854775807 := by omega
 clear hr0 hc0 hleg hk
 go_enter Try.func30, Try.ntmps30
 go_wp2_with (first
  | (go_at_call 16; (with_reducible refine (part_Legal.calls kk A0 c0 l true _ HR.out HC0.out HK.out).mono ?_); rintro e w1 ⟨rfl, hw⟩; have HB := Aside0.mk hw; clear hw)
  | (go_at_call 73; (with_reducible refine (part_counted.walk l.length w1 h25).mono ?_); rintro e w' ⟨t, rfl, hbk, ht, hb⟩; have BK := Aside0.mk hbk; have HT := Aside0.mk ht; have n1 := Aside0.mk (below_then HB.out HB.out.size hb); have HSZ := Aside0.mk HB.out.size; clear hbk ht hb HB; have HB := n1; clear n1))
 go_loop [5, 6, 17] (fun r u i => ∃ k : Nat, k ≤ l.length ∧ i = .int .i64 k ∧ r = .int .u64 (part_Rank.acc l k) ∧ u = .int .i64 (usedF 0 (l.take k))) (fun _ _ i => l.length - (intOf i).toNat)
 case atStart => exact ⟨0, by omega, rfl, rfl, rfl⟩
 case round =>
  obtain ⟨k, hk, rfl, rfl, rfl⟩ := hrel
  by_cases hlt : k < l.length
  ·obtain ⟨h1, h2, h3, h4⟩ := legal_take l 0 k HLG.out hlt (by omega)
   have hul := used_len _ 0 h1
   have hug := used_ge (l.take k) 0
   rw [List.length_take, Nat.min_eq_left (by omega)] at hul
   have hac : part_Rank.acc l (k + 1) = IntKind.u64.wrap (part_Rank.acc l k + IntKind.u64.wrap (IntKind.u64.wrap (rd l k) * wy (l.length - 1 - k) (usedF 0 (l.take k)).toNat)) := rfl
   obtain ⟨b, hb⟩ := Int.eq_ofNat_of_zero_le hug
   obtain ⟨m, hm⟩ : ∃ m, l.length = k + 1 + m := ⟨l.length - k - 1, by omega⟩
   rw [hb] at h3 h4 hac hul
   rw [show l.length - 1 - k = m by omega, Int.toNat_natCast] at hac
   have HU := Aside0.mk h4
   have hx := (blk_cell BK.out (m * 27 + b)).trans ((part_counted.tab_get t (m * 27 + b) (by omega)).trans (by rw [HT.out m b (by omega) (by omega)]))
   obtain ⟨ad, rfl, hy⟩ := Kd.at_int HR.out (k : Int) (by omega) (by omega)
   rw [Int.toNat_natCast] at hy
   have hy1 := pw_cell_below HB.out hy
   clear hy h4 h1
   rw [hb] 
   generalize rd l (k : Int) = x at *
   generalize wy m b = y at *
   have hwx : IntKind.u64.wrap x = x := by simp only [IntKind.wrap, IntKind.signed, IntKind.bits]; simp; omega
   rw [hwx] at hac
   have HAC := Aside0.mk hac
   clear hac hwx
   go_wp2
   go_round
   case rel => exact ⟨k + 1, by omega, by go_num, by rw [HAC.out], by rw [HU.out]⟩
   case measure => simp [intOf]; omega
  ·obtain rfl : k = l.length := by omega
   go_wp2
   go_ret2
   exact ⟨rfl, HB.out⟩
theorem part_Rank.bad (A0 : Option Addr) (c0 : Nat) (l : List Int) (w : World) (hr0 : Kd.C (Kd.int .i64) w A0 l.length l) (hc0 : l.length ≤ c0) (hb : (decide (l.length ≤ 25) && legalF 0 l) = false) :
  Calls Try.prog 30 #[.slice A0 l.length c0] w fun e w' => e = .returned (.tuple #[.int .u64 0, .int .i64 3]) ∧ Below w.heap.size w w' := by
 obtain ⟨kk, hk⟩ := legal_k l
 rw [hb] at hk
 have HK := Aside0.mk hk
 have HR := Aside0.mk hr0
 have HC0 := Aside0.mk hc0
 clear hr0 hc0 hb hk
 go_enter Try.func30, Try.ntmps30
 go_wp2_with (go_at_call 16; (with_reducible refine (part_Legal.calls kk A0 c0 l false _ HR.out HC0.out HK.out).mono ?_); rintro e w1 ⟨rfl, hw⟩; have HB := Aside0.mk hw; clear hw)
 go_ret2
 exact ⟨rfl, HB.out⟩
def part_Rank.f (l : List Int) : Option (Int × Int) := if (decide (l.length ≤ 25) && legalF 0 l) = true then some (part_Rank.acc l l.length, 0) else some (0, 3)
theorem part_Rank.calls (A0 : Option Addr) (c0 : Nat) (l0 : List Int) (r1 r2 : Int) (w : World) (hr0 : Kd.C (Kd.int .i64) w A0 l0.length l0) (hc0 : l0.length ≤ c0) (h : part_Rank.f l0 = some (r1, r2)) :
  Calls Try.prog 30 #[.slice A0 l0.length c0] w fun e w' => e = .returned (.tuple #[.int .u64 r1, .int .i64 r2]) ∧ Below w.heap.size w w' := by
 unfold part_Rank.f at h
 split at h
 next hl =>
  simp only [Option.some.injEq, Prod.mk.injEq] at h; obtain ⟨rfl, rfl⟩ := h
  rw [Bool.and_eq_true, decide_eq_true_eq] at hl
  exact part_Rank.good A0 c0 l0 w hr0 hc0 hl.1 hl.2
 next hl =>
  simp only [Option.some.injEq, Prod.mk.injEq] at h; obtain ⟨rfl, rfl⟩ := h
  exact part_Rank.bad A0 c0 l0 w hr0 hc0 (Bool.eq_false_iff.mpr hl)
end


/-! ### part_Next: function 33 -/
section
open Go
open Go.Proofs.YtpcnpmcknknfcaaW.Mine
/-- the pattern behind, the places below so many being looked at -/
def nxF (l : List Int) : Nat → List Int × Bool
 | 0 => ([], false)
 | i + 1 => if rd l ((i + 1 : Nat) : Int) < usedF 0 (l.take (i + 1)) then (l.take (i + 1) ++ (rd l ((i + 1 : Nat) : Int) + 1) :: List.replicate (l.length - (i + 2)) 0, true) else nxF l i
def part_Next.T6 : Bool × List (List Nat × List Nat) := (true, [([], []), ([], []), ([0, 1], [0, 1]), ([2], [2]), ([], []), ([], []), ([4, 5], [4, 5]), ([6], [6]), ([3, 7], [3, 7])])
def part_Next.B6 : List Nat := [0, 0, 3, 7, 0, 0, 48, 112, 255]
theorem part_Next.tab6 : rtab .any (opsOf Try.f33 6) = part_Next.T6 := by kernel_rfl
theorem part_Next.bits6 : waitsOk part_Next.T6.2 part_Next.B6 = true := by kernel_rfl
set_option maxHeartbeats 2000000 in
set_option maxRecDepth 100000 in
theorem part_Next.good (A0 : Option Addr) (c0 : Nat) (l : List Int) (w : World) (hr0 : Kd.C (Kd.int .i64) w A0 l.length l) (hc0 : l.length ≤ c0) (h25 : l.length ≤ 25) (hleg : legalF 0 l = true) :
  Calls Try.prog 33 #[.slice A0 l.length c0] w fun e w' => ∃ v0_ : Value, e = .returned (.tuple #[v0_, .bool (nxF l (l.length - 1)).2]) ∧ Kd.R (Kd.int .i64) 3 w' w.heap.size (fun _ => True) v0_ (nxF l (l.length - 1)).1 ∧ Below w.heap.size w w' := by
 obtain ⟨kk, hk⟩ := legal_k l
 rw [hleg, decide_eq_true h25, Bool.true_and] at hk
 have HK := Aside0.mk hk
 have HR := Aside0.mk hr0
 have HC0 := Aside0.mk hc0
 have HLG := Aside0.mk hleg
 have HT := Aside0.mk (fun k hk => legal_take l 0 k hleg hk (by omega))
 obtain ⟨i0, hi0, _, hsz, _⟩ := info_parts info3
 have HCUT := Aside0.mk (fun q h0 h1 => print_take_of (P := Try.prog) (Value.int .i64) 0 22 3 .i64 Try.underlying22 hi0 hsz A0 c0 l q h0 h1 hc0)
 have i1 : l.length ≤ 9223372036854775807 := by omega
 clear hr0 hc0 hleg hk
 go_enter Try.func33, Try.ntmps33
 go_wp2_with (go_at_call 16; (with_reducible refine (part_Legal.calls kk A0 c0 l true _ HR.out HC0.out HK.out).mono ?_); rintro e w1 ⟨rfl, hw⟩; have HB := Aside0.mk hw; clear hw)
 go_loopw [4] (fun i wr => ∃ j : Int, -1 ≤ j ∧ j < l.length ∧ i = .int .i64 j ∧ nxF l j.toNat = nxF l (l.length - 1) ∧ Below w.heap.size w wr) (fun i _ => (intOf i).toNat)
 case atStart => exact ⟨(l.length : Int) - 1, by omega, by omega, by first | rfl | go_num, by rw [show ((l.length : Int) - 1).toNat = l.length - 1 by omega], HB.out⟩
 case round =>
  clear HB
  obtain ⟨j, hj0, hj1, rfl, hnx, hb⟩ := hrel
  have HB := Aside0.mk hb
  have HNX := Aside0.mk hnx
  clear hb hnx
  by_cases hp : 0 < j
  ·obtain ⟨q, rfl⟩ := Int.eq_ofNat_of_zero_le (show 0 ≤ j by omega)
   have hql : q < l.length := by omega
   obtain ⟨h1, h2, h3, h4⟩ := HT.out q hql
   have hul := used_len _ 0 h1
   rw [List.length_take, Nat.min_eq_left (by omega)] at hul
   obtain ⟨kz, hz⟩ := size_k (l.take q) h1 (by rw [List.length_take]; omega)
   have HZ := Aside0.mk hz
   obtain ⟨hcut, hA1, hC1⟩ := HCUT.out (q : Int) (by omega) (by omega)
   obtain ⟨hcut2, hA2, hC2⟩ := HCUT.out ((q : Int) + 1) (by omega) (by omega)
   rw [show ((q : Int) + 1).toNat = q + 1 by omega] at hcut2 hA2 hC2
   rw [Int.toNat_natCast] at hcut hA1 hC1 HNX
   have HRZ := Aside0.mk (Kd.C_of_reads (h1 := fun _ => rfl) (hA2 _ (Kd.reads_of_C HR.out)))
   have HRY : Aside0 (Kd.C (Kd.int .i64) wr A0 (l.take q).length (l.take q)) := ⟨Kd.C_below (Kd.C_of_reads (h1 := fun _ => rfl) (hA1 _ (Kd.reads_of_C HR.out))) HB.out⟩
   have HCY := Aside0.mk hC1
   have HCZ := Aside0.mk hC2
   have hnx : nxF l q = if rd l (q : Int) < usedF 0 (l.take q) then (l.take q ++ (rd l (q : Int) + 1) :: List.replicate (l.length - (q + 1)) 0, true) else nxF l (q - 1) := by
    obtain ⟨p, rfl⟩ : ∃ p, q = p + 1 := ⟨q - 1, by omega⟩
    rfl
   obtain ⟨ad, rfl, hy⟩ := Kd.at_int HR.out (q : Int) (by omega) (by omega)
   rw [Int.toNat_natCast] at hy
   have HX := Aside0.mk hy
   have hx := pw_cell_below HB.out hy
   have hzl : (l.take (q + 1)).length = q + 1 := by rw [List.length_take]; omega
   have hyz : l.take (q + 1) = l.take q ++ [rd l (q : Int)] := by
    rw [List.take_succ_eq_append_getElem hql]; congr 2
    unfold rd; rw [Int.toNat_natCast, List.getD_eq_getElem?_getD, List.getElem?_eq_getElem hql]; rfl
   have HYL : Aside0 ((l.take q).length = q) := ⟨by rw [List.length_take]; omega⟩
   have HYZ := Aside0.mk hyz
   have HZL := Aside0.mk hzl
   have HNQ := Aside0.mk hnx
   clear hy h1 h4 hnx hz hA1 hA2 hC1 hC2 hyz hzl
   generalize usedF 0 (l.take q) = u at *
   generalize rd l (q : Int) = x at *
   generalize hys : l.take q = ys at *
   generalize hzs : l.take (q + 1) = zs at *
   have hze : zs ++ List.drop zs.length (List.replicate l.length 0) = ys ++ x :: List.replicate (l.length - (q + 1)) 0 := by
    rw [HZL.out, HYZ.out, List.drop_replicate]; simp
   have HZR : Aside0 (rdOf 0 (zs ++ List.drop zs.length (List.replicate l.length 0)) (q : Int) = x) := ⟨by rw [hze]; unfold rdOf; rw [Int.toNat_natCast]; simp [HYL.out]⟩
   have HSET : Aside0 ((zs ++ List.drop zs.length (List.replicate l.length 0)).set q (x + 1) = ys ++ (x + 1) :: List.replicate (l.length - (q + 1)) 0) := ⟨by rw [hze, List.set_append_right _ _ (by rw [HYL.out]; exact Nat.le_refl _), HYL.out, Nat.sub_self]; rfl⟩
   clear hys hzs HT HK HCUT hze
   have i2 : (0 : Int) ≤ (q : Int) := by omega
   have i3 : (q : Int) < l.length := by omega
   have i4 : (0 : Int) ≤ (q : Int) + 1 := by omega
   have i5 : (q : Int) + 1 ≤ l.length := by omega
   by_cases hlt : x < u
   ·rw [if_pos hlt] at HNQ
    have hlt0 : decide (x < u) = true := decide_eq_true hlt
    go_wp2
    refine start_ (n := 9) (S := fun w' => w'.cell? (ad.add q) = some (.int .i64 x)) (ds := []) #[false, false, false, false, false, false, false, false, false] (by kernel_rfl) rfl rfl (hx) (fun hHeld => ?_); refine with_tabW part_Next.tab6 part_Next.bits6 (fun HT_ HW_ => ?_)
    refine pure_ (i := 0) (N := (some 16)) (v := ?_) (a' := ?_) #[true, false, false, false, false, false, false, false, false] rfl rfl (any_of HT_.out (by kernel_rfl)) (fun _ _ _ h => h) (Or.inl ⟨by rfl, ?_⟩) ?_ ?_
    rotate_left
    ·intro w'
     go_simp
     with_reducible rfl
    rotate_left
    ·simp only [Act.put, List.setIfInBounds_toArray, List.set_cons_zero, List.set_cons_succ, i64_w, i32_w]
     rfl
    refine pure_ (i := 1) (N := (some 17)) (v := ?_) (a' := ?_) #[true, true, false, false, false, false, false, false, false] rfl rfl (any_of HT_.out (by kernel_rfl)) (fun _ _ _ h => h) (Or.inl ⟨by rfl, ?_⟩) ?_ ?_
    rotate_left
    ·intro w'
     go_simp
     with_reducible rfl
    rotate_left
    ·simp only [Act.put, List.setIfInBounds_toArray, List.set_cons_zero, List.set_cons_succ, i64_w, i32_w]
     rfl
    refine pure_ (i := 2) (N := (some 18)) (v := ?_) (a' := ?_) #[true, true, true, false, false, false, false, false, false] rfl rfl (any_of HT_.out (by kernel_rfl)) (fun _ _ _ h => h) (Or.inl ⟨by rfl, ?_⟩) ?_ ?_
    rotate_left
    ·intro w'
     go_simp
     with_reducible rfl
    rotate_left
    ·simp only [Act.put, List.setIfInBounds_toArray, List.set_cons_zero, List.set_cons_succ, i64_w, i32_w]
     rfl
    refine take_ (i := 3) (N := (some 19)) (v := ?_) (a' := ?_) #[true, true, true, true, false, false, false, false, false] rfl rfl (take_ofW HT_.out HW_.out (by kernel_rfl)) (fun _ _ _ h => h) (Or.inl ⟨by rfl, ?_⟩) hHeld ?_ ?_
    rotate_left
    ·intro w' s0
     go_simp
     with_reducible rfl
    rotate_left
    ·simp only [Act.put, List.setIfInBounds_toArray, List.set_cons_zero, List.set_cons_succ, i64_w, i32_w]
     rfl
    refine pure_ (i := 4) (N := (some 20)) (v := ?_) (a' := ?_) #[true, true, true, true, true, false, false, false, false] rfl rfl (any_of HT_.out (by kernel_rfl)) (fun _ _ _ h => h) (Or.inl ⟨by rfl, ?_⟩) ?_ ?_
    rotate_left
    ·intro w'
     go_simp
     with_reducible rfl
    rotate_left
    ·simp only [Act.put, List.setIfInBounds_toArray, List.set_cons_zero, List.set_cons_succ, i64_w, i32_w]
     rfl
    refine pure_ (i := 5) (N := (some 21)) (v := ?_) (a' := ?_) #[true, true, true, true, true, true, false, false, false] rfl rfl (any_of HT_.out (by kernel_rfl)) (fun _ _ _ h => h) (Or.inl ⟨by rfl, ?_⟩) ?_ ?_
    rotate_left
    ·intro w'
     go_simp
     with_reducible rfl
    rotate_left
    ·simp only [Act.put, List.setIfInBounds_toArray, List.set_cons_zero, List.set_cons_succ, i64_w, i32_w]
     rfl
    refine pure_ (i := 6) (N := (some 22)) (v := ?_) (a' := ?_) #[true, true, true, true, true, true, true, false, false] rfl rfl (any_of HT_.out (by kernel_rfl)) (fun _ _ _ h => h) (Or.inl ⟨by rfl, ?_⟩) ?_ ?_
    rotate_left
    ·intro w'
     go_simp
     with_reducible rfl
    rotate_left
    ·simp only [Act.put, List.setIfInBounds_toArray, List.set_cons_zero, List.set_cons_succ, i64_w, i32_w]
     rfl
    refine one_ (i := 7) (N := (some 23)) #[true, true, true, true, true, true, true, true, false] rfl rfl (one_of HT_.out (by kernel_rfl)) (by decide) (fun K hK => ?_)
    refine goes_ Try.func19 (by kernel_rfl) rfl #[.slice (some ad) ys.length c0] (by rfl) rfl rfl (by (try simp only [List.map_toArray, List.map_cons, List.map_nil]); first | done | rfl) ?_
    with_reducible refine (part_Size.calls kz (some ad) c0 ys u _ ?side0 HCY.out HZ.out).mono ?_
    (case side0 => repeat (first | exact HRY.out | (with_reducible refine Kd.C_drewN ?_ _) | (with_reducible refine Kd.C_drew ?_)))
    rintro e w2 ⟨rfl, hb⟩
    refine ⟨_, rfl, ?_⟩
    have n2_ := Aside0.mk (below_step (by repeat (first | exact HB.out | apply pw_below_drewN | apply below_drew1 | apply below_drew)) hb)
    clear HB hb hx HRY
    have HB := n2_
    clear n2_
    have hx := pw_cell_below HB.out HX.out
    refine hK.out _ _ (hx) (fun hHeld => ?_)
    clear hK K
    refine norm_ (a' := ?_) ?_ ?_
    rotate_left
    ·show Act.put _ (some 23) _ = _
     simp only [Act.put, List.setIfInBounds_toArray, List.set_cons_zero, List.set_cons_succ, i64_w, i32_w]
     rfl
    refine pure_ (i := 8) (N := (some 24)) (v := ?_) (a' := ?_) #[true, true, true, true, true, true, true, true, true] rfl rfl (any_of HT_.out (by kernel_rfl)) (fun _ _ _ h => h) (Or.inl ⟨by rfl, ?_⟩) ?_ ?_
    rotate_left
    ·intro w'
     go_simp
     with_reducible rfl
    rotate_left
    ·simp only [Act.put, List.setIfInBounds_toArray, List.set_cons_zero, List.set_cons_succ, i64_w, i32_w]
     rfl
    refine done_ (done_of HT_.out (by kernel_rfl)) ?_
    clear hHeld
    go_wp2_with (first
     | ((with_reducible refine gate_dst (N := 27) rfl ?_); refine Kd.R_make (Kd.int .i64) (w0 := w) w.heap.size 3 rfl (N := 27) rfl 22 _ _ rfl (l.length : Int) rfl rfl Try.underlying22 (.int .i64 0) 8 info3 rfl (by decide) (by omega) 0 (ok := fun _ => True) (okp := fun _ => True) rfl (fun _ hk => hk) trivial (by omega) (by omega) HB.out HB.out.size ?_; intro v w3 ho hb hg_ hnew_; clear hg_ hnew_; rw [Int.toNat_natCast] at ho; obtain ⟨g, cap, hv, gb, gl, cl, HG⟩ := Kd.R_form ho (by rw [List.length_replicate]; omega); rw [List.length_replicate] at hv; clear HG cl gl; subst hv; have HO := Aside0.mk (own_alone ho); clear HB; have HB := Aside0.mk hb; clear ho hb)
     | ((with_reducible refine gate_dst (N := 33) rfl ?_); refine R_copy (w0 := w) w.heap.size rfl (.tmp 28) (.tmp 32) 22 22 3 .i64 rfl Try.underlying22 (by kernel_rfl) _ (List.replicate l.length 0) zs (some ad) c0 rfl rfl HO.out (Kd.C_below HRZ.out HB.out) (by rw [HZL.out, List.length_replicate]; omega) HB.out ?_; intro w4 ho hb hg; clear hg; clear HO HB; have HO := Aside0.mk ho; have HB := Aside0.mk hb; clear ho hb; obtain ⟨hy, hfy⟩ := Kd.R_celln 0 HO.out (q : Int) (by omega) (by omega); rw [Int.toNat_natCast] at hy hfy; rw [HZR.out] at hy; have hp := Kd.R_putg HO.out (q : Int) (x + 1); rw [Int.toNat_natCast, HSET.out] at hp; have HP := Aside0.mk hp; clear hp))
    go_ret2
    rw [← HNX.out, HNQ.out]
    exact ⟨_, rfl, Kd.R_mono HP.out.1 (fun _ _ => trivial), HB.out.setCell gb _⟩
   ·rw [if_neg hlt] at HNQ
    have hlt0 : decide (x < u) = false := decide_eq_false hlt
    go_wp2
    refine start_ (n := 9) (S := fun w' => w'.cell? (ad.add q) = some (.int .i64 x)) (ds := []) #[false, false, false, false, false, false, false, false, false] (by kernel_rfl) rfl rfl (hx) (fun hHeld => ?_); refine with_tabW part_Next.tab6 part_Next.bits6 (fun HT_ HW_ => ?_)
    refine pure_ (i := 0) (N := (some 16)) (v := ?_) (a' := ?_) #[true, false, false, false, false, false, false, false, false] rfl rfl (any_of HT_.out (by kernel_rfl)) (fun _ _ _ h => h) (Or.inl ⟨by rfl, ?_⟩) ?_ ?_
    rotate_left
    ·intro w'
     go_simp
     with_reducible rfl
    rotate_left
    ·simp only [Act.put, List.setIfInBounds_toArray, List.set_cons_zero, List.set_cons_succ, i64_w, i32_w]
     rfl
    refine pure_ (i := 1) (N := (some 17)) (v := ?_) (a' := ?_) #[true, true, false, false, false, false, false, false, false] rfl rfl (any_of HT_.out (by kernel_rfl)) (fun _ _ _ h => h) (Or.inl ⟨by rfl, ?_⟩) ?_ ?_
    rotate_left
    ·intro w'
     go_simp
     with_reducible rfl
    rotate_left
    ·simp only [Act.put, List.setIfInBounds_toArray, List.set_cons_zero, List.set_cons_succ, i64_w, i32_w]
     rfl
    refine pure_ (i := 2) (N := (some 18)) (v := ?_) (a' := ?_) #[true, true, true, false, false, false, false, false, false] rfl rfl (any_of HT_.out (by kernel_rfl)) (fun _ _ _ h => h) (Or.inl ⟨by rfl, ?_⟩) ?_ ?_
    rotate_left
    ·intro w'
     go_simp
     with_reducible rfl
    rotate_left
    ·simp only [Act.put, List.setIfInBounds_toArray, List.set_cons_zero, List.set_cons_succ, i64_w, i32_w]
     rfl
    refine take_ (i := 3) (N := (some 19)) (v := ?_) (a' := ?_) #[true, true, true, true, false, false, false, false, false] rfl rfl (take_ofW HT_.out HW_.out (by kernel_rfl)) (fun _ _ _ h => h) (Or.inl ⟨by rfl, ?_⟩) hHeld ?_ ?_
    rotate_left
    ·intro w' s0
     go_simp
     with_reducible rfl
    rotate_left
    ·simp only [Act.put, List.setIfInBounds_toArray, List.set_cons_zero, List.set_cons_succ, i64_w, i32_w]
     rfl
    refine pure_ (i := 4) (N := (some 20)) (v := ?_) (a' := ?_) #[true, true, true, true, true, false, false, false, false] rfl rfl (any_of HT_.out (by kernel_rfl)) (fun _ _ _ h => h) (Or.inl ⟨by rfl, ?_⟩) ?_ ?_
    rotate_left
    ·intro w'
     go_simp
     with_reducible rfl
    rotate_left
    ·simp only [Act.put, List.setIfInBounds_toArray, List.set_cons_zero, List.set_cons_succ, i64_w, i32_w]
     rfl
    refine pure_ (i := 5) (N := (some 21)) (v := ?_) (a' := ?_) #[true, true, true, true, true, true, false, false, false] rfl rfl (any_of HT_.out (by kernel_rfl)) (fun _ _ _ h => h) (Or.inl ⟨by rfl, ?_⟩) ?_ ?_
    rotate_left
    ·intro w'
     go_simp
     with_reducible rfl
    rotate_left
    ·simp only [Act.put, List.setIfInBounds_toArray, List.set_cons_zero, List.set_cons_succ, i64_w, i32_w]
     rfl
    refine pure_ (i := 6) (N := (some 22)) (v := ?_) (a' := ?_) #[true, true, true, true, true, true, true, false, false] rfl rfl (any_of HT_.out (by kernel_rfl)) (fun _ _ _ h => h) (Or.inl ⟨by rfl, ?_⟩) ?_ ?_
    rotate_left
    ·intro w'
     go_simp
     with_reducible rfl
    rotate_left
    ·simp only [Act.put, List.setIfInBounds_toArray, List.set_cons_zero, List.set_cons_succ, i64_w, i32_w]
     rfl
    refine one_ (i := 7) (N := (some 23)) #[true, true, true, true, true, true, true, true, false] rfl rfl (one_of HT_.out (by kernel_rfl)) (by decide) (fun K hK => ?_)
    refine goes_ Try.func19 (by kernel_rfl) rfl #[.slice (some ad) ys.length c0] (by rfl) rfl rfl (by (try simp only [List.map_toArray, List.map_cons, List.map_nil]); first | done | rfl) ?_
    with_reducible refine (part_Size.calls kz (some ad) c0 ys u _ ?side0 HCY.out HZ.out).mono ?_
    (case side0 => repeat (first | exact HRY.out | (with_reducible refine Kd.C_drewN ?_ _) | (with_reducible refine Kd.C_drew ?_)))
    rintro e w2 ⟨rfl, hb⟩
    refine ⟨_, rfl, ?_⟩
    have n2_ := Aside0.mk (below_step (by repeat (first | exact HB.out | apply pw_below_drewN | apply below_drew1 | apply below_drew)) hb)
    clear HB hb hx HRY
    have HB := n2_
    clear n2_
    have hx := pw_cell_below HB.out HX.out
    refine hK.out _ _ (hx) (fun hHeld => ?_)
    clear hK K
    refine norm_ (a' := ?_) ?_ ?_
    rotate_left
    ·show Act.put _ (some 23) _ = _
     simp only [Act.put, List.setIfInBounds_toArray, List.set_cons_zero, List.set_cons_succ, i64_w, i32_w]
     rfl
    refine pure_ (i := 8) (N := (some 24)) (v := ?_) (a' := ?_) #[true, true, true, true, true, true, true, true, true] rfl rfl (any_of HT_.out (by kernel_rfl)) (fun _ _ _ h => h) (Or.inl ⟨by rfl, ?_⟩) ?_ ?_
    rotate_left
    ·intro w'
     go_simp
     with_reducible rfl
    rotate_left
    ·simp only [Act.put, List.setIfInBounds_toArray, List.set_cons_zero, List.set_cons_succ, i64_w, i32_w]
     rfl
    refine done_ (done_of HT_.out (by kernel_rfl)) ?_
    clear hHeld
    go_wp2
    go_roundw
    case rel => exact ⟨(q : Int) - 1, by omega, by omega, by first | rfl | go_num, by rw [show ((q : Int) - 1).toNat = q - 1 by omega, ← HNX.out, HNQ.out], HB.out⟩
    case measure => simp [intOf]; omega
  ·have hp0 : decide (0 < j) = false := decide_eq_false hp
   rw [show j.toNat = 0 by omega, nxF] at HNX
   go_wp2
   go_ret2
   rw [← HNX.out]
   exact ⟨_, rfl, Kd.R_nil _ _ _ _ _, HB.out⟩
theorem part_Next.bad (A0 : Option Addr) (c0 : Nat) (l : List Int) (w : World) (hr0 : Kd.C (Kd.int .i64) w A0 l.length l) (hc0 : l.length ≤ c0) (hb : (decide (l.length ≤ 25) && legalF 0 l) = false) :
  Calls Try.prog 33 #[.slice A0 l.length c0] w fun e w' => ∃ v0_ : Value, e = .returned (.tuple #[v0_, .bool false]) ∧ Kd.R (Kd.int .i64) 3 w' w.heap.size (fun _ => True) v0_ [] ∧ Below w.heap.size w w' := by
 obtain ⟨kk, hk⟩ := legal_k l
 rw [hb] at hk
 have HK := Aside0.mk hk
 have HR := Aside0.mk hr0
 have HC0 := Aside0.mk hc0
 clear hr0 hc0 hb hk
 go_enter Try.func33, Try.ntmps33
 go_wp2_with (go_at_call 16; (with_reducible refine (part_Legal.calls kk A0 c0 l false _ HR.out HC0.out HK.out).mono ?_); rintro e w1 ⟨rfl, hw⟩; have HB := Aside0.mk hw; clear hw)
 go_ret2
 exact ⟨_, rfl, Kd.R_nil _ _ _ _ _, HB.out⟩
def part_Next.f (l : List Int) : Option (List Int × Bool) := if (decide (l.length ≤ 25) && legalF 0 l) = true then some ((nxF l (l.length - 1)).1, (nxF l (l.length - 1)).2) else some ([], false)
theorem part_Next.calls (A0 : Option Addr) (c0 : Nat) (l0 : List Int) (r1 : List Int) (r2 : Bool) (w : World) (hr0 : Kd.C (Kd.int .i64) w A0 l0.length l0) (hc0 : l0.length ≤ c0) (h : part_Next.f l0 = some (r1, r2)) :
  Calls Try.prog 33 #[.slice A0 l0.length c0] w fun e w' => ∃ v0_ : Value, e = .returned (.tuple #[v0_, .bool r2]) ∧ Kd.R (Kd.int .i64) 3 w' w.heap.size (fun _ => True) v0_ r1 ∧ Below w.heap.size w w' := by
 unfold part_Next.f at h
 split at h
 next hl =>
  simp only [Option.some.injEq, Prod.mk.injEq] at h; obtain ⟨rfl, rfl⟩ := h
  rw [Bool.and_eq_true, decide_eq_true_eq] at hl
  exact part_Next.good A0 c0 l0 w hr0 hc0 hl.1 hl.2
 next hl =>
  simp only [Option.some.injEq, Prod.mk.injEq] at h; obtain ⟨rfl, rfl⟩ := h
  exact part_Next.bad A0 c0 l0 w hr0 hc0 (Bool.eq_false_iff.mpr hl)
end


/-! ### slices_Clone_int_int: function 74 -/
section
open Go
open Go.Proofs.YtpcnpmcknknfcaaW.Mine
def slices_Clone_int_int.f (l : List Int) : Option (List Int) := if l.length ≤ 17592186043904 then some l else none
set_option maxHeartbeats 1000000 in
set_option maxRecDepth 100000 in
theorem slices_Clone_int_int.calls (A0 : Option Addr) (c0 : Nat) (l0 : List Int) (r : List Int) (w : World) (hr0 : Kd.C (Kd.int .i64) w A0 l0.length l0) (hc0 : l0.length ≤ c0) (h : slices_Clone_int_int.f l0 = some r) :
  Calls Try.prog 74 #[.slice A0 l0.length c0] w fun e w' => ∃ v0_ : Value, e = .returned (v0_) ∧ Kd.R (Kd.int .i64) 3 w' w.heap.size (fun _ => True) v0_ r ∧ Below w.heap.size w w' := by
 unfold slices_Clone_int_int.f at h
 split at h
 next hl =>
  injection h with h
  subst h
  have HR := Aside0.mk hr0
  have hm := hr0.2.1
  have hnil := fun W : World => Lib.run_eql_slice_nil (P := Try.prog) W 22 3 A0 l0.length c0 0 0 Try.underlying22
  rcases A0 with _ | ad
  ·have h0 : l0 = [] := by
    rcases Nat.eq_zero_or_pos l0.length with h0 | h0
    ·exact List.eq_nil_of_length_eq_zero h0
    ·obtain ⟨ad, h, _⟩ := hr0.2.2 h0
     cases h
   subst h0
   clear hr0
   show Calls Try.prog 74 #[.slice none 0 c0] w _
   have hnil0 : ∀ W : World, Sem.run Try.prog (binOp BinOp.eql 22 (Value.slice none 0 c0) (Value.slice none 0 0)) W = .ok (.bool true) W := fun W => hnil W
   clear hnil
   go_enter Try.func74, Try.ntmps74
   go_wp2
   go_ret
   exact ⟨_, rfl, Kd.R_nil (Kd.int .i64) 3 _ _ _, Below.refl _ _⟩
  ·clear hr0
   have hnil0 : ∀ W : World, Sem.run Try.prog (binOp BinOp.eql 22 (Value.slice (some ad) l0.length c0) (Value.slice none 0 0)) W = .ok (.bool false) W := fun W => hnil W
   clear hnil
   go_enter Try.func74, Try.ntmps74
   go_wp2_with (first
    | ((with_reducible refine gate_dst (N := 5) rfl ?_); refine Kd.R_lit (Kd.int .i64) _ 3 ?hg (N := 5) ?hd (xs := ([] : List Int)) (inner := []) (ok := fun _ => True) (okp := fun _ => True) ?hr ?hp (fun _ hk => hk) trivial (Below.refl _ _) (Nat.le_refl _) (by simp) ?_; (case hd => rfl); (case hg => rfl); (case hr => first | (go_simp; done) | (go_simp; rfl)); (case hp => exact (Reps.none _ _)); intro vL wL ho hb hg_ hn_; clear hg_ hn_; have HLo := Aside0.mk ho; have HLb := Aside0.mk hb; clear ho hb)
    | ((with_reducible refine gate_builtin (b := .append) (xs := #[.tmp 5, .tmp 6]) rfl ?_); at_builtin; refine Kd.R_append_rows (Kd.int .i64) (w0 := w) w.heap.size rfl (.tmp 5) (.tmp 6) 22 3 (.int .i64 0) 8 rfl Try.underlying22 info3 rfl (by decide) (by omega) vL ([] : List Int) l0 _ _ _ (fun _ => True) (fun _ => False) rfl rfl ?aO ?aR (fun _ _ h => h) (fun _ h => h.elim) ?aF ?aB ?aS ?aL ?_; (case aR => exact (Kd.C_below HR.out HLb.out)); (case aB => exact HLb.out); (case aF => exact (fun _ _ => trivial)); (case aO => exact HLo.out); (case aS => exact HLb.out.size); (case aL => simp only [List.length_nil]; omega); intro v w2 ho hb hg hat; clear hg hat; rw [List.nil_append] at ho; have HO := Aside0.mk ho; have HB := Aside0.mk hb; clear ho hb))
   go_ret
   exact ⟨_, rfl, HO.out, HB.out⟩
 next => cases h
end


/-! ### part_Prev: function 34 -/
mutual
def part_Prev.l0 : Nat → List Int → Int → Option (List Int × Bool)
 | 0, _, _ => none
 | k + 1, x0, x4 => if x4 > 0 then (if 0 ≤ x4 then (if x4 < (x0.length : Int) then (if (rd x0 x4) = 0 then (part_Prev.l0 k x0 (wrap64 (x4 - 1))) else ((slices_Clone_int_int.f x0).bind fun t213 => (if x4 < (t213.length : Int) then (part_Prev.l1 k (t213.set (x4 : Int).toNat (wrap64 ((rd t213 x4) - 1))) (wrap64 (x4 + 1))) else (none)))) else (none)) else (none)) else (some (([] : List Int), false))
def part_Prev.l1 : Nat → List Int → Int → Option (List Int × Bool)
 | 0, _, _ => none
 | k + 1, x5, x6 => if x6 < (x5.length : Int) then (if 0 ≤ x6 then (if x6 ≤ (x5.length : Int) then ((part_Size.f k (x5.take (x6 : Int).toNat)).bind fun t222 => (part_Prev.l1 k (x5.set (x6 : Int).toNat t222) (wrap64 (x6 + 1)))) else (none)) else (none)) else (some (x5, true))
end
def part_Prev.f (k : Nat) (l0 : List Int) : Option (List Int × Bool) := (part_Legal.f k l0).bind fun t211 => (if t211 = true then (part_Prev.l0 k l0 (wrap64 ((l0.length : Int) - 1))) else (some (([] : List Int), false)))
theorem part_Prev.mono_l : ∀ k, (∀ y0 y1, LeO (part_Prev.l0 k y0 y1) (part_Prev.l0 (k + 1) y0 y1)) ∧ (∀ y0 y1, LeO (part_Prev.l1 k y0 y1) (part_Prev.l1 (k + 1) y0 y1))
 | 0 => ⟨fun _ _ r h => by simp [part_Prev.l0] at h, fun _ _ r h => by simp [part_Prev.l1] at h⟩
 | k + 1 => by
  obtain ⟨ih0, ih1⟩ := part_Prev.mono_l k
  refine ⟨?_, ?_⟩
  ·intro y0 y1
   unfold part_Prev.l0
   repeat' first
   | (with_reducible exact ih0 _ _)
   | (with_reducible exact ih1 _ _)
   | (with_reducible exact part_Legal.mono _ _)
   | (with_reducible exact part_Size.mono _ _)
   | (with_reducible exact LeO.refl _)
   | (with_reducible exact LeO.none _)
   | (with_reducible refine LeO.ite ?_ ?_)
   | (with_reducible refine LeO.bind ?_ (fun _ => ?_))
  ·intro y0 y1
   unfold part_Prev.l1
   repeat' first
   | (with_reducible exact ih0 _ _)
   | (with_reducible exact ih1 _ _)
   | (with_reducible exact part_Legal.mono _ _)
   | (with_reducible exact part_Size.mono _ _)
   | (with_reducible exact LeO.refl _)
   | (with_reducible exact LeO.none _)
   | (with_reducible refine LeO.ite ?_ ?_)
   | (with_reducible refine LeO.bind ?_ (fun _ => ?_))
theorem part_Prev.mono : ∀ a0 k, LeO (part_Prev.f k a0) (part_Prev.f (k + 1) a0) := by
 intro a0 k
 obtain ⟨ih0, ih1⟩ := part_Prev.mono_l k
 unfold part_Prev.f
 repeat' first
   | (with_reducible exact ih0 _ _)
   | (with_reducible exact ih1 _ _)
   | (with_reducible exact part_Legal.mono _ _)
   | (with_reducible exact part_Size.mono _ _)
   | (with_reducible exact LeO.refl _)
   | (with_reducible exact LeO.none _)
   | (with_reducible refine LeO.ite ?_ ?_)
   | (with_reducible refine LeO.bind ?_ (fun _ => ?_))
set_option maxHeartbeats 8000000 in
set_option maxRecDepth 100000 in
theorem part_Prev.calls (k : Nat) (A0 : Option Addr) (c0 : Nat) (l0 : List Int) (r1 : List Int) (r2 : Bool) (w : World) (hr0 : Kd.C (Kd.int .i64) w A0 l0.length l0) (hc0 : l0.length ≤ c0) (h : part_Prev.f k l0 = some (r1, r2)) :
  Calls Try.prog 34 #[.slice A0 l0.length c0] w fun e w' => ∃ v0_ : Value, e = .returned (.tuple #[v0_, .bool r2]) ∧ Kd.R (Kd.int .i64) 3 w' w.heap.size (fun _ => True) v0_ r1 ∧ Below w.heap.size w w' := by
 have HR0 := Aside0.mk hr0
 have HC0 := Aside0.mk hc0
 clear hr0 hc0
 have HB := Aside0.mk (Below.refl w.heap.size w)
 have H : ((part_Legal.f k l0).bind fun t211 => (if t211 = true then (part_Prev.l0 k l0 (wrap64 ((l0.length : Int) - 1))) else (some (([] : List Int), false)))) = some (r1, r2) := h
 clear h
 replace H := Option.bind_eq_some_iff.mp H
 obtain ⟨t211, A20, H⟩ := H
 replace H : (if t211 = true then (part_Prev.l0 k l0 (wrap64 ((l0.length : Int) - 1))) else (some (([] : List Int), false))) = some (r1, r2) := H
 have A2 := Aside0.mk A20
 clear A20
 by_cases c3 : t211 = true
 ·subst c3
  have H1 : (part_Prev.l0 k l0 (wrap64 ((l0.length : Int) - 1))) = some (r1, r2) := by rw [if_pos rfl] at H; exact H
  clear H
  have H := H1
  clear H1
  have H' := Aside0.mk H
  clear H
  go_enter Try.func34, Try.ntmps34
  go_wp2_with (first | ((with_reducible refine gate_callee (f := 16) rfl ?_); refine goesL_ (some 8) rfl rfl Try.func16 (by kernel_rfl) rfl #[.slice A0 l0.length c0] rfl (by (try simp only [List.map_toArray, List.map_cons, List.map_nil]); first | done | rfl | (simp only [List.length_drop, List.length_take]; rfl)) ?_; (with_reducible refine (part_Legal.calls k _ _ l0 true _ ?side1 ?side2 A2.out).mono ?_); (case side1 => repeat (first | exact HR0.out)); (case side2 => exact HC0.out); rintro e w4 ⟨rfl, hb⟩; refine ⟨_, rfl, ?_⟩; have n0_ := Aside0.mk (below_step (by exact HB.out) hb); clear HB; have HB := n0_; clear n0_; (try clear hb)))
  go_loopg [4] k (fun kq v4 w' => ∃ (x4_1 : Int), v4 = .int .i64 x4_1 ∧ Aside0 (part_Prev.l0 kq l0 x4_1 = some (r1, r2)) ∧ Aside0 (kq ≤ k) ∧ Aside0 (Below w.heap.size w w'))
  case atStart => exact ⟨(wrap64 ((l0.length : Int) - 1)), (by first | rfl | (simp; done) | (simp [*]; done)), H', ⟨Nat.le_refl _⟩, ⟨by exact HB.out⟩⟩
  case round =>
   clear H'
   try clear c1
   try clear p2
   try clear c3
   obtain ⟨x4_1, rfl, HA, HK1, HB⟩ := hrel
   cases gk with
   | zero => exact absurd HA.out (by simp [part_Prev.l0])
   | succ k1 =>
    have H := HA.out
    clear HA
    simp only [part_Prev.l0] at H
    by_cases c5 : x4_1 > 0
    ·rw [if_pos c5] at H
     have c5b0 : decide (0 < x4_1) = true := decide_eq_true c5
     clear c5
     by_cases c6 : 0 ≤ x4_1
     ·rw [if_pos c6] at H
      have c6b0 : decide (0 ≤ x4_1) = true := decide_eq_true c6
      clear c6
      by_cases c7 : x4_1 < (l0.length : Int)
      ·rw [if_pos c7] at H
       have c7b0 : decide (x4_1 < (l0.length : Int)) = true := decide_eq_true c7
       clear c7
       by_cases c8 : (rd l0 x4_1) = 0
       ·rw [if_pos c8] at H
        have c8b0 : ((rd l0 x4_1) == 0) = true := beq_iff_eq.mpr c8
        have c8b1 : ((rd l0 x4_1) != 0) = false := bne_eq_false_iff_eq.mpr c8
        clear c8
        have H' := Aside0.mk H
        clear H
        have p212 : 0 ≤ (x4_1 : Int) := of_decide_eq_true (by assumption)
        have q212 : x4_1 < (l0.length : Int) := of_decide_eq_true (by assumption)
        obtain ⟨ad212, e212, hx212_0⟩ := Kd.at_int HR0.out x4_1 p212 q212
        cases e212
        (try replace hx212_0 := (HB.out.cell (World.block_lt_of_cell? w _ hx212_0)).trans hx212_0)
        replace p212 := eq_true p212
        replace q212 := eq_true q212
        go_wp2
        go_roundg k1
        case measure => have := HK1.out; omega
        case rel => exact ⟨(wrap64 (x4_1 - 1)), (by first | rfl | (simp; done) | (simp [*]; done)), H', ⟨by have := HK1.out; omega⟩, ⟨by exact HB.out⟩⟩
       ·rw [if_neg c8] at H
        have c8b0 : ((rd l0 x4_1) == 0) = false := beq_eq_false_iff_ne.mpr c8
        have c8b1 : ((rd l0 x4_1) != 0) = true := bne_iff_ne.mpr c8
        replace H := Option.bind_eq_some_iff.mp H
        obtain ⟨t213, A90, H⟩ := H
        replace H : (if x4_1 < (t213.length : Int) then (part_Prev.l1 k1 (t213.set (x4_1 : Int).toNat (wrap64 ((rd t213 x4_1) - 1))) (wrap64 (x4_1 + 1))) else (none)) = some (r1, r2) := H
        have A9 := Aside0.mk A90
        clear A90
        by_cases c10 : x4_1 < (t213.length : Int)
        ·rw [if_pos c10] at H
         have c10b0 : decide (x4_1 < (t213.length : Int)) = true := decide_eq_true c10
         clear c10
         obtain ⟨y217, hy217⟩ : ∃ y_ : List Int, y_ = (t213.set (x4_1 : Int).toNat (wrap64 ((rd t213 x4_1) - 1))) := ⟨_, rfl⟩
         replace H : (part_Prev.l1 k1 y217 (wrap64 (x4_1 + 1))) = some (r1, r2) := by first | (rw [hy217]; with_reducible exact H) | (have H2_ := (Option.bind_some _ _).symm.trans H; rw [hy217]; with_reducible exact H2_) | (have H2_ := (Option.bind_some _ _).symm.trans H; with_reducible exact H2_) | with_reducible exact H | (rw [hy217]; exact H) | exact H
         have Ny217 := Aside0.mk hy217
         clear hy217
         have H' := Aside0.mk H
         clear H
         have p212 : 0 ≤ (x4_1 : Int) := of_decide_eq_true (by assumption)
         have q212 : x4_1 < (l0.length : Int) := of_decide_eq_true (by assumption)
         obtain ⟨ad212, e212, hx212_0⟩ := Kd.at_int HR0.out x4_1 p212 q212
         cases e212
         (try replace hx212_0 := (HB.out.cell (World.block_lt_of_cell? w _ hx212_0)).trans hx212_0)
         replace p212 := eq_true p212
         replace q212 := eq_true q212
         go_wp2_with (first | ((with_reducible refine gate_callee (f := 74) rfl ?_); refine goesL_ (some 23) rfl rfl Try.func74 (by kernel_rfl) rfl #[.slice (some ad212) l0.length c0] rfl (by (try simp only [List.map_toArray, List.map_cons, List.map_nil]); first | done | rfl | (simp only [List.length_drop, List.length_take]; rfl)) ?_; (with_reducible refine (slices_Clone_int_int.calls _ _ l0 t213 _ ?side1 ?side2 A9.out).mono ?_); (case side1 => repeat (first | exact (Kd.C_below HR0.out HB.out))); (case side2 => exact HC0.out); rintro e w12 ⟨v214, rfl, ho0, hb⟩; refine ⟨_, rfl, ?_⟩; have n0_ := Aside0.mk (Kd.R_lower ho0 (below_size (by exact HB.out))); have n1_ := Aside0.mk (below_step (by exact HB.out) hb); clear HB; have HO215 := n0_; have HB := n1_; clear n0_ n1_; (try clear hb); (try clear ho0); obtain ⟨Ao13, co13, eo13⟩ := Kd.R_slice HO215.out; subst eo13; have p216 : 0 ≤ (x4_1 : Int) := of_decide_eq_true (by assumption); have q216 : x4_1 < (t213.length : Int) := of_decide_eq_true (by assumption); obtain ⟨ad216, e216, hx216_0⟩ := Kd.at_int (Kd.R_reads' HO215.out).2.2 x4_1 p216 q216; cases e216; replace p216 := eq_true p216; replace q216 := eq_true q216; have p11 : 0 ≤ (x4_1 : Int) := of_decide_eq_true (by assumption); have q11 : (x4_1 : Int) < ((t213.length : Int) : Int) := of_decide_eq_true (by assumption); obtain ⟨go11, co11, eo11, gb11, gl11, cl11, HG11⟩ := Kd.R_form HO215.out (by omega); (first | cases eo11 | (injection eo11 with ea_ en_ ec_; (first | subst ea_ | (injection ea_ with ea_; subst ea_)); subst ec_; clear en_)); have GB11 := Aside0.mk gb11; have GG11 := Aside0.mk HG11; clear gb11 gl11 HG11; (first | simp only [add_plain] at hx216_0 | skip); obtain ⟨hx11_0, hf11_0⟩ := Kd.R_celln 0 HO215.out (x4_1 : Int) p11 q11; replace p11 := eq_true p11; replace q11 := eq_true q11; obtain ⟨hy14_, hz14_⟩ := Kd.R_celln 0 HO215.out (x4_1 : Int) (of_decide_eq_true (by assumption)) (of_decide_eq_true (by assumption)); have HP14 := Kd.R_putg HO215.out (x4_1 : Int) (wrap64 ((rd t213 x4_1) - 1))) | ((with_reducible refine gate_store (t := 3) (p := 29) rfl ?_); refine store_event (t := 3) (p := 29) (v := ?vo_w15) (w1 := (w12.setCell ⟨go11, (x4_1 : Int).toNat, none⟩ (.int .i64 (wrap64 ((rd t213 x4_1) - 1))))) ?hg ?ho ?hn ?hr ?_; (case ho => rfl); (case hg => rfl); (case hn => rfl); (case hr => first | (go_simp; done) | (go_simp; rfl)); intro w15 hw; have hg : w12.grownBy w15 (some go11) := (by rw [hw]; exact HP14.2); have hp_ : Kd.R (Kd.int .i64) 3 w15 w.heap.size (fun _ => True) (.slice (some ⟨go11, 0, none⟩) t213.length co13) y217 := (by rw [hw, Ny217.out]; exact HP14.1); clear HP14; have n0_ := Aside0.mk (hp_); have n1_ := Aside0.mk ((by rw [hw]; exact below_set (HB.out) GB11.out : Below w.heap.size w w15)); clear HO215; clear HB; have HO215 := n0_; have HB := n1_; clear n0_ n1_; clear hg hw hp_))
         go_loopg [6] k1 (fun kq v6 w' => ∃ (x5_2 : List Int) (x6_2 : Int), v6 = .int .i64 x6_2 ∧ Aside0 (part_Prev.l1 kq x5_2 x6_2 = some (r1, r2)) ∧ Aside0 (kq ≤ k1) ∧ Aside0 (Kd.R (Kd.int .i64) 3 w' w.heap.size (fun _ => True) (.slice (some ⟨go11, 0, none⟩) t213.length co13) x5_2) ∧ Aside0 (Below w.heap.size w w'))
         case atStart => exact ⟨(y217), (wrap64 (x4_1 + 1)), (by first | rfl | (simp; done) | (simp [*]; done)), H', ⟨Nat.le_refl _⟩, ⟨by exact HO215.out⟩, ⟨by exact HB.out⟩⟩
         case round =>
          clear H'
          try clear c1
          try clear p1
          try clear q1
          try clear hx1
          try clear hf1
          try clear p2
          try clear q2
          try clear hx2
          try clear c3
          try clear c5
          try clear c5b0
          try clear c6
          try clear c6b0
          try clear p6
          try clear c7
          try clear c7b0
          try clear c8
          try clear c8b0
          try clear c8b1
          try clear c10
          try clear c10b0
          try clear p11
          try clear q11
          try clear hx11
          try clear hf11
          try clear hx11_0
          try clear hx212_0
          try clear hx216_0
          try clear p11
          try clear p2
          try clear p212
          try clear p216
          try clear q11
          try clear q212
          try clear q216
          obtain ⟨x5_2, x6_2, rfl, HA, HK2, HO_5, HB⟩ := hrel
          have hl5_2 := (Kd.R_reads' HO_5.out).1
          rw [hl5_2] at HO_5
          (try simp only [hl5_2])
          cases gk with
          | zero => exact absurd HA.out (by simp [part_Prev.l1])
          | succ k2 =>
           have H := HA.out
           clear HA
           simp only [part_Prev.l1] at H
           by_cases c16 : x6_2 < (x5_2.length : Int)
           ·rw [if_pos c16] at H
            have c16b0 : decide (x6_2 < (x5_2.length : Int)) = true := decide_eq_true c16
            clear c16
            by_cases c17 : 0 ≤ x6_2
            ·rw [if_pos c17] at H
             have c17b0 := eq_true c17
             have c17b1 : decide (0 ≤ x6_2) = true := decide_eq_true c17
             clear c17
             by_cases c18 : x6_2 ≤ (x5_2.length : Int)
             ·rw [if_pos c18] at H
              have c18b0 := eq_true c18
              have c18b1 : decide (x6_2 ≤ (x5_2.length : Int)) = true := decide_eq_true c18
              clear c18
              obtain ⟨y218, hy218⟩ : ∃ y_ : List Int, y_ = (x5_2.take (x6_2 : Int).toNat) := ⟨_, rfl⟩
              replace H : ((part_Size.f k2 y218).bind fun t222 => (part_Prev.l1 k2 (x5_2.set (x6_2 : Int).toNat t222) (wrap64 (x6_2 + 1)))) = some (r1, r2) := by first | (rw [hy218]; with_reducible exact H) | (have H2_ := (Option.bind_some _ _).symm.trans H; rw [hy218]; with_reducible exact H2_) | (have H2_ := (Option.bind_some _ _).symm.trans H; with_reducible exact H2_) | with_reducible exact H | (rw [hy218]; exact H) | exact H
              have Ny218 := Aside0.mk hy218
              clear hy218
              replace H := Option.bind_eq_some_iff.mp H
              obtain ⟨t222, A190, H⟩ := H
              replace H : (part_Prev.l1 k2 (x5_2.set (x6_2 : Int).toNat t222) (wrap64 (x6_2 + 1))) = some (r1, r2) := H
              have A19 := Aside0.mk A190
              clear A190
              obtain ⟨y223, hy223⟩ : ∃ y_ : List Int, y_ = (x5_2.set (x6_2 : Int).toNat t222) := ⟨_, rfl⟩
              replace H : (part_Prev.l1 k2 y223 (wrap64 (x6_2 + 1))) = some (r1, r2) := by first | (rw [hy223]; with_reducible exact H) | (have H2_ := (Option.bind_some _ _).symm.trans H; rw [hy223]; with_reducible exact H2_) | (have H2_ := (Option.bind_some _ _).symm.trans H; with_reducible exact H2_) | with_reducible exact H | (rw [hy223]; exact H) | exact H
              have Ny223 := Aside0.mk hy223
              clear hy223
              have H' := Aside0.mk H
              clear H
              have q21 : (x6_2 : Int) ≤ ((x5_2.length : Int) : Int) := of_decide_eq_true (by assumption)
              obtain ⟨i021, hi021, _, hsz21, _⟩ := info_parts info3
              have hroom21 : x5_2.length ≤ co13 := (Kd.R_reads' HO_5.out).2.1
              have hC21 : Kd.C (Kd.int .i64) _ (some ⟨go11, 0, none⟩) x5_2.length x5_2 := (Kd.R_reads' HO_5.out).2.2
              have hcut21 := cut_to (P := Try.prog) 22 3 .i64 Try.underlying22 hi021 (some ⟨go11, 0, none⟩) x5_2.length co13 x6_2 (of_decide_eq_true (by assumption)) q21 hroom21
              have hr21 := Kd.C_take (m := (x6_2 : Int).toNat) hC21 (by omega)
              have hy21 : y218.length = (x6_2 : Int).toNat := (by rw [Ny218.out, List.length_take]; omega)
              rw [← Ny218.out] at hr21
              rw [← hy21] at hcut21
              have HR221 := Aside0.mk hr21
              have HC221 := Aside0.mk (show y218.length ≤ co13 from by omega)
              clear hr21 hC21 hroom21 hi021 hsz21
              have KY21 := Aside0.mk hy21
              clear hy21
              have KL21 := Aside0.mk (show (x6_2 : Int).toNat ≤ x5_2.length from by omega)
              replace q21 := eq_true q21
              go_wp2_with (first | ((with_reducible refine gate_callee (f := 19) rfl ?_); refine goesL_ (some 43) rfl rfl Try.func19 (by kernel_rfl) rfl #[.slice (some ⟨go11, 0, none⟩) y218.length co13] rfl (by (try simp only [List.map_toArray, List.map_cons, List.map_nil]); first | done | rfl | (simp only [List.length_drop, List.length_take]; rfl)) ?_; (with_reducible refine (part_Size.calls k2 _ _ y218 t222 _ ?side1 ?side2 A19.out).mono ?_); (case side1 => repeat (first | exact (by repeat (first | (with_reducible exact HR221.out) | exact HR221.out)))); (case side2 => exact HC221.out); rintro e w22 ⟨rfl, hb⟩; refine ⟨_, rfl, ?_⟩; have n0_ := Aside0.mk (Kd.R_below (by exact HO_5.out) hb); have n1_ := Aside0.mk (Kd.C_below (by repeat (first | (with_reducible exact HR221.out) | exact HR221.out)) hb); have n2_ := Aside0.mk (below_step (by exact HB.out) hb); clear HO_5; clear HR221; clear HB; have HO_5 := n0_; have HR221 := n1_; have HB := n2_; clear n0_ n1_ n2_; (try clear hb); have p20 : 0 ≤ (x6_2 : Int) := of_decide_eq_true (by assumption); have q20 : (x6_2 : Int) < ((x5_2.length : Int) : Int) := of_decide_eq_true (by assumption); obtain ⟨hx20_0, hf20_0⟩ := Kd.R_celln 0 HO_5.out (x6_2 : Int) p20 q20; replace p20 := eq_true p20; replace q20 := eq_true q20; obtain ⟨hy23_, hz23_⟩ := Kd.R_celln 0 HO_5.out (x6_2 : Int) (of_decide_eq_true (by assumption)) (of_decide_eq_true (by assumption)); have HP23 := Kd.R_putg HO_5.out (x6_2 : Int) t222) | ((with_reducible refine gate_store (t := 3) (p := 44) rfl ?_); refine store_event (t := 3) (p := 44) (v := ?vo_w24) (w1 := (w22.setCell ⟨go11, (x6_2 : Int).toNat, none⟩ (.int .i64 t222))) ?hg ?ho ?hn ?hr ?_; (case ho => rfl); (case hg => rfl); (case hn => rfl); (case hr => first | (go_simp; done) | (go_simp; rfl)); intro w24 hw; have hg : w22.grownBy w24 (some go11) := (by rw [hw]; exact HP23.2); have hp_ : Kd.R (Kd.int .i64) 3 w24 w.heap.size (fun _ => True) (.slice (some ⟨go11, 0, none⟩) x5_2.length co13) y223 := (by rw [hw, Ny223.out]; exact HP23.1); clear HP23; have n0_ := Aside0.mk (hp_); have n1_ := Aside0.mk ((by rw [hw]; exact below_set (HB.out) GB11.out : Below w.heap.size w w24)); clear HO_5; clear HB; have HO_5 := n0_; have HB := n1_; clear n0_ n1_; clear hg hw hp_))
              (try simp only [← hl5_2])
              go_roundg k2
              case measure => have := HK1.out; have := HK2.out; omega
              case rel => exact ⟨(y223), (wrap64 (x6_2 + 1)), (by first | rfl | (simp; done) | (simp [*]; done)), H', ⟨by have := HK1.out; have := HK2.out; omega⟩, ⟨by (try simp only [hl5_2]); exact HO_5.out⟩, ⟨by exact HB.out⟩⟩
             ·rw [if_neg c18] at H
              exact absurd H (by simp)
            ·rw [if_neg c17] at H
             exact absurd H (by simp)
           ·rw [if_neg c16] at H
            have c16b0 : decide (x6_2 < (x5_2.length : Int)) = false := decide_eq_false c16
            clear c16
            simp only [Option.some.injEq, Prod.mk.injEq] at H
            obtain ⟨rfl, rfl⟩ := H
            go_wp2
            go_ret2
            exact ⟨_, by first | rfl | (simp [errW_none, errW_some] <;> rfl) | (simp [*, errW_none, errW_some] <;> rfl), by exact HO_5.out, by exact HB.out⟩
        ·rw [if_neg c10] at H
         exact absurd H (by simp)
      ·rw [if_neg c7] at H
       exact absurd H (by simp)
     ·rw [if_neg c6] at H
      exact absurd H (by simp)
    ·rw [if_neg c5] at H
     have c5b0 : decide (0 < x4_1) = false := decide_eq_false c5
     clear c5
     simp only [Option.some.injEq, Prod.mk.injEq] at H
     obtain ⟨rfl, rfl⟩ := H
     go_wp2
     go_ret2
     exact ⟨_, by first | rfl | (simp [errW_none, errW_some] <;> rfl) | (simp [*, errW_none, errW_some] <;> rfl), by first | exact Kd.R_nil _ _ _ _ _ | exact Kd.N_nil _ _ _ _ _ | exact Kd.V_nil _ _ _ _ _ | exact Kd.Q_nil _ _ _ _ _ | exact Kd.S_nil _ _ _ _ _, by exact HB.out⟩
 ·replace c3 := Bool.eq_false_iff.mpr c3
  subst c3
  have H1 : (some (([] : List Int), false)) = some (r1, r2) := by rw [if_neg (show ¬ (false = true) by decide)] at H; exact H
  clear H
  have H := H1
  clear H1
  simp only [Option.some.injEq, Prod.mk.injEq] at H
  obtain ⟨rfl, rfl⟩ := H
  go_enter Try.func34, Try.ntmps34
  go_wp2_with (first | ((with_reducible refine gate_callee (f := 16) rfl ?_); refine goesL_ (some 8) rfl rfl Try.func16 (by kernel_rfl) rfl #[.slice A0 l0.length c0] rfl (by (try simp only [List.map_toArray, List.map_cons, List.map_nil]); first | done | rfl | (simp only [List.length_drop, List.length_take]; rfl)) ?_; (with_reducible refine (part_Legal.calls k _ _ l0 false _ ?side1 ?side2 A2.out).mono ?_); (case side1 => repeat (first | exact HR0.out)); (case side2 => exact HC0.out); rintro e w25 ⟨rfl, hb⟩; refine ⟨_, rfl, ?_⟩; have n0_ := Aside0.mk (below_step (by exact HB.out) hb); clear HB; have HB := n0_; clear n0_; (try clear hb)))
  go_ret2
  exact ⟨_, by first | rfl | (simp [errW_none, errW_some] <;> rfl) | (simp [*, errW_none, errW_some] <;> rfl), by first | exact Kd.R_nil _ _ _ _ _ | exact Kd.N_nil _ _ _ _ _ | exact Kd.V_nil _ _ _ _ _ | exact Kd.Q_nil _ _ _ _ _ | exact Kd.S_nil _ _ _ _ _, by exact HB.out⟩

end Go.Proofs.Ytpcnpmcknknfcaa.PPex
