/- A text written by my program wip/gen/p2.py out of the translation and of my foreign texts; not trusted: Lean checks it. -/
import Derived.Test.YtbcdlfodgoiodaaDoorPRtxx0
import Derived.Test.YtbcdlfodgoiodaaDoorPRtxx1
import Derived.Test.YtbcdlfodgoiodaaDoorPRtxx3
import Derived.Test.YtbcdlfodgoiodaaDoorPRtxx4
import Derived.Test.YtbcdlfodgoiodaaDoorPRtxx5
import Derived.Test.YtbcdlfodgoiodaaDoorPRtxx6
namespace Go.Proofs.YtbcdlfodgoiodaaDoor.PRtx
open Go.RowKit Go.Proofs.YtbcdlfodgoiodaaDoorW.PrintWords Go.Proofs.YtbcdlfodgoiodaaDoorW.PrintLast Go.Proofs.YtbcdlfodgoiodaaDoorW.PrintMore
attribute [local go_sem] max2_int min2_int max_two min_two max_three min_three max_four min_four   -- for this text's walks alone
set_option linter.unusedVariables false
set_option linter.unusedSimpArgs false

/-! ### provostlaw06_RuleText: function 6 -/
section
open Go Go.Lib Go.Proofs.YtbcdlfodgoiodaaDoorW.Tab Go.Proofs.YtbcdlfodgoiodaaDoorW.Mine
/-- how many rules are still to come -/
def rtLeft (n : Nat) (v : Value) : Nat := n - (RowKit.intOf v).toNat
theorem rtLeft_lt {n j : Nat} (h : j < n) : rtLeft n (.int .i64 ((j : Int) + 1)) < rtLeft n (.int .i64 (j : Int)) := by
  unfold rtLeft
  simp only [RowKit.intOf]
  omega
def provostlaw06_RuleText.T8 : Bool × List (List Nat × List Nat) := (true, [([], []), ([], []), ([0, 1], [0, 1]), ([2], [2]), ([], []), ([], []), ([4, 5], [4, 5]), ([3, 6, 6], [3, 6]), ([7], [7]), ([8], [8]), ([8], [8]), ([9, 7, 0, 1, 2, 3, 4, 5, 6, 7, 8, 9], [9]), ([10, 11, 0, 1, 2, 3, 4, 5, 6, 7, 8, 9, 10, 11], [10])])
def provostlaw06_RuleText.B8 : List Nat := [0, 0, 3, 7, 0, 0, 48, 127, 255, 511, 511, 1023, 4095]
theorem provostlaw06_RuleText.tab8 : rtab .any (opsOf Tryd.f6 8) = provostlaw06_RuleText.T8 := by kernel_rfl
theorem provostlaw06_RuleText.bits8 : waitsOk provostlaw06_RuleText.T8.2 provostlaw06_RuleText.B8 = true := by kernel_rfl
set_option maxHeartbeats 8000000 in
set_option maxRecDepth 100000 in
theorem provostlaw06_RuleText.walk (n0 : Int) (A1 : Option Addr) (c1 : Nat) (l1 : List S53) (A2 : Option Addr) (c2 : Nat) (l2 : List Int) (A3 : Option Addr) (c3 : Nat) (l3 nm : List ByteArray) (w : World) (hr1 : Kd.C k53 w A1 l1.length l1) (hc1 : l1.length ≤ c1) (hr3 : Kd.C Kd.string w A3 l3.length l3) (hc3 : l3.length ≤ c3)
    (hnm : nm = l3.take 20) (KF : Nat) (tw : List S53) (HT : Aside0 (provostlaw06_Twin.f KF l1 = some tw)) (htw : tw.length ≤ 60) (R1 : Nat → ByteArray) (R2 : Nat → Int) (CK : Nat → Bool)
    (HTX : Aside0 (∀ j, j < tw.length → rule_Text.f (rd_T53 tw (j : Int)).f0 (rd_T53 tw (j : Int)).f1 (rd_T53 tw (j : Int)).f2 nm = some (R1 j, R2 j)))
    (HCK : Aside0 (∀ j, j < tw.length → provostref06_Check.f KF (nm.length : Int) (rd_T53 tw (j : Int)).f0 (rd_T53 tw (j : Int)).f1 (rd_T53 tw (j : Int)).f2 = some (CK j)))
    (HGO : Aside0 (∀ j, j < tw.length → CK j = true → R2 j = 0 ∧ provostref06_Text.f KF (rd_T53 tw (j : Int)).f0 (rd_T53 tw (j : Int)).f1 (rd_T53 tw (j : Int)).f2 nm = some (R1 j))) (HNO : Aside0 (∀ j, j < tw.length → CK j = false → R2 j = 1 ∧ R1 j = ⟨#[]⟩))
    (HW : Aside0 (provostlaw06_wakes.f KF = some true)) (hT : TabW w) :
    Calls Tryd.prog 6 #[.agg #[.int .i64 n0, .slice A1 l1.length c1, .slice A2 l2.length c2, .slice A3 l3.length c3]] w fun e W' => e = .returned (.bool true) ∧ Below w.heap.size w W' := by
  have HR1 := Aside0.mk hr1; have HC1 := Aside0.mk hc1; have HTW := Aside0.mk hT
  have HR3 : Aside0 (Kd.C Kd.string w A3 nm.length nm) := ⟨by
    rw [hnm]
    by_cases h : 20 ≤ l3.length
    · exact Kd.C_take hr3 h
    · rw [List.take_of_length_le (by omega)]; exact hr3⟩
  have HNL : Aside0 (nm.length ≤ 20) := ⟨by rw [hnm, List.length_take]; omega⟩
  have HC3 : Aside0 (nm.length ≤ c3) := ⟨by rw [hnm, List.length_take]; omega⟩
  obtain ⟨i0, hi0, _, _, _⟩ := info_parts info9
  clear hr1 hc1 hr3 hT
  by_cases h20 : 20 < l3.length
  · skip
    have hnl : nm.length = 20 := by rw [hnm, List.length_take]; omega
    have hcut := cut_to (P := Tryd.prog) 24 9 .i64 Tryd.underlying24 hi0 A3 l3.length c3 (20 : Int) (by omega) (by omega) hc3
    rw [show (20 : Int).toNat = nm.length from hnl.symm] at hcut
    have hg : decide ((l3.length : Int) > 20) = true := decide_eq_true (by omega); have hg2 : decide (20 < l3.length) = true := decide_eq_true h20; have hg3 : decide ((20 : Int) < (l3.length : Int)) = true := decide_eq_true (by omega)
    have h2020 : (20 ≤ l3.length) = True := eq_true (by omega)
    clear hnm h20 hi0 hnl
    go_enter Tryd.func6, Tryd.ntmps6
    go_wp2_with (first | (go_at_call 7; (with_reducible refine (provostlaw06_Twin.calls KF _ _ l1 tw _ (Kd.C_alloc HR1.out _) HC1.out HT.out).mono ?_); rintro e w1 ⟨v1, rfl, hs1, hb1⟩; obtain ⟨At, ct, rfl⟩ := Kd.S_slice hs1; have HCT := Aside0.mk (Kd.S_reads' hs1).2.2; have y1 : (w.alloc (.cells #[.int .i64 n0, .slice A1 l1.length c1, .slice A2 l2.length c2, .slice A3 l3.length c3] 26)).heap[w.heap.size]? = some (.cells #[.int .i64 n0, .slice A1 l1.length c1, .slice A2 l2.length c2, .slice A3 l3.length c3] 26) := heap_alloc_new w _; have yB : Below w.heap.size w (w.alloc (.cells #[.int .i64 n0, .slice A1 l1.length c1, .slice A2 l2.length c2, .slice A3 l3.length c3] 26)) := (Below.refl _ w).alloc (Nat.le_refl _) _; have z3 : w1.cell? ⟨w.heap.size, 3, none⟩ = some (.slice A3 l3.length c3) := (blk_cell ((hb1.block _ (blk_lt y1)).trans y1) 3).trans rfl; have HB := Aside0.mk (yB.trans (hb1.mono yB.size)); clear y1 yB hb1 hs1))
    clear z3 hg hg2 hg3 hcut h2020
    go_loopw [5] (fun v5 wr => ∃ j : Nat, j ≤ tw.length ∧ v5 = .int .i64 (j : Int) ∧ Aside0 (Kd.C k53 wr At tw.length tw) ∧ Aside0 (Below w.heap.size w wr)) (fun v5 _ => rtLeft tw.length v5)
    case atStart => exact ⟨0, Nat.zero_le _, rfl, HCT, HB⟩
    case round =>
      clear HCT HB
      obtain ⟨j, hj, rfl, HCT, HB⟩ := hrel
      by_cases hlt : j < tw.length
      · have hw1 : wrap64 ((j : Int) + 1) = (j : Int) + 1 := by unfold wrap64; omega
        have HLT := Aside0.mk (rtLeft_lt hlt)
        have HJL := Aside0.mk hlt
        have htx := HTX.out j hlt; have hck := HCK.out j hlt; have hgo := HGO.out j hlt; have hno := HNO.out j hlt
        have p1 : 0 ≤ (j : Int) := by omega
        have q1 : (j : Int) < (tw.length : Int) := by omega
        have HAT := Aside0.mk (fun W (h : Kd.C k53 W At tw.length tw) => at_T53 h (j : Int) p1 q1)
        have pd : decide ((j : Int) < (tw.length : Int)) = true := decide_eq_true q1; have pd2 : decide (j < tw.length) = true := decide_eq_true hlt
        obtain ⟨ad, Ae, ce, ee, hx0, hx1, hx2, hl2, hi2⟩ := HAT.out wr HCT.out
        cases ee
        rw [Int.toNat_natCast] at hx0 hx1 hx2
        generalize (rd_T53 tw (j : Int)).f0 = f0 at *
        generalize (rd_T53 tw (j : Int)).f1 = f1 at *
        generalize (rd_T53 tw (j : Int)).f2 = s at *
        have HI2 := Aside0.mk hi2; have HL2 := Aside0.mk hl2; have HTX1 := Aside0.mk htx; have HCK1 := Aside0.mk hck; have HGO1 := Aside0.mk hgo; have HNO1 := Aside0.mk hno
        have HX := Aside0.mk (And.intro hx0 (And.intro hx1 hx2))
        clear hi2 hl2 htx hck hgo hno HAT hx0 hx1 hx2
        replace p1 := eq_true p1; replace q1 := eq_true q1
        go_wp2
        have hD : wr.drew.cell? (ad.add (j * 3)) = some (.int .i64 f0) ∧ wr.drew.cell? ⟨(ad.add (j * 3)).block, (ad.add (j * 3)).off + 1, none⟩ = some (.int .i64 f1) ∧ wr.drew.cell? ⟨(ad.add (j * 3)).block, (ad.add (j * 3)).off + 2, none⟩ = some (.slice Ae s.length ce) := HX.out
        have HCD : Aside0 (Kd.C k53 wr.drew (some ad) tw.length tw) := ⟨Kd.C_drew HCT.out⟩
        have HID : Aside0 (Kd.C (Kd.int .i64) wr.drew Ae s.length s) := ⟨Kd.C_drew HI2.out⟩
        have HBD := Aside0.mk (below_drew HB.out)
        have HND : Aside0 (Kd.C Kd.string wr.drew A3 nm.length nm) := ⟨Kd.C_below HR3.out (HBD.out)⟩
        have HTD := Aside0.mk (tab_below HTW.out HBD.out)
        clear HCT HI2 HB HX
        refine start_ (n := 13) (S := fun w' => w'.cell? (ad.add (j * 3)) = some (.int .i64 f0) ∧ w'.cell? ⟨(ad.add (j * 3)).block, (ad.add (j * 3)).off + 1, none⟩ = some (.int .i64 f1) ∧ w'.cell? ⟨(ad.add (j * 3)).block, (ad.add (j * 3)).off + 2, none⟩ = some (.slice Ae s.length ce)) (ds := []) #[false, false, false, false, false, false, false, false, false, false, false, false, false] (by kernel_rfl) rfl rfl (hD) (fun hHeld => ?_); refine with_tabW provostlaw06_RuleText.tab8 provostlaw06_RuleText.bits8 (fun HT_ HW_ => ?_)
        generalize wr.drew = D at *
        refine pure_ (i := 0) (N := (some 25)) (v := ?_) (a' := ?_) #[true, false, false, false, false, false, false, false, false, false, false, false, false] rfl rfl (any_of HT_.out (by kernel_rfl)) (fun _ _ _ h => h) (Or.inl ⟨by rfl, ?_⟩) ?_ ?_
        rotate_left
        · intro w'
          go_simp
          with_reducible rfl
        rotate_left
        · simp only [Act.put, List.setIfInBounds_toArray, List.set_cons_zero, List.set_cons_succ, i64_w, i32_w]
          rfl
        refine pure_ (i := 1) (N := (some 26)) (v := ?_) (a' := ?_) #[true, true, false, false, false, false, false, false, false, false, false, false, false] rfl rfl (any_of HT_.out (by kernel_rfl)) (fun _ _ _ h => h) (Or.inl ⟨by rfl, ?_⟩) ?_ ?_
        rotate_left
        · intro w'
          go_simp
          with_reducible rfl
        rotate_left
        · simp only [Act.put, List.setIfInBounds_toArray, List.set_cons_zero, List.set_cons_succ, i64_w, i32_w]
          rfl
        refine pure_ (i := 2) (N := (some 27)) (v := ?_) (a' := ?_) #[true, true, true, false, false, false, false, false, false, false, false, false, false] rfl rfl (any_of HT_.out (by kernel_rfl)) (fun _ _ _ h => h) (Or.inl ⟨by rfl, ?_⟩) ?_ ?_
        rotate_left
        · intro w'
          go_simp
          with_reducible rfl
        rotate_left
        · simp only [Act.put, List.setIfInBounds_toArray, List.set_cons_zero, List.set_cons_succ, i64_w, i32_w]
          rfl
        refine take_ (i := 3) (N := (some 28)) (v := ?_) (a' := ?_) #[true, true, true, true, false, false, false, false, false, false, false, false, false] rfl rfl (take_ofW HT_.out HW_.out (by kernel_rfl)) (fun _ _ _ h => h) (Or.inl ⟨by rfl, ?_⟩) hHeld ?_ ?_
        rotate_left
        · intro w' ⟨s0, s1, s2⟩
          go_simp
          with_reducible rfl
        rotate_left
        · simp only [Act.put, List.setIfInBounds_toArray, List.set_cons_zero, List.set_cons_succ, i64_w, i32_w]
          rfl
        refine pure_ (i := 5) (N := (some 30)) (v := ?_) (a' := ?_) #[true, true, true, true, false, true, false, false, false, false, false, false, false] rfl rfl (any_of HT_.out (by kernel_rfl)) (fun _ _ _ h => h) (Or.inl ⟨by rfl, ?_⟩) ?_ ?_
        rotate_left
        · intro w'
          go_simp
          with_reducible rfl
        rotate_left
        · simp only [Act.put, List.setIfInBounds_toArray, List.set_cons_zero, List.set_cons_succ, i64_w, i32_w]
          rfl
        refine one_ (i := 4) (N := (some 29)) #[true, true, true, true, true, true, false, false, false, false, false, false, false] rfl rfl (one_of HT_.out (by kernel_rfl)) (by decide) (fun K hK => ?_)
        refine Kd.R_lit_step Kd.string _ 9 ?hg (N := 29) ?hd (xs := ([] : List ByteArray)) (inner := []) (ok := fun _ => True) (okp := fun _ => True) ?hr ?hp (fun _ hk => hk) trivial (Below.refl _ _) (Nat.le_refl _) (by simp) ?_; (case hd => rfl); (case hg => rfl); (case hr => first | (go_simp; done) | (go_simp; rfl)); (case hp => exact (Reps.none _ _))
        intro vl wl hol hbl hg_ hnew_
        clear hg_ hnew_
        refine hK.out _ _ (⟨(hbl.cell (World.block_lt_of_cell? D _ hD.1)).trans hD.1, (hbl.cell (World.block_lt_of_cell? D _ hD.2.1)).trans hD.2.1, (hbl.cell (World.block_lt_of_cell? D _ hD.2.2)).trans hD.2.2⟩) (fun hHeld => ?_)
        clear hK K
        refine norm_ (a' := ?_) ?_ ?_
        rotate_left
        · show Act.put _ (some 29) _ = _
          simp only [Act.put, List.setIfInBounds_toArray, List.set_cons_zero, List.set_cons_succ, i64_w, i32_w]
          rfl
        refine one_ (i := 6) (N := (some 31)) #[true, true, true, true, true, true, true, false, false, false, false, false, false] rfl rfl (one_of HT_.out (by kernel_rfl)) (by decide) (fun K hK => ?_)
        refine Kd.R_append_rows_step Kd.string (w0 := D) D.heap.size (by rfl) (.tmp 29) (.tmp 30) 24 9 (.string ⟨#[]⟩) 16 rfl Tryd.underlying24 info9 rfl (by decide) (by omega) vl [] nm _ _ _ (fun _ => True) (fun _ => False) rfl rfl ?aO ?aR (fun _ _ h => h) (fun _ h => h.elim) ?aF ?aB ?aS ?aL ?_
        (case aR => exact Kd.C_below HND.out hbl)
        (case aB => exact hbl)
        (case aF => exact (fun _ _ => trivial))
        (case aO => exact hol)
        (case aS => exact hbl.size)
        (case aL => have := HNL.out; simp only [List.length_nil]; omega)
        intro va wa hoa hba hga hat
        rw [List.nil_append] at hoa
        obtain ⟨An, cn, rfl, hcn, hCn⟩ := Kd.R_reads hoa
        clear hga hat hol hbl hoa
        refine hK.out _ _ (⟨(hba.cell (World.block_lt_of_cell? D _ hD.1)).trans hD.1, (hba.cell (World.block_lt_of_cell? D _ hD.2.1)).trans hD.2.1, (hba.cell (World.block_lt_of_cell? D _ hD.2.2)).trans hD.2.2⟩) (fun hHeld => ?_)
        clear hK K
        refine norm_ (a' := ?_) ?_ ?_
        rotate_left
        · show Act.put _ (some 31) _ = _
          simp only [Act.put, List.setIfInBounds_toArray, List.set_cons_zero, List.set_cons_succ, i64_w, i32_w]
          rfl
        refine one_ (i := 7) (N := (some 32)) #[true, true, true, true, true, true, true, true, false, false, false, false, false] rfl rfl (one_of HT_.out (by kernel_rfl)) (by decide) (fun K hK => ?_)
        refine goes_ Tryd.func28 (by kernel_rfl) rfl #[.agg #[.int .i64 f0, .int .i64 f1, .slice Ae s.length ce], .slice An nm.length cn] (by rfl) rfl rfl (by (try simp only [List.map_toArray, List.map_cons, List.map_nil]); first | done | rfl) ?_
        (with_reducible refine (rule_Text.calls f0 f1 Ae ce s An cn nm (R1 j) (R2 j) _ (Kd.C_below HID.out hba) HL2.out hCn hcn HTX1.out ⟨tab_below HTD.out hba⟩).mono ?_)
        rintro e w2 ⟨rfl, hb2⟩
        refine ⟨_, rfl, ?_⟩
        have hb3 := hba.trans (hb2.mono hba.size)
        clear hb2
        refine hK.out _ _ (⟨(hb3.cell (World.block_lt_of_cell? D _ hD.1)).trans hD.1, (hb3.cell (World.block_lt_of_cell? D _ hD.2.1)).trans hD.2.1, (hb3.cell (World.block_lt_of_cell? D _ hD.2.2)).trans hD.2.2⟩) (fun hHeld => ?_)
        clear hK K
        refine norm_ (a' := ?_) ?_ ?_
        rotate_left
        · show Act.put _ (some 32) _ = _
          simp only [Act.put, List.setIfInBounds_toArray, List.set_cons_zero, List.set_cons_succ, i64_w, i32_w]
          rfl
        refine pure_ (i := 8) (N := (some 24)) (v := ?_) (a' := ?_) #[true, true, true, true, true, true, true, true, true, false, false, false, false] rfl rfl (any_of HT_.out (by kernel_rfl)) (fun _ _ _ h => h) (Or.inl ⟨by rfl, ?_⟩) ?_ ?_
        rotate_left
        · intro w'
          go_simp
          with_reducible rfl
        rotate_left
        · simp only [Act.put, List.setIfInBounds_toArray, List.set_cons_zero, List.set_cons_succ, i64_w, i32_w]
          rfl
        refine pure_ (i := 9) (N := (some 33)) (v := ?_) (a' := ?_) #[true, true, true, true, true, true, true, true, true, true, false, false, false] rfl rfl (any_of HT_.out (by kernel_rfl)) (fun _ _ _ h => h) (Or.inl ⟨by rfl, ?_⟩) ?_ ?_
        rotate_left
        · intro w'
          go_simp
          with_reducible rfl
        rotate_left
        · simp only [Act.put, List.setIfInBounds_toArray, List.set_cons_zero, List.set_cons_succ, i64_w, i32_w]
          rfl
        refine pure_ (i := 10) (N := (some 34)) (v := ?_) (a' := ?_) #[true, true, true, true, true, true, true, true, true, true, true, false, false] rfl rfl (any_of HT_.out (by kernel_rfl)) (fun _ _ _ h => h) (Or.inl ⟨by rfl, ?_⟩) ?_ ?_
        rotate_left
        · intro w'
          go_simp
          with_reducible rfl
        rotate_left
        · simp only [Act.put, List.setIfInBounds_toArray, List.set_cons_zero, List.set_cons_succ, i64_w, i32_w]
          rfl
        refine pure_ (i := 11) (N := (some 6)) (v := ?_) (a' := ?_) #[true, true, true, true, true, true, true, true, true, true, true, true, false] rfl rfl (any_of HT_.out (by kernel_rfl)) (fun _ _ _ h => h) (Or.inl ⟨by rfl, ?_⟩) ?_ ?_
        rotate_left
        · intro w'
          go_simp
          with_reducible rfl
        rotate_left
        · simp only [Act.put, List.setIfInBounds_toArray, List.set_cons_zero, List.set_cons_succ, i64_w, i32_w]
          rfl
        refine pure_ (i := 12) (N := (some 7)) (v := ?_) (a' := ?_) #[true, true, true, true, true, true, true, true, true, true, true, true, true] rfl rfl (any_of HT_.out (by kernel_rfl)) (fun _ _ _ h => h) (Or.inl ⟨by rfl, ?_⟩) ?_ ?_
        rotate_left
        · intro w'
          go_simp
          with_reducible rfl
        rotate_left
        · simp only [Act.put, List.setIfInBounds_toArray, List.set_cons_zero, List.set_cons_succ, i64_w, i32_w]
          rfl
        refine done_ (done_of HT_.out (by kernel_rfl)) ?_
        have HCT := Aside0.mk (Kd.C_below HCD.out hb3); have HID2 := Aside0.mk (Kd.C_below HID.out hb3); have HN2 := Aside0.mk (Kd.C_below HND.out hb3); have HB := Aside0.mk (HBD.out.trans (hb3.mono HBD.out.size))
        obtain ⟨hy0, hy1, hy2⟩ := hHeld
        clear hD hCn hcn hba hb3 HCD HID HND HBD HTD
        have hnl60 : True := trivial
        cases hck : CK j with
        | true =>
          obtain ⟨e2, hrt⟩ := HGO1.out hck; have HRT := Aside0.mk hrt; clear hrt
          have HCK2 : Aside0 (provostref06_Check.f KF (nm.length : Int) f0 f1 s = some true) := ⟨by rw [HCK1.out, hck]⟩
          rw [e2]
          clear e2 hck HCK1 HGO1 HNO1 HTX1
          generalize R1 j = rj at *
          go_wp2_with (first | (go_at_call 29; (with_reducible refine (provostref06_Check.calls KF _ _ _ _ _ _ true _ HID2.out HL2.out HCK2.out).mono ?_); rintro e wn ⟨rfl, hbn⟩; replace HCT := Aside0.mk (Kd.C_below HCT.out hbn); replace HID2 := Aside0.mk (Kd.C_below HID2.out hbn); replace HN2 := Aside0.mk (Kd.C_below HN2.out hbn); replace hy0 := (hbn.cell (World.block_lt_of_cell? _ _ hy0)).trans hy0; replace hy1 := (hbn.cell (World.block_lt_of_cell? _ _ hy1)).trans hy1; replace hy2 := (hbn.cell (World.block_lt_of_cell? _ _ hy2)).trans hy2; replace HB := Aside0.mk (HB.out.trans (hbn.mono HB.out.size)); clear hbn) | (go_at_call 30; (with_reducible refine (provostref06_Text.calls KF _ _ _ _ _ _ _ _ rj _ HID2.out HL2.out HN2.out HC3.out HRT.out).mono ?_); rintro e wn ⟨rfl, hbn⟩; replace HCT := Aside0.mk (Kd.C_below HCT.out hbn); replace HID2 := Aside0.mk (Kd.C_below HID2.out hbn); replace HN2 := Aside0.mk (Kd.C_below HN2.out hbn); replace hy0 := (hbn.cell (World.block_lt_of_cell? _ _ hy0)).trans hy0; replace hy1 := (hbn.cell (World.block_lt_of_cell? _ _ hy1)).trans hy1; replace hy2 := (hbn.cell (World.block_lt_of_cell? _ _ hy2)).trans hy2; replace HB := Aside0.mk (HB.out.trans (hbn.mono HB.out.size)); clear hbn))
          go_roundw
          case rel => exact ⟨j + 1, by have := HJL.out; omega, rfl, HCT, HB⟩
          case measure => exact HLT.out
        | false =>
          obtain ⟨e2, e1⟩ := HNO1.out hck
          have HCK2 : Aside0 (provostref06_Check.f KF (nm.length : Int) f0 f1 s = some false) := ⟨by rw [HCK1.out, hck]⟩
          rw [e2, e1]
          clear e2 hck HCK1 HGO1 HNO1 HTX1 e1
          go_wp2_with (first | (go_at_call 29; (with_reducible refine (provostref06_Check.calls KF _ _ _ _ _ _ false _ HID2.out HL2.out HCK2.out).mono ?_); rintro e wn ⟨rfl, hbn⟩; replace HCT := Aside0.mk (Kd.C_below HCT.out hbn); replace HID2 := Aside0.mk (Kd.C_below HID2.out hbn); replace HN2 := Aside0.mk (Kd.C_below HN2.out hbn); replace hy0 := (hbn.cell (World.block_lt_of_cell? _ _ hy0)).trans hy0; replace hy1 := (hbn.cell (World.block_lt_of_cell? _ _ hy1)).trans hy1; replace hy2 := (hbn.cell (World.block_lt_of_cell? _ _ hy2)).trans hy2; replace HB := Aside0.mk (HB.out.trans (hbn.mono HB.out.size)); clear hbn))
          go_roundw
          case rel => exact ⟨j + 1, by have := HJL.out; omega, rfl, HCT, HB⟩
          case measure => exact HLT.out
      · obtain rfl : j = tw.length := by omega
        have pd : decide ((tw.length : Int) < (tw.length : Int)) = false := decide_eq_false (by omega)
        clear hlt
        go_wp2_with (go_at_call 12; (with_reducible refine (provostlaw06_wakes.calls KF true _ HW.out).mono ?_); rintro e w3 ⟨rfl, hb3⟩)
        go_ret
        exact ⟨rfl, HB.out.trans (hb3.mono HB.out.size)⟩
  · skip
    have enm : nm = l3 := by rw [hnm, List.take_of_length_le (by omega)]
    subst enm
    have hg : decide ((nm.length : Int) > 20) = false := decide_eq_false (by omega); have hg2 : decide (20 < nm.length) = false := decide_eq_false h20; have hg3 : decide ((20 : Int) < (nm.length : Int)) = false := decide_eq_false (by omega)
    clear hnm h20 hi0
    go_enter Tryd.func6, Tryd.ntmps6
    go_wp2_with (first | (go_at_call 7; (with_reducible refine (provostlaw06_Twin.calls KF _ _ l1 tw _ (Kd.C_alloc HR1.out _) HC1.out HT.out).mono ?_); rintro e w1 ⟨v1, rfl, hs1, hb1⟩; obtain ⟨At, ct, rfl⟩ := Kd.S_slice hs1; have HCT := Aside0.mk (Kd.S_reads' hs1).2.2; have y1 : (w.alloc (.cells #[.int .i64 n0, .slice A1 l1.length c1, .slice A2 l2.length c2, .slice A3 nm.length c3] 26)).heap[w.heap.size]? = some (.cells #[.int .i64 n0, .slice A1 l1.length c1, .slice A2 l2.length c2, .slice A3 nm.length c3] 26) := heap_alloc_new w _; have yB : Below w.heap.size w (w.alloc (.cells #[.int .i64 n0, .slice A1 l1.length c1, .slice A2 l2.length c2, .slice A3 nm.length c3] 26)) := (Below.refl _ w).alloc (Nat.le_refl _) _; have z3 : w1.cell? ⟨w.heap.size, 3, none⟩ = some (.slice A3 nm.length c3) := (blk_cell ((hb1.block _ (blk_lt y1)).trans y1) 3).trans rfl; have HB := Aside0.mk (yB.trans (hb1.mono yB.size)); clear y1 yB hb1 hs1))
    clear z3 hg hg2 hg3
    go_loopw [5] (fun v5 wr => ∃ j : Nat, j ≤ tw.length ∧ v5 = .int .i64 (j : Int) ∧ Aside0 (Kd.C k53 wr At tw.length tw) ∧ Aside0 (Below w.heap.size w wr)) (fun v5 _ => rtLeft tw.length v5)
    case atStart => exact ⟨0, Nat.zero_le _, rfl, HCT, HB⟩
    case round =>
      clear HCT HB
      obtain ⟨j, hj, rfl, HCT, HB⟩ := hrel
      by_cases hlt : j < tw.length
      · have hw1 : wrap64 ((j : Int) + 1) = (j : Int) + 1 := by unfold wrap64; omega
        have HLT := Aside0.mk (rtLeft_lt hlt)
        have HJL := Aside0.mk hlt
        have htx := HTX.out j hlt; have hck := HCK.out j hlt; have hgo := HGO.out j hlt; have hno := HNO.out j hlt
        have p1 : 0 ≤ (j : Int) := by omega
        have q1 : (j : Int) < (tw.length : Int) := by omega
        have HAT := Aside0.mk (fun W (h : Kd.C k53 W At tw.length tw) => at_T53 h (j : Int) p1 q1)
        have pd : decide ((j : Int) < (tw.length : Int)) = true := decide_eq_true q1; have pd2 : decide (j < tw.length) = true := decide_eq_true hlt
        obtain ⟨ad, Ae, ce, ee, hx0, hx1, hx2, hl2, hi2⟩ := HAT.out wr HCT.out
        cases ee
        rw [Int.toNat_natCast] at hx0 hx1 hx2
        generalize (rd_T53 tw (j : Int)).f0 = f0 at *
        generalize (rd_T53 tw (j : Int)).f1 = f1 at *
        generalize (rd_T53 tw (j : Int)).f2 = s at *
        have HI2 := Aside0.mk hi2; have HL2 := Aside0.mk hl2; have HTX1 := Aside0.mk htx; have HCK1 := Aside0.mk hck; have HGO1 := Aside0.mk hgo; have HNO1 := Aside0.mk hno
        have HX := Aside0.mk (And.intro hx0 (And.intro hx1 hx2))
        clear hi2 hl2 htx hck hgo hno HAT hx0 hx1 hx2
        replace p1 := eq_true p1; replace q1 := eq_true q1
        go_wp2
        have hD : wr.drew.cell? (ad.add (j * 3)) = some (.int .i64 f0) ∧ wr.drew.cell? ⟨(ad.add (j * 3)).block, (ad.add (j * 3)).off + 1, none⟩ = some (.int .i64 f1) ∧ wr.drew.cell? ⟨(ad.add (j * 3)).block, (ad.add (j * 3)).off + 2, none⟩ = some (.slice Ae s.length ce) := HX.out
        have HCD : Aside0 (Kd.C k53 wr.drew (some ad) tw.length tw) := ⟨Kd.C_drew HCT.out⟩
        have HID : Aside0 (Kd.C (Kd.int .i64) wr.drew Ae s.length s) := ⟨Kd.C_drew HI2.out⟩
        have HBD := Aside0.mk (below_drew HB.out)
        have HND : Aside0 (Kd.C Kd.string wr.drew A3 nm.length nm) := ⟨Kd.C_below HR3.out (HBD.out)⟩
        have HTD := Aside0.mk (tab_below HTW.out HBD.out)
        clear HCT HI2 HB HX
        refine start_ (n := 13) (S := fun w' => w'.cell? (ad.add (j * 3)) = some (.int .i64 f0) ∧ w'.cell? ⟨(ad.add (j * 3)).block, (ad.add (j * 3)).off + 1, none⟩ = some (.int .i64 f1) ∧ w'.cell? ⟨(ad.add (j * 3)).block, (ad.add (j * 3)).off + 2, none⟩ = some (.slice Ae s.length ce)) (ds := []) #[false, false, false, false, false, false, false, false, false, false, false, false, false] (by kernel_rfl) rfl rfl (hD) (fun hHeld => ?_); refine with_tabW provostlaw06_RuleText.tab8 provostlaw06_RuleText.bits8 (fun HT_ HW_ => ?_)
        generalize wr.drew = D at *
        refine pure_ (i := 0) (N := (some 25)) (v := ?_) (a' := ?_) #[true, false, false, false, false, false, false, false, false, false, false, false, false] rfl rfl (any_of HT_.out (by kernel_rfl)) (fun _ _ _ h => h) (Or.inl ⟨by rfl, ?_⟩) ?_ ?_
        rotate_left
        · intro w'
          go_simp
          with_reducible rfl
        rotate_left
        · simp only [Act.put, List.setIfInBounds_toArray, List.set_cons_zero, List.set_cons_succ, i64_w, i32_w]
          rfl
        refine pure_ (i := 1) (N := (some 26)) (v := ?_) (a' := ?_) #[true, true, false, false, false, false, false, false, false, false, false, false, false] rfl rfl (any_of HT_.out (by kernel_rfl)) (fun _ _ _ h => h) (Or.inl ⟨by rfl, ?_⟩) ?_ ?_
        rotate_left
        · intro w'
          go_simp
          with_reducible rfl
        rotate_left
        · simp only [Act.put, List.setIfInBounds_toArray, List.set_cons_zero, List.set_cons_succ, i64_w, i32_w]
          rfl
        refine pure_ (i := 2) (N := (some 27)) (v := ?_) (a' := ?_) #[true, true, true, false, false, false, false, false, false, false, false, false, false] rfl rfl (any_of HT_.out (by kernel_rfl)) (fun _ _ _ h => h) (Or.inl ⟨by rfl, ?_⟩) ?_ ?_
        rotate_left
        · intro w'
          go_simp
          with_reducible rfl
        rotate_left
        · simp only [Act.put, List.setIfInBounds_toArray, List.set_cons_zero, List.set_cons_succ, i64_w, i32_w]
          rfl
        refine take_ (i := 3) (N := (some 28)) (v := ?_) (a' := ?_) #[true, true, true, true, false, false, false, false, false, false, false, false, false] rfl rfl (take_ofW HT_.out HW_.out (by kernel_rfl)) (fun _ _ _ h => h) (Or.inl ⟨by rfl, ?_⟩) hHeld ?_ ?_
        rotate_left
        · intro w' ⟨s0, s1, s2⟩
          go_simp
          with_reducible rfl
        rotate_left
        · simp only [Act.put, List.setIfInBounds_toArray, List.set_cons_zero, List.set_cons_succ, i64_w, i32_w]
          rfl
        refine pure_ (i := 5) (N := (some 30)) (v := ?_) (a' := ?_) #[true, true, true, true, false, true, false, false, false, false, false, false, false] rfl rfl (any_of HT_.out (by kernel_rfl)) (fun _ _ _ h => h) (Or.inl ⟨by rfl, ?_⟩) ?_ ?_
        rotate_left
        · intro w'
          go_simp
          with_reducible rfl
        rotate_left
        · simp only [Act.put, List.setIfInBounds_toArray, List.set_cons_zero, List.set_cons_succ, i64_w, i32_w]
          rfl
        refine one_ (i := 4) (N := (some 29)) #[true, true, true, true, true, true, false, false, false, false, false, false, false] rfl rfl (one_of HT_.out (by kernel_rfl)) (by decide) (fun K hK => ?_)
        refine Kd.R_lit_step Kd.string _ 9 ?hg (N := 29) ?hd (xs := ([] : List ByteArray)) (inner := []) (ok := fun _ => True) (okp := fun _ => True) ?hr ?hp (fun _ hk => hk) trivial (Below.refl _ _) (Nat.le_refl _) (by simp) ?_; (case hd => rfl); (case hg => rfl); (case hr => first | (go_simp; done) | (go_simp; rfl)); (case hp => exact (Reps.none _ _))
        intro vl wl hol hbl hg_ hnew_
        clear hg_ hnew_
        refine hK.out _ _ (⟨(hbl.cell (World.block_lt_of_cell? D _ hD.1)).trans hD.1, (hbl.cell (World.block_lt_of_cell? D _ hD.2.1)).trans hD.2.1, (hbl.cell (World.block_lt_of_cell? D _ hD.2.2)).trans hD.2.2⟩) (fun hHeld => ?_)
        clear hK K
        refine norm_ (a' := ?_) ?_ ?_
        rotate_left
        · show Act.put _ (some 29) _ = _
          simp only [Act.put, List.setIfInBounds_toArray, List.set_cons_zero, List.set_cons_succ, i64_w, i32_w]
          rfl
        refine one_ (i := 6) (N := (some 31)) #[true, true, true, true, true, true, true, false, false, false, false, false, false] rfl rfl (one_of HT_.out (by kernel_rfl)) (by decide) (fun K hK => ?_)
        refine Kd.R_append_rows_step Kd.string (w0 := D) D.heap.size (by rfl) (.tmp 29) (.tmp 30) 24 9 (.string ⟨#[]⟩) 16 rfl Tryd.underlying24 info9 rfl (by decide) (by omega) vl [] nm _ _ _ (fun _ => True) (fun _ => False) rfl rfl ?aO ?aR (fun _ _ h => h) (fun _ h => h.elim) ?aF ?aB ?aS ?aL ?_
        (case aR => exact Kd.C_below HND.out hbl)
        (case aB => exact hbl)
        (case aF => exact (fun _ _ => trivial))
        (case aO => exact hol)
        (case aS => exact hbl.size)
        (case aL => have := HNL.out; simp only [List.length_nil]; omega)
        intro va wa hoa hba hga hat
        rw [List.nil_append] at hoa
        obtain ⟨An, cn, rfl, hcn, hCn⟩ := Kd.R_reads hoa
        clear hga hat hol hbl hoa
        refine hK.out _ _ (⟨(hba.cell (World.block_lt_of_cell? D _ hD.1)).trans hD.1, (hba.cell (World.block_lt_of_cell? D _ hD.2.1)).trans hD.2.1, (hba.cell (World.block_lt_of_cell? D _ hD.2.2)).trans hD.2.2⟩) (fun hHeld => ?_)
        clear hK K
        refine norm_ (a' := ?_) ?_ ?_
        rotate_left
        · show Act.put _ (some 31) _ = _
          simp only [Act.put, List.setIfInBounds_toArray, List.set_cons_zero, List.set_cons_succ, i64_w, i32_w]
          rfl
        refine one_ (i := 7) (N := (some 32)) #[true, true, true, true, true, true, true, true, false, false, false, false, false] rfl rfl (one_of HT_.out (by kernel_rfl)) (by decide) (fun K hK => ?_)
        refine goes_ Tryd.func28 (by kernel_rfl) rfl #[.agg #[.int .i64 f0, .int .i64 f1, .slice Ae s.length ce], .slice An nm.length cn] (by rfl) rfl rfl (by (try simp only [List.map_toArray, List.map_cons, List.map_nil]); first | done | rfl) ?_
        (with_reducible refine (rule_Text.calls f0 f1 Ae ce s An cn nm (R1 j) (R2 j) _ (Kd.C_below HID.out hba) HL2.out hCn hcn HTX1.out ⟨tab_below HTD.out hba⟩).mono ?_)
        rintro e w2 ⟨rfl, hb2⟩
        refine ⟨_, rfl, ?_⟩
        have hb3 := hba.trans (hb2.mono hba.size)
        clear hb2
        refine hK.out _ _ (⟨(hb3.cell (World.block_lt_of_cell? D _ hD.1)).trans hD.1, (hb3.cell (World.block_lt_of_cell? D _ hD.2.1)).trans hD.2.1, (hb3.cell (World.block_lt_of_cell? D _ hD.2.2)).trans hD.2.2⟩) (fun hHeld => ?_)
        clear hK K
        refine norm_ (a' := ?_) ?_ ?_
        rotate_left
        · show Act.put _ (some 32) _ = _
          simp only [Act.put, List.setIfInBounds_toArray, List.set_cons_zero, List.set_cons_succ, i64_w, i32_w]
          rfl
        refine pure_ (i := 8) (N := (some 24)) (v := ?_) (a' := ?_) #[true, true, true, true, true, true, true, true, true, false, false, false, false] rfl rfl (any_of HT_.out (by kernel_rfl)) (fun _ _ _ h => h) (Or.inl ⟨by rfl, ?_⟩) ?_ ?_
        rotate_left
        · intro w'
          go_simp
          with_reducible rfl
        rotate_left
        · simp only [Act.put, List.setIfInBounds_toArray, List.set_cons_zero, List.set_cons_succ, i64_w, i32_w]
          rfl
        refine pure_ (i := 9) (N := (some 33)) (v := ?_) (a' := ?_) #[true, true, true, true, true, true, true, true, true, true, false, false, false] rfl rfl (any_of HT_.out (by kernel_rfl)) (fun _ _ _ h => h) (Or.inl ⟨by rfl, ?_⟩) ?_ ?_
        rotate_left
        · intro w'
          go_simp
          with_reducible rfl
        rotate_left
        · simp only [Act.put, List.setIfInBounds_toArray, List.set_cons_zero, List.set_cons_succ, i64_w, i32_w]
          rfl
        refine pure_ (i := 10) (N := (some 34)) (v := ?_) (a' := ?_) #[true, true, true, true, true, true, true, true, true, true, true, false, false] rfl rfl (any_of HT_.out (by kernel_rfl)) (fun _ _ _ h => h) (Or.inl ⟨by rfl, ?_⟩) ?_ ?_
        rotate_left
        · intro w'
          go_simp
          with_reducible rfl
        rotate_left
        · simp only [Act.put, List.setIfInBounds_toArray, List.set_cons_zero, List.set_cons_succ, i64_w, i32_w]
          rfl
        refine pure_ (i := 11) (N := (some 6)) (v := ?_) (a' := ?_) #[true, true, true, true, true, true, true, true, true, true, true, true, false] rfl rfl (any_of HT_.out (by kernel_rfl)) (fun _ _ _ h => h) (Or.inl ⟨by rfl, ?_⟩) ?_ ?_
        rotate_left
        · intro w'
          go_simp
          with_reducible rfl
        rotate_left
        · simp only [Act.put, List.setIfInBounds_toArray, List.set_cons_zero, List.set_cons_succ, i64_w, i32_w]
          rfl
        refine pure_ (i := 12) (N := (some 7)) (v := ?_) (a' := ?_) #[true, true, true, true, true, true, true, true, true, true, true, true, true] rfl rfl (any_of HT_.out (by kernel_rfl)) (fun _ _ _ h => h) (Or.inl ⟨by rfl, ?_⟩) ?_ ?_
        rotate_left
        · intro w'
          go_simp
          with_reducible rfl
        rotate_left
        · simp only [Act.put, List.setIfInBounds_toArray, List.set_cons_zero, List.set_cons_succ, i64_w, i32_w]
          rfl
        refine done_ (done_of HT_.out (by kernel_rfl)) ?_
        have HCT := Aside0.mk (Kd.C_below HCD.out hb3); have HID2 := Aside0.mk (Kd.C_below HID.out hb3); have HN2 := Aside0.mk (Kd.C_below HND.out hb3); have HB := Aside0.mk (HBD.out.trans (hb3.mono HBD.out.size))
        obtain ⟨hy0, hy1, hy2⟩ := hHeld
        clear hD hCn hcn hba hb3 HCD HID HND HBD HTD
        have hnl60 : True := trivial
        cases hck : CK j with
        | true =>
          obtain ⟨e2, hrt⟩ := HGO1.out hck; have HRT := Aside0.mk hrt; clear hrt
          have HCK2 : Aside0 (provostref06_Check.f KF (nm.length : Int) f0 f1 s = some true) := ⟨by rw [HCK1.out, hck]⟩
          rw [e2]
          clear e2 hck HCK1 HGO1 HNO1 HTX1
          generalize R1 j = rj at *
          go_wp2_with (first | (go_at_call 29; (with_reducible refine (provostref06_Check.calls KF _ _ _ _ _ _ true _ HID2.out HL2.out HCK2.out).mono ?_); rintro e wn ⟨rfl, hbn⟩; replace HCT := Aside0.mk (Kd.C_below HCT.out hbn); replace HID2 := Aside0.mk (Kd.C_below HID2.out hbn); replace HN2 := Aside0.mk (Kd.C_below HN2.out hbn); replace hy0 := (hbn.cell (World.block_lt_of_cell? _ _ hy0)).trans hy0; replace hy1 := (hbn.cell (World.block_lt_of_cell? _ _ hy1)).trans hy1; replace hy2 := (hbn.cell (World.block_lt_of_cell? _ _ hy2)).trans hy2; replace HB := Aside0.mk (HB.out.trans (hbn.mono HB.out.size)); clear hbn) | (go_at_call 30; (with_reducible refine (provostref06_Text.calls KF _ _ _ _ _ _ _ _ rj _ HID2.out HL2.out HN2.out HC3.out HRT.out).mono ?_); rintro e wn ⟨rfl, hbn⟩; replace HCT := Aside0.mk (Kd.C_below HCT.out hbn); replace HID2 := Aside0.mk (Kd.C_below HID2.out hbn); replace HN2 := Aside0.mk (Kd.C_below HN2.out hbn); replace hy0 := (hbn.cell (World.block_lt_of_cell? _ _ hy0)).trans hy0; replace hy1 := (hbn.cell (World.block_lt_of_cell? _ _ hy1)).trans hy1; replace hy2 := (hbn.cell (World.block_lt_of_cell? _ _ hy2)).trans hy2; replace HB := Aside0.mk (HB.out.trans (hbn.mono HB.out.size)); clear hbn))
          go_roundw
          case rel => exact ⟨j + 1, by have := HJL.out; omega, rfl, HCT, HB⟩
          case measure => exact HLT.out
        | false =>
          obtain ⟨e2, e1⟩ := HNO1.out hck
          have HCK2 : Aside0 (provostref06_Check.f KF (nm.length : Int) f0 f1 s = some false) := ⟨by rw [HCK1.out, hck]⟩
          rw [e2, e1]
          clear e2 hck HCK1 HGO1 HNO1 HTX1 e1
          go_wp2_with (first | (go_at_call 29; (with_reducible refine (provostref06_Check.calls KF _ _ _ _ _ _ false _ HID2.out HL2.out HCK2.out).mono ?_); rintro e wn ⟨rfl, hbn⟩; replace HCT := Aside0.mk (Kd.C_below HCT.out hbn); replace HID2 := Aside0.mk (Kd.C_below HID2.out hbn); replace HN2 := Aside0.mk (Kd.C_below HN2.out hbn); replace hy0 := (hbn.cell (World.block_lt_of_cell? _ _ hy0)).trans hy0; replace hy1 := (hbn.cell (World.block_lt_of_cell? _ _ hy1)).trans hy1; replace hy2 := (hbn.cell (World.block_lt_of_cell? _ _ hy2)).trans hy2; replace HB := Aside0.mk (HB.out.trans (hbn.mono HB.out.size)); clear hbn))
          go_roundw
          case rel => exact ⟨j + 1, by have := HJL.out; omega, rfl, HCT, HB⟩
          case measure => exact HLT.out
      · obtain rfl : j = tw.length := by omega
        have pd : decide ((tw.length : Int) < (tw.length : Int)) = false := decide_eq_false (by omega)
        clear hlt
        go_wp2_with (go_at_call 12; (with_reducible refine (provostlaw06_wakes.calls KF true _ HW.out).mono ?_); rintro e w3 ⟨rfl, hb3⟩)
        go_ret
        exact ⟨rfl, HB.out.trans (hb3.mono HB.out.size)⟩
end


end Go.Proofs.YtbcdlfodgoiodaaDoor.PRtx
