/- A text written by my program wip/gen/p2.py out of the translation and of my foreign texts; not trusted: Lean checks it. -/
import Derived.Test.YtbcdlfodgoiodaaDoorPRtxx0
import Derived.Test.YtbcdlfodgoiodaaDoorPRtxx2
namespace Go.Proofs.YtbcdlfodgoiodaaDoor.PRtx
open Go.RowKit Go.Proofs.YtbcdlfodgoiodaaDoorW.PrintWords Go.Proofs.YtbcdlfodgoiodaaDoorW.PrintLast Go.Proofs.YtbcdlfodgoiodaaDoorW.PrintMore
attribute [local go_sem] max2_int min2_int max_two min_two max_three min_three max_four min_four   -- for this text's walks alone
set_option linter.unusedVariables false
set_option linter.unusedSimpArgs false

/-! ### rule_Text: function 28 -/
section
open Go Go.Lib Go.Proofs.YtbcdlfodgoiodaaDoorW.Tab Go.Proofs.YtbcdlfodgoiodaaDoorW.Mine
def rule_Text.wrd (K : Int) : ByteArray :=
  if K = 1 then ⟨#[97, 112, 97, 114, 116]⟩ else if K = 2 then ⟨#[115, 97, 109, 101]⟩ else if K = 3 then ⟨#[109, 111, 115, 116]⟩ else if K = 4 then ⟨#[102, 101, 119]⟩ else ⟨#[109, 97, 110, 121]⟩
def rule_Text.num (k : Int) : ByteArray := ⟨(Lib.itoa k).toArray⟩
def rule_Text.hd (K k : Int) : ByteArray := if 0 < k then rule_Text.wrd K ++ (((⟨#[32]⟩ : ByteArray) ++ rule_Text.num k) ++ (⟨#[32, 111, 102]⟩ : ByteArray)) else rule_Text.wrd K
def rule_Text.pick (s : List Int) (l1 : List ByteArray) : List ByteArray := s.map (rdOf ByteArray.empty l1)
def rule_Text.tail (s : List Int) (l1 : List ByteArray) : List UInt8 := Lib.join ((rule_Text.pick s l1).map (·.data.toList)) [44, 32]
def rule_Text.txt (K k : Int) (s : List Int) (l1 : List ByteArray) : ByteArray := (rule_Text.hd K k ++ (⟨#[32]⟩ : ByteArray)) ++ (⟨(rule_Text.tail s l1).toArray⟩ : ByteArray)
theorem rule_Text.num_size (k : Int) (h0 : -9223372036854775808 ≤ k) (h1 : k ≤ 9223372036854775807) : (rule_Text.num k).size ≤ 21 := by
  have := Lib.itoa_length_le k h0 h1
  simpa [rule_Text.num, ByteArray.size] using this
theorem rule_Text.app_size (x y : ByteArray) : (x ++ y).size = x.size + y.size := ByteArray.size_append
theorem strs_cells {w : World} {base : Nat} {ok : Nat → Prop} {v : Value} {xs : List ByteArray} (h : Kd.R Kd.string 9 w base ok v xs) (h0 : xs ≠ []) :
    ∃ g c, v = .slice (some ⟨g, 0, none⟩) xs.length c ∧ xs.length ≤ c ∧ g < w.heap.size ∧ ∀ (j : Nat) x, xs[j]? = some x → w.cell? ⟨g, 0 + j, none⟩ = some (.string x) := by
  have hl : 0 < xs.length := List.length_pos_iff.2 h0
  obtain ⟨g, cap, hv, gb, gl, cl, _⟩ := Kd.R_form h hl
  obtain ⟨A1, c1, hv1, hc1, hC⟩ := Kd.R_reads h
  rw [hv1] at hv
  injection hv with e1 e2 e3
  subst e1
  refine ⟨g, c1, hv1, hc1, gl, fun j x hj => ?_⟩
  have hjl := (List.getElem?_eq_some_iff.1 hj).1
  obtain ⟨ad, e, hx⟩ := Kd.at_string hC (j : Int) (by omega) (by omega)
  injection e with e
  subst e
  rw [Int.toNat_natCast] at hx
  have ea : (⟨g, 0 + j, none⟩ : Addr) = (⟨g, 0, none⟩ : Addr).add j := by simp [Addr.add]
  rw [ea]
  refine hx.trans ?_
  rw [rdOf, Int.toNat_natCast, List.getD_eq_getElem?_getD, hj]
  rfl
theorem grow_below (W : World) (n : Nat) (os : Array Obj) : Below W.heap.size W (Go.Sort.grow (W.drewN n) os) := by
  refine ⟨rfl, rfl, rfl, ?_, fun i hi => ?_⟩
  · show W.heap.size ≤ (W.heap ++ os).size
    rw [Array.size_append]; omega
  · show (W.heap ++ os)[i]? = W.heap[i]?
    rw [Array.getElem?_append_left hi]
theorem big_no {a b : Nat} (h : a + b ≤ 1000000000000000) : (9223372036854775807 < a + b) = False ∧ decide (9223372036854775807 < a + b) = false ∧ (a + b ≤ 9223372036854775807) = True ∧ decide (a + b ≤ 9223372036854775807) = true :=
  ⟨eq_false (by omega), decide_eq_false (by omega), eq_true (by omega), decide_eq_true (by omega)⟩
theorem take_snoc {s : List Int} {j : Nat} (h : j < s.length) (f : Int → ByteArray) : (s.take (j + 1)).map f = (s.take j).map f ++ [f s[j]] := by
  rw [List.take_succ_eq_append_getElem h, List.map_append]; rfl
set_option maxHeartbeats 8000000 in
set_option maxRecDepth 100000 in
theorem rule_Text.good (K k : Int) (A0_2 : Option Addr) (c0_2 : Nat) (s : List Int) (A1 : Option Addr) (c1 : Nat) (l1 : List ByteArray) (w : World) (hr0 : Kd.C (Kd.int .i64) w A0_2 s.length s) (hc0 : s.length ≤ c0_2) (hr1 : Kd.C Kd.string w A1 l1.length l1) (hc1 : l1.length ≤ c1) (m : Nat) (hchk : rule_Check.f m (l1.length : Int) K k s = some 0) (hK : K = 1 ∨ K = 2 ∨ K = 3 ∨ K = 4 ∨ K = 5) (hk0 : -9223372036854775808 ≤ k) (hk1 : k ≤ 9223372036854775807) (hs0 : s ≠ []) (hs30 : s.length ≤ 30) (hs : ∀ x ∈ s, 0 ≤ x ∧ x < (l1.length : Int))
    (hj : (rule_Text.tail s l1).length ≤ 140737488355328) (hT : TabW w) :
    Calls Tryd.prog 28 #[.agg #[.int .i64 K, .int .i64 k, .slice A0_2 s.length c0_2], .slice A1 l1.length c1] w fun e w' => e = .returned (.tuple #[.string (rule_Text.txt K k s l1), .int .i64 0]) ∧ Below w.heap.size w w' := by
  have HR0 := Aside0.mk hr0; have HR1 := Aside0.mk hr1; have HC0 := Aside0.mk hc0; have HCHK := Aside0.mk hchk; have HS := Aside0.mk hs; have HJ := Aside0.mk hj; have HTW := Aside0.mk hT; have HS0 := Aside0.mk hs0
  have hns := rule_Text.num_size k hk0 hk1
  have HTX : Aside0 (rule_Text.txt K k s l1 = (rule_Text.hd K k ++ (⟨#[32]⟩ : ByteArray)) ++ (⟨(rule_Text.tail s l1).toArray⟩ : ByteArray)) := ⟨rfl⟩
  have HHD : Aside0 (rule_Text.hd K k = if 0 < k then rule_Text.wrd K ++ (((⟨#[32]⟩ : ByteArray) ++ rule_Text.num k) ++ (⟨#[32, 111, 102]⟩ : ByteArray)) else rule_Text.wrd K) := ⟨rfl⟩
  have HIT : Aside0 (∀ W : World, TabW W → Calls Tryd.prog 47 #[.int .i64 k] W fun e w' => e = .returned (.string (rule_Text.num k)) ∧ Below W.heap.size W w') := ⟨fun W h => (Sh.strconv_Itoa k hk0 hk1 W h).mono (by rintro e w' ⟨rfl, n2, os2, rfl⟩; exact ⟨rfl, grow_below _ _ _⟩)⟩
  have HPK : Aside0 ((s.take s.length).map (rdOf ByteArray.empty l1) = rule_Text.pick s l1) := ⟨by rw [List.take_length]; rfl⟩
  have HPL : Aside0 ((rule_Text.pick s l1).length = s.length) := ⟨by unfold rule_Text.pick; rw [List.length_map]⟩
  have HTLJ : Aside0 (Lib.join ((rule_Text.pick s l1).map (·.data.toList)) [44, 32] = rule_Text.tail s l1) := ⟨rfl⟩
  generalize rule_Text.txt K k s l1 = TX at *
  generalize rule_Text.hd K k = HDR at *
  generalize rule_Text.num k = NK at *
  generalize rule_Text.tail s l1 = TL at *
  generalize rule_Text.pick s l1 = PK at *
  clear hr0 hr1 hc0 hchk hs hj hT hs0 hk0 hk1
  have hsz : Aside0 ((⟨TL.toArray⟩ : ByteArray).size = TL.length) := ⟨by simp [ByteArray.size]⟩
  have q1 := big_no (show 1 + NK.size ≤ 1000000000000000 by omega)
  have e1 : ((⟨#[32]⟩ : ByteArray) ++ NK).size = 1 + NK.size := rule_Text.app_size _ _
  have q2 := big_no (show ((⟨#[32]⟩ : ByteArray) ++ NK).size + 3 ≤ 1000000000000000 by omega)
  have e2 : (((⟨#[32]⟩ : ByteArray) ++ NK) ++ (⟨#[32, 111, 102]⟩ : ByteArray)).size = ((⟨#[32]⟩ : ByteArray) ++ NK).size + 3 := rule_Text.app_size _ _
  rcases hK with rfl | rfl | rfl | rfl | rfl
  · by_cases hk : 0 < k
    · have hkd : decide (0 < k) = true := decide_eq_true hk; have hkd' : decide (k > 0) = true := hkd
      have q3 := big_no (show 5 + (((⟨#[32]⟩ : ByteArray) ++ NK) ++ (⟨#[32, 111, 102]⟩ : ByteArray)).size ≤ 1000000000000000 by omega)
      obtain ⟨q1a, q1b, q1c, q1d⟩ := q1; obtain ⟨q2a, q2b, q2c, q2d⟩ := q2; obtain ⟨q3a, q3b, q3c, q3d⟩ := q3
      have HHD2 : Aside0 (HDR = ((⟨#[97, 112, 97, 114, 116]⟩ : ByteArray) ++ (((⟨#[32]⟩ : ByteArray) ++ NK) ++ (⟨#[32, 111, 102]⟩ : ByteArray)))) := ⟨by rw [HHD.out, if_pos hk]; rfl⟩
      have hz : ((⟨#[97, 112, 97, 114, 116]⟩ : ByteArray) ++ (((⟨#[32]⟩ : ByteArray) ++ NK) ++ (⟨#[32, 111, 102]⟩ : ByteArray))).size ≤ 100 := by rw [rule_Text.app_size, e2, e1]; have : (⟨#[97, 112, 97, 114, 116]⟩ : ByteArray).size = 5 := rfl; omega
      have HZ := Aside0.mk hz
      clear e1 e2 hk HHD hz
      go_enter Tryd.func28, Tryd.ntmps28
      go_wp2_with (first | (go_at_call 33; (with_reducible refine (rule_Check.calls m _ _ _ _ _ _ 0 _ (Kd.C_alloc HR0.out _) HC0.out HCHK.out).mono ?_); rintro e w1 ⟨rfl, hb1⟩; have y1 : (w.alloc (.cells #[.int .i64 1, .int .i64 k, .slice A0_2 s.length c0_2] 53)).heap[w.heap.size]? = some (.cells #[.int .i64 1, .int .i64 k, .slice A0_2 s.length c0_2] 53) := heap_alloc_new w _; have yB : Below w.heap.size w (w.alloc (.cells #[.int .i64 1, .int .i64 k, .slice A0_2 s.length c0_2] 53)) := (Below.refl _ w).alloc (Nat.le_refl _) _; have BK := Aside0.mk (blk_alloc ((hb1.block _ (blk_lt y1)).trans y1) (.cells #[.string ⟨#[]⟩, .string ⟨#[97, 112, 97, 114, 116]⟩, .string ⟨#[115, 97, 109, 101]⟩, .string ⟨#[109, 111, 115, 116]⟩, .string ⟨#[102, 101, 119]⟩, .string ⟨#[109, 97, 110, 121]⟩] 80)); have HB1 := Aside0.mk ((yB.trans (hb1.mono yB.size)).alloc (yB.trans (hb1.mono yB.size)).size (.cells #[.string ⟨#[]⟩, .string ⟨#[97, 112, 97, 114, 116]⟩, .string ⟨#[115, 97, 109, 101]⟩, .string ⟨#[109, 111, 115, 116]⟩, .string ⟨#[102, 101, 119]⟩, .string ⟨#[109, 97, 110, 121]⟩] 80)); have HT1 := Aside0.mk (tab_below HTW.out ((yB.trans (hb1.mono yB.size)).alloc (yB.trans (hb1.mono yB.size)).size (.cells #[.string ⟨#[]⟩, .string ⟨#[97, 112, 97, 114, 116]⟩, .string ⟨#[115, 97, 109, 101]⟩, .string ⟨#[109, 111, 115, 116]⟩, .string ⟨#[102, 101, 119]⟩, .string ⟨#[109, 97, 110, 121]⟩] 80))); have z0 : (w1.alloc (.cells #[.string ⟨#[]⟩, .string ⟨#[97, 112, 97, 114, 116]⟩, .string ⟨#[115, 97, 109, 101]⟩, .string ⟨#[109, 111, 115, 116]⟩, .string ⟨#[102, 101, 119]⟩, .string ⟨#[109, 97, 110, 121]⟩] 80)).cell? ⟨w.heap.size, 0, none⟩ = some (.int .i64 1) := (blk_cell BK.out 0).trans rfl; have z1 : (w1.alloc (.cells #[.string ⟨#[]⟩, .string ⟨#[97, 112, 97, 114, 116]⟩, .string ⟨#[115, 97, 109, 101]⟩, .string ⟨#[109, 111, 115, 116]⟩, .string ⟨#[102, 101, 119]⟩, .string ⟨#[109, 97, 110, 121]⟩] 80)).cell? ⟨w.heap.size, 1, none⟩ = some (.int .i64 k) := (blk_cell BK.out 1).trans rfl; have z2 : (w1.alloc (.cells #[.string ⟨#[]⟩, .string ⟨#[97, 112, 97, 114, 116]⟩, .string ⟨#[115, 97, 109, 101]⟩, .string ⟨#[109, 111, 115, 116]⟩, .string ⟨#[102, 101, 119]⟩, .string ⟨#[109, 97, 110, 121]⟩] 80)).cell? ⟨w.heap.size, 2, none⟩ = some (.slice A0_2 s.length c0_2) := (blk_cell BK.out 2).trans rfl; clear y1 yB hb1) | (go_at_call 47; (with_reducible refine (HIT.out _ HT1.out).mono ?_); rintro e w2 ⟨rfl, hb2⟩; replace BK := Aside0.mk ((hb2.block _ (blk_lt BK.out)).trans BK.out); replace HB1 := Aside0.mk (HB1.out.trans (hb2.mono HB1.out.size)); replace z2 : w2.cell? ⟨w.heap.size, 2, none⟩ = some (.slice A0_2 s.length c0_2) := (blk_cell BK.out 2).trans rfl; clear hb2 z0 z1))
      clear z2 BK HT1 HIT HTW q1a q1b q1c q1d q2a q2b q2c q2d q3a q3b q3c q3d
      generalize ((⟨#[97, 112, 97, 114, 116]⟩ : ByteArray) ++ (((⟨#[32]⟩ : ByteArray) ++ NK) ++ (⟨#[32, 111, 102]⟩ : ByteArray))) = HDX at *
      go_loopw [8, 34] (fun v8 v34 wr => ∃ j : Nat, j ≤ s.length ∧ v34 = .int .i64 (j : Int) ∧ Aside0 (Kd.R Kd.string 9 wr w.heap.size (fun _ => True) v8 ((s.take j).map (rdOf ByteArray.empty l1))) ∧ Aside0 (Below w.heap.size w wr)) (fun _ v34 _ => s.length - (RowKit.intOf v34).toNat)
      case atStart => exact ⟨0, Nat.zero_le _, rfl, ⟨Kd.R_nil _ _ _ _ _⟩, HB1⟩
      case round =>
        clear HB1
        obtain ⟨j, hj, rfl, HO, HB⟩ := hrel
        by_cases hlt : j < s.length
        · obtain ⟨hx0, hx1⟩ := HS.out s[j] (List.getElem_mem hlt)
          have HTK := Aside0.mk (take_snoc hlt (rdOf ByteArray.empty l1))
          have erd : rd s (j : Int) = s[j] := by unfold rd; rw [Int.toNat_natCast, List.getD_eq_getElem?_getD, List.getElem?_eq_getElem hlt]; rfl
          have p1 : 0 ≤ (j : Int) := by omega
          have p2 : (j : Int) < (s.length : Int) := by omega
          obtain ⟨ad1, ee1, hc1_⟩ := Kd.at_int HR0.out (j : Int) p1 p2
          obtain ⟨ad2, ee2, hc2_⟩ := Kd.at_string HR1.out s[j] hx0 hx1
          cases ee1
          cases ee2
          rw [erd, Int.toNat_natCast] at hc1_
          replace hc1_ := (HB.out.cell (World.block_lt_of_cell? w _ hc1_)).trans hc1_
          replace hc2_ := (HB.out.cell (World.block_lt_of_cell? w _ hc2_)).trans hc2_
          have pd1 : decide ((j : Int) < (s.length : Int)) = true := decide_eq_true p2; have pd2 : decide (j < s.length) = true := decide_eq_true hlt
          have HLE : Aside0 (((s.take j).map (rdOf ByteArray.empty l1)).length + 1 ≤ 100) := ⟨by simp; omega⟩
          have hw : wrap64 ((j : Int) + 1) = ((j + 1 : Nat) : Int) := by unfold wrap64; omega
          have HMS : Aside0 (s.length - (j + 1) < s.length - j) := ⟨by omega⟩
          have hxx : 0 ≤ s[j] ∧ s[j] < (l1.length : Int) := ⟨hx0, hx1⟩
          have pd3 : decide (s[j] < (l1.length : Int)) = true := decide_eq_true hx1; have pd4 : decide (0 ≤ s[j]) = true := decide_eq_true hx0
          generalize s[j] = x at *
          generalize (s.take j).map (rdOf ByteArray.empty l1) = xs at *
          generalize rdOf ByteArray.empty l1 x = nmx at *
          clear HS
          go_wp2_with ((with_reducible refine gate_builtin (b := .append) (xs := #[.tmp 38, .tmp 43]) rfl ?_); at_builtin; refine Kd.R_append Kd.string (w0 := w) w.heap.size rfl (.tmp 38) (.tmp 43) 24 9 (.string ⟨#[]⟩) 16 rfl Tryd.underlying24 info9 rfl (by decide) (by omega) _ xs nmx [.string nmx] (fun _ => True) (fun _ => False) rfl rfl ?aP (fun _ hk => hk.elim) ?aF ?aO ?aB ?aS ?aL ?_; (case aP => exact rfl); (case aB => exact (by repeat (first | (with_reducible first | exact HB.out | apply below_alloc | apply pw_below_drewN | apply below_drew1) | exact HB.out))); (case aF => exact (fun _ _ => trivial)); (case aO => exact (by (with_reducible repeat (first | apply Kd.R_alloc | apply Kd.R_drewN | apply Kd.R_drew)); exact HO.out)); (case aS => exact (below_size (by repeat (first | (with_reducible first | exact HB.out | apply below_alloc | apply pw_below_drewN | apply below_drew1) | exact HB.out)))); (case aL => have := HLE.out; omega); intro v w2 ho hb hg hat; clear HO HB; have HO := Aside0.mk ho; have HB := Aside0.mk hb; clear ho hb hg hat)
          go_roundw
          case rel => exact ⟨j + 1, by omega, rfl, ⟨by rw [HTK.out]; exact HO.out⟩, HB⟩
          case measure => have := HMS.out; simp only [RowKit.intOf]; omega
        · obtain rfl : j = s.length := by omega
          have HO2 : Aside0 (Kd.R Kd.string 9 wr w.heap.size (fun _ => True) u8 PK) := ⟨by have := HO.out; rw [HPK.out] at this; exact this⟩
          have hpk0 : PK ≠ [] := fun e => by have h1 := HPL.out; rw [e] at h1; exact HS0.out (List.eq_nil_of_length_eq_zero h1.symm)
          obtain ⟨g, c, hv, hcap, hgl, hcl⟩ := strs_cells HO2.out hpk0
          subst hv
          have hj := HJ.out
          have HJN : Aside0 (Calls Tryd.prog 48 #[.slice (some ⟨g, 0, none⟩) PK.length c, .string ⟨#[44, 32]⟩] wr fun e w' => e = .returned (.string ⟨TL.toArray⟩) ∧ Below wr.heap.size wr w') := ⟨by have J := Sh.strings_Join g 0 c PK ⟨#[44, 32]⟩ wr hcl hgl (by have := HPL.out; omega) hcap (by show (Lib.join (PK.map (·.data.toList)) [44, 32]).length ≤ _; rw [HTLJ.out]; exact hj); rw [show Lib.join (PK.map (·.data.toList)) (⟨#[44, 32]⟩ : ByteArray).data.toList = TL from HTLJ.out] at J; exact J⟩
          have r1 := big_no (show HDX.size + 1 ≤ 1000000000000000 by have := HZ.out; omega)
          have e3 : (HDX ++ (⟨#[32]⟩ : ByteArray)).size = HDX.size + 1 := rule_Text.app_size _ _
          have r2 := big_no (show (HDX ++ (⟨#[32]⟩ : ByteArray)).size + TL.length ≤ 1000000000000000 by have := HZ.out; omega)
          have r3 := big_no (show (HDX ++ (⟨#[32]⟩ : ByteArray)).size + (⟨TL.toArray⟩ : ByteArray).size ≤ 1000000000000000 by rw [hsz.out]; have := HZ.out; omega)
          have r4 := big_no (show (HDX.size + 1) + TL.length ≤ 1000000000000000 by have := HZ.out; omega)
          have r5 := big_no (show (HDX.size + 1) + (⟨TL.toArray⟩ : ByteArray).size ≤ 1000000000000000 by rw [hsz.out]; have := HZ.out; omega)
          obtain ⟨r4a, r4b, r4c, r4d⟩ := r4; obtain ⟨r5a, r5b, r5c, r5d⟩ := r5
          obtain ⟨r1a, r1b, r1c, r1d⟩ := r1; obtain ⟨r2a, r2b, r2c, r2d⟩ := r2; obtain ⟨r3a, r3b, r3c, r3d⟩ := r3
          have pd1 : decide ((s.length : Int) < (s.length : Int)) = false := decide_eq_false (by omega)
          clear e3 hj hcl hcap hgl hpk0 hlt
          go_wp2_with (go_at_call 48; (with_reducible refine HJN.out.mono ?_); rintro e w3 ⟨rfl, hb3⟩; have HB3 := Aside0.mk (HB.out.trans (hb3.mono HB.out.size)); clear hb3)
          go_ret2
          refine ⟨?_, HB3.out⟩
          rw [HTX.out, HHD2.out]
          first | rfl | (congr 3; rfl)
    · have hkd : decide (0 < k) = false := decide_eq_false hk; have hkd' : decide (k > 0) = false := hkd
      have HHD2 : Aside0 (HDR = (⟨#[97, 112, 97, 114, 116]⟩ : ByteArray)) := ⟨by rw [HHD.out, if_neg hk]; rfl⟩
      have hz : (⟨#[97, 112, 97, 114, 116]⟩ : ByteArray).size ≤ 100 := by decide
      clear q1 q2
      have HZ := Aside0.mk hz
      clear e1 e2 hk HHD hz
      go_enter Tryd.func28, Tryd.ntmps28
      go_wp2_with (first | (go_at_call 33; (with_reducible refine (rule_Check.calls m _ _ _ _ _ _ 0 _ (Kd.C_alloc HR0.out _) HC0.out HCHK.out).mono ?_); rintro e w1 ⟨rfl, hb1⟩; have y1 : (w.alloc (.cells #[.int .i64 1, .int .i64 k, .slice A0_2 s.length c0_2] 53)).heap[w.heap.size]? = some (.cells #[.int .i64 1, .int .i64 k, .slice A0_2 s.length c0_2] 53) := heap_alloc_new w _; have yB : Below w.heap.size w (w.alloc (.cells #[.int .i64 1, .int .i64 k, .slice A0_2 s.length c0_2] 53)) := (Below.refl _ w).alloc (Nat.le_refl _) _; have BK := Aside0.mk (blk_alloc ((hb1.block _ (blk_lt y1)).trans y1) (.cells #[.string ⟨#[]⟩, .string ⟨#[97, 112, 97, 114, 116]⟩, .string ⟨#[115, 97, 109, 101]⟩, .string ⟨#[109, 111, 115, 116]⟩, .string ⟨#[102, 101, 119]⟩, .string ⟨#[109, 97, 110, 121]⟩] 80)); have HB1 := Aside0.mk ((yB.trans (hb1.mono yB.size)).alloc (yB.trans (hb1.mono yB.size)).size (.cells #[.string ⟨#[]⟩, .string ⟨#[97, 112, 97, 114, 116]⟩, .string ⟨#[115, 97, 109, 101]⟩, .string ⟨#[109, 111, 115, 116]⟩, .string ⟨#[102, 101, 119]⟩, .string ⟨#[109, 97, 110, 121]⟩] 80)); have HT1 := Aside0.mk (tab_below HTW.out ((yB.trans (hb1.mono yB.size)).alloc (yB.trans (hb1.mono yB.size)).size (.cells #[.string ⟨#[]⟩, .string ⟨#[97, 112, 97, 114, 116]⟩, .string ⟨#[115, 97, 109, 101]⟩, .string ⟨#[109, 111, 115, 116]⟩, .string ⟨#[102, 101, 119]⟩, .string ⟨#[109, 97, 110, 121]⟩] 80))); have z0 : (w1.alloc (.cells #[.string ⟨#[]⟩, .string ⟨#[97, 112, 97, 114, 116]⟩, .string ⟨#[115, 97, 109, 101]⟩, .string ⟨#[109, 111, 115, 116]⟩, .string ⟨#[102, 101, 119]⟩, .string ⟨#[109, 97, 110, 121]⟩] 80)).cell? ⟨w.heap.size, 0, none⟩ = some (.int .i64 1) := (blk_cell BK.out 0).trans rfl; have z1 : (w1.alloc (.cells #[.string ⟨#[]⟩, .string ⟨#[97, 112, 97, 114, 116]⟩, .string ⟨#[115, 97, 109, 101]⟩, .string ⟨#[109, 111, 115, 116]⟩, .string ⟨#[102, 101, 119]⟩, .string ⟨#[109, 97, 110, 121]⟩] 80)).cell? ⟨w.heap.size, 1, none⟩ = some (.int .i64 k) := (blk_cell BK.out 1).trans rfl; have z2 : (w1.alloc (.cells #[.string ⟨#[]⟩, .string ⟨#[97, 112, 97, 114, 116]⟩, .string ⟨#[115, 97, 109, 101]⟩, .string ⟨#[109, 111, 115, 116]⟩, .string ⟨#[102, 101, 119]⟩, .string ⟨#[109, 97, 110, 121]⟩] 80)).cell? ⟨w.heap.size, 2, none⟩ = some (.slice A0_2 s.length c0_2) := (blk_cell BK.out 2).trans rfl; clear y1 yB hb1))
      clear z2 BK HT1 HIT HTW z0 z1
      generalize (⟨#[97, 112, 97, 114, 116]⟩ : ByteArray) = HDX at *
      go_loopw [8, 34] (fun v8 v34 wr => ∃ j : Nat, j ≤ s.length ∧ v34 = .int .i64 (j : Int) ∧ Aside0 (Kd.R Kd.string 9 wr w.heap.size (fun _ => True) v8 ((s.take j).map (rdOf ByteArray.empty l1))) ∧ Aside0 (Below w.heap.size w wr)) (fun _ v34 _ => s.length - (RowKit.intOf v34).toNat)
      case atStart => exact ⟨0, Nat.zero_le _, rfl, ⟨Kd.R_nil _ _ _ _ _⟩, HB1⟩
      case round =>
        clear HB1
        obtain ⟨j, hj, rfl, HO, HB⟩ := hrel
        by_cases hlt : j < s.length
        · obtain ⟨hx0, hx1⟩ := HS.out s[j] (List.getElem_mem hlt)
          have HTK := Aside0.mk (take_snoc hlt (rdOf ByteArray.empty l1))
          have erd : rd s (j : Int) = s[j] := by unfold rd; rw [Int.toNat_natCast, List.getD_eq_getElem?_getD, List.getElem?_eq_getElem hlt]; rfl
          have p1 : 0 ≤ (j : Int) := by omega
          have p2 : (j : Int) < (s.length : Int) := by omega
          obtain ⟨ad1, ee1, hc1_⟩ := Kd.at_int HR0.out (j : Int) p1 p2
          obtain ⟨ad2, ee2, hc2_⟩ := Kd.at_string HR1.out s[j] hx0 hx1
          cases ee1
          cases ee2
          rw [erd, Int.toNat_natCast] at hc1_
          replace hc1_ := (HB.out.cell (World.block_lt_of_cell? w _ hc1_)).trans hc1_
          replace hc2_ := (HB.out.cell (World.block_lt_of_cell? w _ hc2_)).trans hc2_
          have pd1 : decide ((j : Int) < (s.length : Int)) = true := decide_eq_true p2; have pd2 : decide (j < s.length) = true := decide_eq_true hlt
          have HLE : Aside0 (((s.take j).map (rdOf ByteArray.empty l1)).length + 1 ≤ 100) := ⟨by simp; omega⟩
          have hw : wrap64 ((j : Int) + 1) = ((j + 1 : Nat) : Int) := by unfold wrap64; omega
          have HMS : Aside0 (s.length - (j + 1) < s.length - j) := ⟨by omega⟩
          have hxx : 0 ≤ s[j] ∧ s[j] < (l1.length : Int) := ⟨hx0, hx1⟩
          have pd3 : decide (s[j] < (l1.length : Int)) = true := decide_eq_true hx1; have pd4 : decide (0 ≤ s[j]) = true := decide_eq_true hx0
          generalize s[j] = x at *
          generalize (s.take j).map (rdOf ByteArray.empty l1) = xs at *
          generalize rdOf ByteArray.empty l1 x = nmx at *
          clear HS
          go_wp2_with ((with_reducible refine gate_builtin (b := .append) (xs := #[.tmp 38, .tmp 43]) rfl ?_); at_builtin; refine Kd.R_append Kd.string (w0 := w) w.heap.size rfl (.tmp 38) (.tmp 43) 24 9 (.string ⟨#[]⟩) 16 rfl Tryd.underlying24 info9 rfl (by decide) (by omega) _ xs nmx [.string nmx] (fun _ => True) (fun _ => False) rfl rfl ?aP (fun _ hk => hk.elim) ?aF ?aO ?aB ?aS ?aL ?_; (case aP => exact rfl); (case aB => exact (by repeat (first | (with_reducible first | exact HB.out | apply below_alloc | apply pw_below_drewN | apply below_drew1) | exact HB.out))); (case aF => exact (fun _ _ => trivial)); (case aO => exact (by (with_reducible repeat (first | apply Kd.R_alloc | apply Kd.R_drewN | apply Kd.R_drew)); exact HO.out)); (case aS => exact (below_size (by repeat (first | (with_reducible first | exact HB.out | apply below_alloc | apply pw_below_drewN | apply below_drew1) | exact HB.out)))); (case aL => have := HLE.out; omega); intro v w2 ho hb hg hat; clear HO HB; have HO := Aside0.mk ho; have HB := Aside0.mk hb; clear ho hb hg hat)
          go_roundw
          case rel => exact ⟨j + 1, by omega, rfl, ⟨by rw [HTK.out]; exact HO.out⟩, HB⟩
          case measure => have := HMS.out; simp only [RowKit.intOf]; omega
        · obtain rfl : j = s.length := by omega
          have HO2 : Aside0 (Kd.R Kd.string 9 wr w.heap.size (fun _ => True) u8 PK) := ⟨by have := HO.out; rw [HPK.out] at this; exact this⟩
          have hpk0 : PK ≠ [] := fun e => by have h1 := HPL.out; rw [e] at h1; exact HS0.out (List.eq_nil_of_length_eq_zero h1.symm)
          obtain ⟨g, c, hv, hcap, hgl, hcl⟩ := strs_cells HO2.out hpk0
          subst hv
          have hj := HJ.out
          have HJN : Aside0 (Calls Tryd.prog 48 #[.slice (some ⟨g, 0, none⟩) PK.length c, .string ⟨#[44, 32]⟩] wr fun e w' => e = .returned (.string ⟨TL.toArray⟩) ∧ Below wr.heap.size wr w') := ⟨by have J := Sh.strings_Join g 0 c PK ⟨#[44, 32]⟩ wr hcl hgl (by have := HPL.out; omega) hcap (by show (Lib.join (PK.map (·.data.toList)) [44, 32]).length ≤ _; rw [HTLJ.out]; exact hj); rw [show Lib.join (PK.map (·.data.toList)) (⟨#[44, 32]⟩ : ByteArray).data.toList = TL from HTLJ.out] at J; exact J⟩
          have r1 := big_no (show HDX.size + 1 ≤ 1000000000000000 by have := HZ.out; omega)
          have e3 : (HDX ++ (⟨#[32]⟩ : ByteArray)).size = HDX.size + 1 := rule_Text.app_size _ _
          have r2 := big_no (show (HDX ++ (⟨#[32]⟩ : ByteArray)).size + TL.length ≤ 1000000000000000 by have := HZ.out; omega)
          have r3 := big_no (show (HDX ++ (⟨#[32]⟩ : ByteArray)).size + (⟨TL.toArray⟩ : ByteArray).size ≤ 1000000000000000 by rw [hsz.out]; have := HZ.out; omega)
          have r4 := big_no (show (HDX.size + 1) + TL.length ≤ 1000000000000000 by have := HZ.out; omega)
          have r5 := big_no (show (HDX.size + 1) + (⟨TL.toArray⟩ : ByteArray).size ≤ 1000000000000000 by rw [hsz.out]; have := HZ.out; omega)
          obtain ⟨r4a, r4b, r4c, r4d⟩ := r4; obtain ⟨r5a, r5b, r5c, r5d⟩ := r5
          obtain ⟨r1a, r1b, r1c, r1d⟩ := r1; obtain ⟨r2a, r2b, r2c, r2d⟩ := r2; obtain ⟨r3a, r3b, r3c, r3d⟩ := r3
          have pd1 : decide ((s.length : Int) < (s.length : Int)) = false := decide_eq_false (by omega)
          clear e3 hj hcl hcap hgl hpk0 hlt
          go_wp2_with (go_at_call 48; (with_reducible refine HJN.out.mono ?_); rintro e w3 ⟨rfl, hb3⟩; have HB3 := Aside0.mk (HB.out.trans (hb3.mono HB.out.size)); clear hb3)
          go_ret2
          refine ⟨?_, HB3.out⟩
          rw [HTX.out, HHD2.out]
          first | rfl | (congr 3; rfl)
  · by_cases hk : 0 < k
    · have hkd : decide (0 < k) = true := decide_eq_true hk; have hkd' : decide (k > 0) = true := hkd
      have q3 := big_no (show 4 + (((⟨#[32]⟩ : ByteArray) ++ NK) ++ (⟨#[32, 111, 102]⟩ : ByteArray)).size ≤ 1000000000000000 by omega)
      obtain ⟨q1a, q1b, q1c, q1d⟩ := q1; obtain ⟨q2a, q2b, q2c, q2d⟩ := q2; obtain ⟨q3a, q3b, q3c, q3d⟩ := q3
      have HHD2 : Aside0 (HDR = ((⟨#[115, 97, 109, 101]⟩ : ByteArray) ++ (((⟨#[32]⟩ : ByteArray) ++ NK) ++ (⟨#[32, 111, 102]⟩ : ByteArray)))) := ⟨by rw [HHD.out, if_pos hk]; rfl⟩
      have hz : ((⟨#[115, 97, 109, 101]⟩ : ByteArray) ++ (((⟨#[32]⟩ : ByteArray) ++ NK) ++ (⟨#[32, 111, 102]⟩ : ByteArray))).size ≤ 100 := by rw [rule_Text.app_size, e2, e1]; have : (⟨#[115, 97, 109, 101]⟩ : ByteArray).size = 4 := rfl; omega
      have HZ := Aside0.mk hz
      clear e1 e2 hk HHD hz
      go_enter Tryd.func28, Tryd.ntmps28
      go_wp2_with (first | (go_at_call 33; (with_reducible refine (rule_Check.calls m _ _ _ _ _ _ 0 _ (Kd.C_alloc HR0.out _) HC0.out HCHK.out).mono ?_); rintro e w1 ⟨rfl, hb1⟩; have y1 : (w.alloc (.cells #[.int .i64 2, .int .i64 k, .slice A0_2 s.length c0_2] 53)).heap[w.heap.size]? = some (.cells #[.int .i64 2, .int .i64 k, .slice A0_2 s.length c0_2] 53) := heap_alloc_new w _; have yB : Below w.heap.size w (w.alloc (.cells #[.int .i64 2, .int .i64 k, .slice A0_2 s.length c0_2] 53)) := (Below.refl _ w).alloc (Nat.le_refl _) _; have BK := Aside0.mk (blk_alloc ((hb1.block _ (blk_lt y1)).trans y1) (.cells #[.string ⟨#[]⟩, .string ⟨#[97, 112, 97, 114, 116]⟩, .string ⟨#[115, 97, 109, 101]⟩, .string ⟨#[109, 111, 115, 116]⟩, .string ⟨#[102, 101, 119]⟩, .string ⟨#[109, 97, 110, 121]⟩] 80)); have HB1 := Aside0.mk ((yB.trans (hb1.mono yB.size)).alloc (yB.trans (hb1.mono yB.size)).size (.cells #[.string ⟨#[]⟩, .string ⟨#[97, 112, 97, 114, 116]⟩, .string ⟨#[115, 97, 109, 101]⟩, .string ⟨#[109, 111, 115, 116]⟩, .string ⟨#[102, 101, 119]⟩, .string ⟨#[109, 97, 110, 121]⟩] 80)); have HT1 := Aside0.mk (tab_below HTW.out ((yB.trans (hb1.mono yB.size)).alloc (yB.trans (hb1.mono yB.size)).size (.cells #[.string ⟨#[]⟩, .string ⟨#[97, 112, 97, 114, 116]⟩, .string ⟨#[115, 97, 109, 101]⟩, .string ⟨#[109, 111, 115, 116]⟩, .string ⟨#[102, 101, 119]⟩, .string ⟨#[109, 97, 110, 121]⟩] 80))); have z0 : (w1.alloc (.cells #[.string ⟨#[]⟩, .string ⟨#[97, 112, 97, 114, 116]⟩, .string ⟨#[115, 97, 109, 101]⟩, .string ⟨#[109, 111, 115, 116]⟩, .string ⟨#[102, 101, 119]⟩, .string ⟨#[109, 97, 110, 121]⟩] 80)).cell? ⟨w.heap.size, 0, none⟩ = some (.int .i64 2) := (blk_cell BK.out 0).trans rfl; have z1 : (w1.alloc (.cells #[.string ⟨#[]⟩, .string ⟨#[97, 112, 97, 114, 116]⟩, .string ⟨#[115, 97, 109, 101]⟩, .string ⟨#[109, 111, 115, 116]⟩, .string ⟨#[102, 101, 119]⟩, .string ⟨#[109, 97, 110, 121]⟩] 80)).cell? ⟨w.heap.size, 1, none⟩ = some (.int .i64 k) := (blk_cell BK.out 1).trans rfl; have z2 : (w1.alloc (.cells #[.string ⟨#[]⟩, .string ⟨#[97, 112, 97, 114, 116]⟩, .string ⟨#[115, 97, 109, 101]⟩, .string ⟨#[109, 111, 115, 116]⟩, .string ⟨#[102, 101, 119]⟩, .string ⟨#[109, 97, 110, 121]⟩] 80)).cell? ⟨w.heap.size, 2, none⟩ = some (.slice A0_2 s.length c0_2) := (blk_cell BK.out 2).trans rfl; clear y1 yB hb1) | (go_at_call 47; (with_reducible refine (HIT.out _ HT1.out).mono ?_); rintro e w2 ⟨rfl, hb2⟩; replace BK := Aside0.mk ((hb2.block _ (blk_lt BK.out)).trans BK.out); replace HB1 := Aside0.mk (HB1.out.trans (hb2.mono HB1.out.size)); replace z2 : w2.cell? ⟨w.heap.size, 2, none⟩ = some (.slice A0_2 s.length c0_2) := (blk_cell BK.out 2).trans rfl; clear hb2 z0 z1))
      clear z2 BK HT1 HIT HTW q1a q1b q1c q1d q2a q2b q2c q2d q3a q3b q3c q3d
      generalize ((⟨#[115, 97, 109, 101]⟩ : ByteArray) ++ (((⟨#[32]⟩ : ByteArray) ++ NK) ++ (⟨#[32, 111, 102]⟩ : ByteArray))) = HDX at *
      go_loopw [8, 34] (fun v8 v34 wr => ∃ j : Nat, j ≤ s.length ∧ v34 = .int .i64 (j : Int) ∧ Aside0 (Kd.R Kd.string 9 wr w.heap.size (fun _ => True) v8 ((s.take j).map (rdOf ByteArray.empty l1))) ∧ Aside0 (Below w.heap.size w wr)) (fun _ v34 _ => s.length - (RowKit.intOf v34).toNat)
      case atStart => exact ⟨0, Nat.zero_le _, rfl, ⟨Kd.R_nil _ _ _ _ _⟩, HB1⟩
      case round =>
        clear HB1
        obtain ⟨j, hj, rfl, HO, HB⟩ := hrel
        by_cases hlt : j < s.length
        · obtain ⟨hx0, hx1⟩ := HS.out s[j] (List.getElem_mem hlt)
          have HTK := Aside0.mk (take_snoc hlt (rdOf ByteArray.empty l1))
          have erd : rd s (j : Int) = s[j] := by unfold rd; rw [Int.toNat_natCast, List.getD_eq_getElem?_getD, List.getElem?_eq_getElem hlt]; rfl
          have p1 : 0 ≤ (j : Int) := by omega
          have p2 : (j : Int) < (s.length : Int) := by omega
          obtain ⟨ad1, ee1, hc1_⟩ := Kd.at_int HR0.out (j : Int) p1 p2
          obtain ⟨ad2, ee2, hc2_⟩ := Kd.at_string HR1.out s[j] hx0 hx1
          cases ee1
          cases ee2
          rw [erd, Int.toNat_natCast] at hc1_
          replace hc1_ := (HB.out.cell (World.block_lt_of_cell? w _ hc1_)).trans hc1_
          replace hc2_ := (HB.out.cell (World.block_lt_of_cell? w _ hc2_)).trans hc2_
          have pd1 : decide ((j : Int) < (s.length : Int)) = true := decide_eq_true p2; have pd2 : decide (j < s.length) = true := decide_eq_true hlt
          have HLE : Aside0 (((s.take j).map (rdOf ByteArray.empty l1)).length + 1 ≤ 100) := ⟨by simp; omega⟩
          have hw : wrap64 ((j : Int) + 1) = ((j + 1 : Nat) : Int) := by unfold wrap64; omega
          have HMS : Aside0 (s.length - (j + 1) < s.length - j) := ⟨by omega⟩
          have hxx : 0 ≤ s[j] ∧ s[j] < (l1.length : Int) := ⟨hx0, hx1⟩
          have pd3 : decide (s[j] < (l1.length : Int)) = true := decide_eq_true hx1; have pd4 : decide (0 ≤ s[j]) = true := decide_eq_true hx0
          generalize s[j] = x at *
          generalize (s.take j).map (rdOf ByteArray.empty l1) = xs at *
          generalize rdOf ByteArray.empty l1 x = nmx at *
          clear HS
          go_wp2_with ((with_reducible refine gate_builtin (b := .append) (xs := #[.tmp 38, .tmp 43]) rfl ?_); at_builtin; refine Kd.R_append Kd.string (w0 := w) w.heap.size rfl (.tmp 38) (.tmp 43) 24 9 (.string ⟨#[]⟩) 16 rfl Tryd.underlying24 info9 rfl (by decide) (by omega) _ xs nmx [.string nmx] (fun _ => True) (fun _ => False) rfl rfl ?aP (fun _ hk => hk.elim) ?aF ?aO ?aB ?aS ?aL ?_; (case aP => exact rfl); (case aB => exact (by repeat (first | (with_reducible first | exact HB.out | apply below_alloc | apply pw_below_drewN | apply below_drew1) | exact HB.out))); (case aF => exact (fun _ _ => trivial)); (case aO => exact (by (with_reducible repeat (first | apply Kd.R_alloc | apply Kd.R_drewN | apply Kd.R_drew)); exact HO.out)); (case aS => exact (below_size (by repeat (first | (with_reducible first | exact HB.out | apply below_alloc | apply pw_below_drewN | apply below_drew1) | exact HB.out)))); (case aL => have := HLE.out; omega); intro v w2 ho hb hg hat; clear HO HB; have HO := Aside0.mk ho; have HB := Aside0.mk hb; clear ho hb hg hat)
          go_roundw
          case rel => exact ⟨j + 1, by omega, rfl, ⟨by rw [HTK.out]; exact HO.out⟩, HB⟩
          case measure => have := HMS.out; simp only [RowKit.intOf]; omega
        · obtain rfl : j = s.length := by omega
          have HO2 : Aside0 (Kd.R Kd.string 9 wr w.heap.size (fun _ => True) u8 PK) := ⟨by have := HO.out; rw [HPK.out] at this; exact this⟩
          have hpk0 : PK ≠ [] := fun e => by have h1 := HPL.out; rw [e] at h1; exact HS0.out (List.eq_nil_of_length_eq_zero h1.symm)
          obtain ⟨g, c, hv, hcap, hgl, hcl⟩ := strs_cells HO2.out hpk0
          subst hv
          have hj := HJ.out
          have HJN : Aside0 (Calls Tryd.prog 48 #[.slice (some ⟨g, 0, none⟩) PK.length c, .string ⟨#[44, 32]⟩] wr fun e w' => e = .returned (.string ⟨TL.toArray⟩) ∧ Below wr.heap.size wr w') := ⟨by have J := Sh.strings_Join g 0 c PK ⟨#[44, 32]⟩ wr hcl hgl (by have := HPL.out; omega) hcap (by show (Lib.join (PK.map (·.data.toList)) [44, 32]).length ≤ _; rw [HTLJ.out]; exact hj); rw [show Lib.join (PK.map (·.data.toList)) (⟨#[44, 32]⟩ : ByteArray).data.toList = TL from HTLJ.out] at J; exact J⟩
          have r1 := big_no (show HDX.size + 1 ≤ 1000000000000000 by have := HZ.out; omega)
          have e3 : (HDX ++ (⟨#[32]⟩ : ByteArray)).size = HDX.size + 1 := rule_Text.app_size _ _
          have r2 := big_no (show (HDX ++ (⟨#[32]⟩ : ByteArray)).size + TL.length ≤ 1000000000000000 by have := HZ.out; omega)
          have r3 := big_no (show (HDX ++ (⟨#[32]⟩ : ByteArray)).size + (⟨TL.toArray⟩ : ByteArray).size ≤ 1000000000000000 by rw [hsz.out]; have := HZ.out; omega)
          have r4 := big_no (show (HDX.size + 1) + TL.length ≤ 1000000000000000 by have := HZ.out; omega)
          have r5 := big_no (show (HDX.size + 1) + (⟨TL.toArray⟩ : ByteArray).size ≤ 1000000000000000 by rw [hsz.out]; have := HZ.out; omega)
          obtain ⟨r4a, r4b, r4c, r4d⟩ := r4; obtain ⟨r5a, r5b, r5c, r5d⟩ := r5
          obtain ⟨r1a, r1b, r1c, r1d⟩ := r1; obtain ⟨r2a, r2b, r2c, r2d⟩ := r2; obtain ⟨r3a, r3b, r3c, r3d⟩ := r3
          have pd1 : decide ((s.length : Int) < (s.length : Int)) = false := decide_eq_false (by omega)
          clear e3 hj hcl hcap hgl hpk0 hlt
          go_wp2_with (go_at_call 48; (with_reducible refine HJN.out.mono ?_); rintro e w3 ⟨rfl, hb3⟩; have HB3 := Aside0.mk (HB.out.trans (hb3.mono HB.out.size)); clear hb3)
          go_ret2
          refine ⟨?_, HB3.out⟩
          rw [HTX.out, HHD2.out]
          first | rfl | (congr 3; rfl)
    · have hkd : decide (0 < k) = false := decide_eq_false hk; have hkd' : decide (k > 0) = false := hkd
      have HHD2 : Aside0 (HDR = (⟨#[115, 97, 109, 101]⟩ : ByteArray)) := ⟨by rw [HHD.out, if_neg hk]; rfl⟩
      have hz : (⟨#[115, 97, 109, 101]⟩ : ByteArray).size ≤ 100 := by decide
      clear q1 q2
      have HZ := Aside0.mk hz
      clear e1 e2 hk HHD hz
      go_enter Tryd.func28, Tryd.ntmps28
      go_wp2_with (first | (go_at_call 33; (with_reducible refine (rule_Check.calls m _ _ _ _ _ _ 0 _ (Kd.C_alloc HR0.out _) HC0.out HCHK.out).mono ?_); rintro e w1 ⟨rfl, hb1⟩; have y1 : (w.alloc (.cells #[.int .i64 2, .int .i64 k, .slice A0_2 s.length c0_2] 53)).heap[w.heap.size]? = some (.cells #[.int .i64 2, .int .i64 k, .slice A0_2 s.length c0_2] 53) := heap_alloc_new w _; have yB : Below w.heap.size w (w.alloc (.cells #[.int .i64 2, .int .i64 k, .slice A0_2 s.length c0_2] 53)) := (Below.refl _ w).alloc (Nat.le_refl _) _; have BK := Aside0.mk (blk_alloc ((hb1.block _ (blk_lt y1)).trans y1) (.cells #[.string ⟨#[]⟩, .string ⟨#[97, 112, 97, 114, 116]⟩, .string ⟨#[115, 97, 109, 101]⟩, .string ⟨#[109, 111, 115, 116]⟩, .string ⟨#[102, 101, 119]⟩, .string ⟨#[109, 97, 110, 121]⟩] 80)); have HB1 := Aside0.mk ((yB.trans (hb1.mono yB.size)).alloc (yB.trans (hb1.mono yB.size)).size (.cells #[.string ⟨#[]⟩, .string ⟨#[97, 112, 97, 114, 116]⟩, .string ⟨#[115, 97, 109, 101]⟩, .string ⟨#[109, 111, 115, 116]⟩, .string ⟨#[102, 101, 119]⟩, .string ⟨#[109, 97, 110, 121]⟩] 80)); have HT1 := Aside0.mk (tab_below HTW.out ((yB.trans (hb1.mono yB.size)).alloc (yB.trans (hb1.mono yB.size)).size (.cells #[.string ⟨#[]⟩, .string ⟨#[97, 112, 97, 114, 116]⟩, .string ⟨#[115, 97, 109, 101]⟩, .string ⟨#[109, 111, 115, 116]⟩, .string ⟨#[102, 101, 119]⟩, .string ⟨#[109, 97, 110, 121]⟩] 80))); have z0 : (w1.alloc (.cells #[.string ⟨#[]⟩, .string ⟨#[97, 112, 97, 114, 116]⟩, .string ⟨#[115, 97, 109, 101]⟩, .string ⟨#[109, 111, 115, 116]⟩, .string ⟨#[102, 101, 119]⟩, .string ⟨#[109, 97, 110, 121]⟩] 80)).cell? ⟨w.heap.size, 0, none⟩ = some (.int .i64 2) := (blk_cell BK.out 0).trans rfl; have z1 : (w1.alloc (.cells #[.string ⟨#[]⟩, .string ⟨#[97, 112, 97, 114, 116]⟩, .string ⟨#[115, 97, 109, 101]⟩, .string ⟨#[109, 111, 115, 116]⟩, .string ⟨#[102, 101, 119]⟩, .string ⟨#[109, 97, 110, 121]⟩] 80)).cell? ⟨w.heap.size, 1, none⟩ = some (.int .i64 k) := (blk_cell BK.out 1).trans rfl; have z2 : (w1.alloc (.cells #[.string ⟨#[]⟩, .string ⟨#[97, 112, 97, 114, 116]⟩, .string ⟨#[115, 97, 109, 101]⟩, .string ⟨#[109, 111, 115, 116]⟩, .string ⟨#[102, 101, 119]⟩, .string ⟨#[109, 97, 110, 121]⟩] 80)).cell? ⟨w.heap.size, 2, none⟩ = some (.slice A0_2 s.length c0_2) := (blk_cell BK.out 2).trans rfl; clear y1 yB hb1))
      clear z2 BK HT1 HIT HTW z0 z1
      generalize (⟨#[115, 97, 109, 101]⟩ : ByteArray) = HDX at *
      go_loopw [8, 34] (fun v8 v34 wr => ∃ j : Nat, j ≤ s.length ∧ v34 = .int .i64 (j : Int) ∧ Aside0 (Kd.R Kd.string 9 wr w.heap.size (fun _ => True) v8 ((s.take j).map (rdOf ByteArray.empty l1))) ∧ Aside0 (Below w.heap.size w wr)) (fun _ v34 _ => s.length - (RowKit.intOf v34).toNat)
      case atStart => exact ⟨0, Nat.zero_le _, rfl, ⟨Kd.R_nil _ _ _ _ _⟩, HB1⟩
      case round =>
        clear HB1
        obtain ⟨j, hj, rfl, HO, HB⟩ := hrel
        by_cases hlt : j < s.length
        · obtain ⟨hx0, hx1⟩ := HS.out s[j] (List.getElem_mem hlt)
          have HTK := Aside0.mk (take_snoc hlt (rdOf ByteArray.empty l1))
          have erd : rd s (j : Int) = s[j] := by unfold rd; rw [Int.toNat_natCast, List.getD_eq_getElem?_getD, List.getElem?_eq_getElem hlt]; rfl
          have p1 : 0 ≤ (j : Int) := by omega
          have p2 : (j : Int) < (s.length : Int) := by omega
          obtain ⟨ad1, ee1, hc1_⟩ := Kd.at_int HR0.out (j : Int) p1 p2
          obtain ⟨ad2, ee2, hc2_⟩ := Kd.at_string HR1.out s[j] hx0 hx1
          cases ee1
          cases ee2
          rw [erd, Int.toNat_natCast] at hc1_
          replace hc1_ := (HB.out.cell (World.block_lt_of_cell? w _ hc1_)).trans hc1_
          replace hc2_ := (HB.out.cell (World.block_lt_of_cell? w _ hc2_)).trans hc2_
          have pd1 : decide ((j : Int) < (s.length : Int)) = true := decide_eq_true p2; have pd2 : decide (j < s.length) = true := decide_eq_true hlt
          have HLE : Aside0 (((s.take j).map (rdOf ByteArray.empty l1)).length + 1 ≤ 100) := ⟨by simp; omega⟩
          have hw : wrap64 ((j : Int) + 1) = ((j + 1 : Nat) : Int) := by unfold wrap64; omega
          have HMS : Aside0 (s.length - (j + 1) < s.length - j) := ⟨by omega⟩
          have hxx : 0 ≤ s[j] ∧ s[j] < (l1.length : Int) := ⟨hx0, hx1⟩
          have pd3 : decide (s[j] < (l1.length : Int)) = true := decide_eq_true hx1; have pd4 : decide (0 ≤ s[j]) = true := decide_eq_true hx0
          generalize s[j] = x at *
          generalize (s.take j).map (rdOf ByteArray.empty l1) = xs at *
          generalize rdOf ByteArray.empty l1 x = nmx at *
          clear HS
          go_wp2_with ((with_reducible refine gate_builtin (b := .append) (xs := #[.tmp 38, .tmp 43]) rfl ?_); at_builtin; refine Kd.R_append Kd.string (w0 := w) w.heap.size rfl (.tmp 38) (.tmp 43) 24 9 (.string ⟨#[]⟩) 16 rfl Tryd.underlying24 info9 rfl (by decide) (by omega) _ xs nmx [.string nmx] (fun _ => True) (fun _ => False) rfl rfl ?aP (fun _ hk => hk.elim) ?aF ?aO ?aB ?aS ?aL ?_; (case aP => exact rfl); (case aB => exact (by repeat (first | (with_reducible first | exact HB.out | apply below_alloc | apply pw_below_drewN | apply below_drew1) | exact HB.out))); (case aF => exact (fun _ _ => trivial)); (case aO => exact (by (with_reducible repeat (first | apply Kd.R_alloc | apply Kd.R_drewN | apply Kd.R_drew)); exact HO.out)); (case aS => exact (below_size (by repeat (first | (with_reducible first | exact HB.out | apply below_alloc | apply pw_below_drewN | apply below_drew1) | exact HB.out)))); (case aL => have := HLE.out; omega); intro v w2 ho hb hg hat; clear HO HB; have HO := Aside0.mk ho; have HB := Aside0.mk hb; clear ho hb hg hat)
          go_roundw
          case rel => exact ⟨j + 1, by omega, rfl, ⟨by rw [HTK.out]; exact HO.out⟩, HB⟩
          case measure => have := HMS.out; simp only [RowKit.intOf]; omega
        · obtain rfl : j = s.length := by omega
          have HO2 : Aside0 (Kd.R Kd.string 9 wr w.heap.size (fun _ => True) u8 PK) := ⟨by have := HO.out; rw [HPK.out] at this; exact this⟩
          have hpk0 : PK ≠ [] := fun e => by have h1 := HPL.out; rw [e] at h1; exact HS0.out (List.eq_nil_of_length_eq_zero h1.symm)
          obtain ⟨g, c, hv, hcap, hgl, hcl⟩ := strs_cells HO2.out hpk0
          subst hv
          have hj := HJ.out
          have HJN : Aside0 (Calls Tryd.prog 48 #[.slice (some ⟨g, 0, none⟩) PK.length c, .string ⟨#[44, 32]⟩] wr fun e w' => e = .returned (.string ⟨TL.toArray⟩) ∧ Below wr.heap.size wr w') := ⟨by have J := Sh.strings_Join g 0 c PK ⟨#[44, 32]⟩ wr hcl hgl (by have := HPL.out; omega) hcap (by show (Lib.join (PK.map (·.data.toList)) [44, 32]).length ≤ _; rw [HTLJ.out]; exact hj); rw [show Lib.join (PK.map (·.data.toList)) (⟨#[44, 32]⟩ : ByteArray).data.toList = TL from HTLJ.out] at J; exact J⟩
          have r1 := big_no (show HDX.size + 1 ≤ 1000000000000000 by have := HZ.out; omega)
          have e3 : (HDX ++ (⟨#[32]⟩ : ByteArray)).size = HDX.size + 1 := rule_Text.app_size _ _
          have r2 := big_no (show (HDX ++ (⟨#[32]⟩ : ByteArray)).size + TL.length ≤ 1000000000000000 by have := HZ.out; omega)
          have r3 := big_no (show (HDX ++ (⟨#[32]⟩ : ByteArray)).size + (⟨TL.toArray⟩ : ByteArray).size ≤ 1000000000000000 by rw [hsz.out]; have := HZ.out; omega)
          have r4 := big_no (show (HDX.size + 1) + TL.length ≤ 1000000000000000 by have := HZ.out; omega)
          have r5 := big_no (show (HDX.size + 1) + (⟨TL.toArray⟩ : ByteArray).size ≤ 1000000000000000 by rw [hsz.out]; have := HZ.out; omega)
          obtain ⟨r4a, r4b, r4c, r4d⟩ := r4; obtain ⟨r5a, r5b, r5c, r5d⟩ := r5
          obtain ⟨r1a, r1b, r1c, r1d⟩ := r1; obtain ⟨r2a, r2b, r2c, r2d⟩ := r2; obtain ⟨r3a, r3b, r3c, r3d⟩ := r3
          have pd1 : decide ((s.length : Int) < (s.length : Int)) = false := decide_eq_false (by omega)
          clear e3 hj hcl hcap hgl hpk0 hlt
          go_wp2_with (go_at_call 48; (with_reducible refine HJN.out.mono ?_); rintro e w3 ⟨rfl, hb3⟩; have HB3 := Aside0.mk (HB.out.trans (hb3.mono HB.out.size)); clear hb3)
          go_ret2
          refine ⟨?_, HB3.out⟩
          rw [HTX.out, HHD2.out]
          first | rfl | (congr 3; rfl)
  · by_cases hk : 0 < k
    · have hkd : decide (0 < k) = true := decide_eq_true hk; have hkd' : decide (k > 0) = true := hkd
      have q3 := big_no (show 4 + (((⟨#[32]⟩ : ByteArray) ++ NK) ++ (⟨#[32, 111, 102]⟩ : ByteArray)).size ≤ 1000000000000000 by omega)
      obtain ⟨q1a, q1b, q1c, q1d⟩ := q1; obtain ⟨q2a, q2b, q2c, q2d⟩ := q2; obtain ⟨q3a, q3b, q3c, q3d⟩ := q3
      have HHD2 : Aside0 (HDR = ((⟨#[109, 111, 115, 116]⟩ : ByteArray) ++ (((⟨#[32]⟩ : ByteArray) ++ NK) ++ (⟨#[32, 111, 102]⟩ : ByteArray)))) := ⟨by rw [HHD.out, if_pos hk]; rfl⟩
      have hz : ((⟨#[109, 111, 115, 116]⟩ : ByteArray) ++ (((⟨#[32]⟩ : ByteArray) ++ NK) ++ (⟨#[32, 111, 102]⟩ : ByteArray))).size ≤ 100 := by rw [rule_Text.app_size, e2, e1]; have : (⟨#[109, 111, 115, 116]⟩ : ByteArray).size = 4 := rfl; omega
      have HZ := Aside0.mk hz
      clear e1 e2 hk HHD hz
      go_enter Tryd.func28, Tryd.ntmps28
      go_wp2_with (first | (go_at_call 33; (with_reducible refine (rule_Check.calls m _ _ _ _ _ _ 0 _ (Kd.C_alloc HR0.out _) HC0.out HCHK.out).mono ?_); rintro e w1 ⟨rfl, hb1⟩; have y1 : (w.alloc (.cells #[.int .i64 3, .int .i64 k, .slice A0_2 s.length c0_2] 53)).heap[w.heap.size]? = some (.cells #[.int .i64 3, .int .i64 k, .slice A0_2 s.length c0_2] 53) := heap_alloc_new w _; have yB : Below w.heap.size w (w.alloc (.cells #[.int .i64 3, .int .i64 k, .slice A0_2 s.length c0_2] 53)) := (Below.refl _ w).alloc (Nat.le_refl _) _; have BK := Aside0.mk (blk_alloc ((hb1.block _ (blk_lt y1)).trans y1) (.cells #[.string ⟨#[]⟩, .string ⟨#[97, 112, 97, 114, 116]⟩, .string ⟨#[115, 97, 109, 101]⟩, .string ⟨#[109, 111, 115, 116]⟩, .string ⟨#[102, 101, 119]⟩, .string ⟨#[109, 97, 110, 121]⟩] 80)); have HB1 := Aside0.mk ((yB.trans (hb1.mono yB.size)).alloc (yB.trans (hb1.mono yB.size)).size (.cells #[.string ⟨#[]⟩, .string ⟨#[97, 112, 97, 114, 116]⟩, .string ⟨#[115, 97, 109, 101]⟩, .string ⟨#[109, 111, 115, 116]⟩, .string ⟨#[102, 101, 119]⟩, .string ⟨#[109, 97, 110, 121]⟩] 80)); have HT1 := Aside0.mk (tab_below HTW.out ((yB.trans (hb1.mono yB.size)).alloc (yB.trans (hb1.mono yB.size)).size (.cells #[.string ⟨#[]⟩, .string ⟨#[97, 112, 97, 114, 116]⟩, .string ⟨#[115, 97, 109, 101]⟩, .string ⟨#[109, 111, 115, 116]⟩, .string ⟨#[102, 101, 119]⟩, .string ⟨#[109, 97, 110, 121]⟩] 80))); have z0 : (w1.alloc (.cells #[.string ⟨#[]⟩, .string ⟨#[97, 112, 97, 114, 116]⟩, .string ⟨#[115, 97, 109, 101]⟩, .string ⟨#[109, 111, 115, 116]⟩, .string ⟨#[102, 101, 119]⟩, .string ⟨#[109, 97, 110, 121]⟩] 80)).cell? ⟨w.heap.size, 0, none⟩ = some (.int .i64 3) := (blk_cell BK.out 0).trans rfl; have z1 : (w1.alloc (.cells #[.string ⟨#[]⟩, .string ⟨#[97, 112, 97, 114, 116]⟩, .string ⟨#[115, 97, 109, 101]⟩, .string ⟨#[109, 111, 115, 116]⟩, .string ⟨#[102, 101, 119]⟩, .string ⟨#[109, 97, 110, 121]⟩] 80)).cell? ⟨w.heap.size, 1, none⟩ = some (.int .i64 k) := (blk_cell BK.out 1).trans rfl; have z2 : (w1.alloc (.cells #[.string ⟨#[]⟩, .string ⟨#[97, 112, 97, 114, 116]⟩, .string ⟨#[115, 97, 109, 101]⟩, .string ⟨#[109, 111, 115, 116]⟩, .string ⟨#[102, 101, 119]⟩, .string ⟨#[109, 97, 110, 121]⟩] 80)).cell? ⟨w.heap.size, 2, none⟩ = some (.slice A0_2 s.length c0_2) := (blk_cell BK.out 2).trans rfl; clear y1 yB hb1) | (go_at_call 47; (with_reducible refine (HIT.out _ HT1.out).mono ?_); rintro e w2 ⟨rfl, hb2⟩; replace BK := Aside0.mk ((hb2.block _ (blk_lt BK.out)).trans BK.out); replace HB1 := Aside0.mk (HB1.out.trans (hb2.mono HB1.out.size)); replace z2 : w2.cell? ⟨w.heap.size, 2, none⟩ = some (.slice A0_2 s.length c0_2) := (blk_cell BK.out 2).trans rfl; clear hb2 z0 z1))
      clear z2 BK HT1 HIT HTW q1a q1b q1c q1d q2a q2b q2c q2d q3a q3b q3c q3d
      generalize ((⟨#[109, 111, 115, 116]⟩ : ByteArray) ++ (((⟨#[32]⟩ : ByteArray) ++ NK) ++ (⟨#[32, 111, 102]⟩ : ByteArray))) = HDX at *
      go_loopw [8, 34] (fun v8 v34 wr => ∃ j : Nat, j ≤ s.length ∧ v34 = .int .i64 (j : Int) ∧ Aside0 (Kd.R Kd.string 9 wr w.heap.size (fun _ => True) v8 ((s.take j).map (rdOf ByteArray.empty l1))) ∧ Aside0 (Below w.heap.size w wr)) (fun _ v34 _ => s.length - (RowKit.intOf v34).toNat)
      case atStart => exact ⟨0, Nat.zero_le _, rfl, ⟨Kd.R_nil _ _ _ _ _⟩, HB1⟩
      case round =>
        clear HB1
        obtain ⟨j, hj, rfl, HO, HB⟩ := hrel
        by_cases hlt : j < s.length
        · obtain ⟨hx0, hx1⟩ := HS.out s[j] (List.getElem_mem hlt)
          have HTK := Aside0.mk (take_snoc hlt (rdOf ByteArray.empty l1))
          have erd : rd s (j : Int) = s[j] := by unfold rd; rw [Int.toNat_natCast, List.getD_eq_getElem?_getD, List.getElem?_eq_getElem hlt]; rfl
          have p1 : 0 ≤ (j : Int) := by omega
          have p2 : (j : Int) < (s.length : Int) := by omega
          obtain ⟨ad1, ee1, hc1_⟩ := Kd.at_int HR0.out (j : Int) p1 p2
          obtain ⟨ad2, ee2, hc2_⟩ := Kd.at_string HR1.out s[j] hx0 hx1
          cases ee1
          cases ee2
          rw [erd, Int.toNat_natCast] at hc1_
          replace hc1_ := (HB.out.cell (World.block_lt_of_cell? w _ hc1_)).trans hc1_
          replace hc2_ := (HB.out.cell (World.block_lt_of_cell? w _ hc2_)).trans hc2_
          have pd1 : decide ((j : Int) < (s.length : Int)) = true := decide_eq_true p2; have pd2 : decide (j < s.length) = true := decide_eq_true hlt
          have HLE : Aside0 (((s.take j).map (rdOf ByteArray.empty l1)).length + 1 ≤ 100) := ⟨by simp; omega⟩
          have hw : wrap64 ((j : Int) + 1) = ((j + 1 : Nat) : Int) := by unfold wrap64; omega
          have HMS : Aside0 (s.length - (j + 1) < s.length - j) := ⟨by omega⟩
          have hxx : 0 ≤ s[j] ∧ s[j] < (l1.length : Int) := ⟨hx0, hx1⟩
          have pd3 : decide (s[j] < (l1.length : Int)) = true := decide_eq_true hx1; have pd4 : decide (0 ≤ s[j]) = true := decide_eq_true hx0
          generalize s[j] = x at *
          generalize (s.take j).map (rdOf ByteArray.empty l1) = xs at *
          generalize rdOf ByteArray.empty l1 x = nmx at *
          clear HS
          go_wp2_with ((with_reducible refine gate_builtin (b := .append) (xs := #[.tmp 38, .tmp 43]) rfl ?_); at_builtin; refine Kd.R_append Kd.string (w0 := w) w.heap.size rfl (.tmp 38) (.tmp 43) 24 9 (.string ⟨#[]⟩) 16 rfl Tryd.underlying24 info9 rfl (by decide) (by omega) _ xs nmx [.string nmx] (fun _ => True) (fun _ => False) rfl rfl ?aP (fun _ hk => hk.elim) ?aF ?aO ?aB ?aS ?aL ?_; (case aP => exact rfl); (case aB => exact (by repeat (first | (with_reducible first | exact HB.out | apply below_alloc | apply pw_below_drewN | apply below_drew1) | exact HB.out))); (case aF => exact (fun _ _ => trivial)); (case aO => exact (by (with_reducible repeat (first | apply Kd.R_alloc | apply Kd.R_drewN | apply Kd.R_drew)); exact HO.out)); (case aS => exact (below_size (by repeat (first | (with_reducible first | exact HB.out | apply below_alloc | apply pw_below_drewN | apply below_drew1) | exact HB.out)))); (case aL => have := HLE.out; omega); intro v w2 ho hb hg hat; clear HO HB; have HO := Aside0.mk ho; have HB := Aside0.mk hb; clear ho hb hg hat)
          go_roundw
          case rel => exact ⟨j + 1, by omega, rfl, ⟨by rw [HTK.out]; exact HO.out⟩, HB⟩
          case measure => have := HMS.out; simp only [RowKit.intOf]; omega
        · obtain rfl : j = s.length := by omega
          have HO2 : Aside0 (Kd.R Kd.string 9 wr w.heap.size (fun _ => True) u8 PK) := ⟨by have := HO.out; rw [HPK.out] at this; exact this⟩
          have hpk0 : PK ≠ [] := fun e => by have h1 := HPL.out; rw [e] at h1; exact HS0.out (List.eq_nil_of_length_eq_zero h1.symm)
          obtain ⟨g, c, hv, hcap, hgl, hcl⟩ := strs_cells HO2.out hpk0
          subst hv
          have hj := HJ.out
          have HJN : Aside0 (Calls Tryd.prog 48 #[.slice (some ⟨g, 0, none⟩) PK.length c, .string ⟨#[44, 32]⟩] wr fun e w' => e = .returned (.string ⟨TL.toArray⟩) ∧ Below wr.heap.size wr w') := ⟨by have J := Sh.strings_Join g 0 c PK ⟨#[44, 32]⟩ wr hcl hgl (by have := HPL.out; omega) hcap (by show (Lib.join (PK.map (·.data.toList)) [44, 32]).length ≤ _; rw [HTLJ.out]; exact hj); rw [show Lib.join (PK.map (·.data.toList)) (⟨#[44, 32]⟩ : ByteArray).data.toList = TL from HTLJ.out] at J; exact J⟩
          have r1 := big_no (show HDX.size + 1 ≤ 1000000000000000 by have := HZ.out; omega)
          have e3 : (HDX ++ (⟨#[32]⟩ : ByteArray)).size = HDX.size + 1 := rule_Text.app_size _ _
          have r2 := big_no (show (HDX ++ (⟨#[32]⟩ : ByteArray)).size + TL.length ≤ 1000000000000000 by have := HZ.out; omega)
          have r3 := big_no (show (HDX ++ (⟨#[32]⟩ : ByteArray)).size + (⟨TL.toArray⟩ : ByteArray).size ≤ 1000000000000000 by rw [hsz.out]; have := HZ.out; omega)
          have r4 := big_no (show (HDX.size + 1) + TL.length ≤ 1000000000000000 by have := HZ.out; omega)
          have r5 := big_no (show (HDX.size + 1) + (⟨TL.toArray⟩ : ByteArray).size ≤ 1000000000000000 by rw [hsz.out]; have := HZ.out; omega)
          obtain ⟨r4a, r4b, r4c, r4d⟩ := r4; obtain ⟨r5a, r5b, r5c, r5d⟩ := r5
          obtain ⟨r1a, r1b, r1c, r1d⟩ := r1; obtain ⟨r2a, r2b, r2c, r2d⟩ := r2; obtain ⟨r3a, r3b, r3c, r3d⟩ := r3
          have pd1 : decide ((s.length : Int) < (s.length : Int)) = false := decide_eq_false (by omega)
          clear e3 hj hcl hcap hgl hpk0 hlt
          go_wp2_with (go_at_call 48; (with_reducible refine HJN.out.mono ?_); rintro e w3 ⟨rfl, hb3⟩; have HB3 := Aside0.mk (HB.out.trans (hb3.mono HB.out.size)); clear hb3)
          go_ret2
          refine ⟨?_, HB3.out⟩
          rw [HTX.out, HHD2.out]
          first | rfl | (congr 3; rfl)
    · have hkd : decide (0 < k) = false := decide_eq_false hk; have hkd' : decide (k > 0) = false := hkd
      have HHD2 : Aside0 (HDR = (⟨#[109, 111, 115, 116]⟩ : ByteArray)) := ⟨by rw [HHD.out, if_neg hk]; rfl⟩
      have hz : (⟨#[109, 111, 115, 116]⟩ : ByteArray).size ≤ 100 := by decide
      clear q1 q2
      have HZ := Aside0.mk hz
      clear e1 e2 hk HHD hz
      go_enter Tryd.func28, Tryd.ntmps28
      go_wp2_with (first | (go_at_call 33; (with_reducible refine (rule_Check.calls m _ _ _ _ _ _ 0 _ (Kd.C_alloc HR0.out _) HC0.out HCHK.out).mono ?_); rintro e w1 ⟨rfl, hb1⟩; have y1 : (w.alloc (.cells #[.int .i64 3, .int .i64 k, .slice A0_2 s.length c0_2] 53)).heap[w.heap.size]? = some (.cells #[.int .i64 3, .int .i64 k, .slice A0_2 s.length c0_2] 53) := heap_alloc_new w _; have yB : Below w.heap.size w (w.alloc (.cells #[.int .i64 3, .int .i64 k, .slice A0_2 s.length c0_2] 53)) := (Below.refl _ w).alloc (Nat.le_refl _) _; have BK := Aside0.mk (blk_alloc ((hb1.block _ (blk_lt y1)).trans y1) (.cells #[.string ⟨#[]⟩, .string ⟨#[97, 112, 97, 114, 116]⟩, .string ⟨#[115, 97, 109, 101]⟩, .string ⟨#[109, 111, 115, 116]⟩, .string ⟨#[102, 101, 119]⟩, .string ⟨#[109, 97, 110, 121]⟩] 80)); have HB1 := Aside0.mk ((yB.trans (hb1.mono yB.size)).alloc (yB.trans (hb1.mono yB.size)).size (.cells #[.string ⟨#[]⟩, .string ⟨#[97, 112, 97, 114, 116]⟩, .string ⟨#[115, 97, 109, 101]⟩, .string ⟨#[109, 111, 115, 116]⟩, .string ⟨#[102, 101, 119]⟩, .string ⟨#[109, 97, 110, 121]⟩] 80)); have HT1 := Aside0.mk (tab_below HTW.out ((yB.trans (hb1.mono yB.size)).alloc (yB.trans (hb1.mono yB.size)).size (.cells #[.string ⟨#[]⟩, .string ⟨#[97, 112, 97, 114, 116]⟩, .string ⟨#[115, 97, 109, 101]⟩, .string ⟨#[109, 111, 115, 116]⟩, .string ⟨#[102, 101, 119]⟩, .string ⟨#[109, 97, 110, 121]⟩] 80))); have z0 : (w1.alloc (.cells #[.string ⟨#[]⟩, .string ⟨#[97, 112, 97, 114, 116]⟩, .string ⟨#[115, 97, 109, 101]⟩, .string ⟨#[109, 111, 115, 116]⟩, .string ⟨#[102, 101, 119]⟩, .string ⟨#[109, 97, 110, 121]⟩] 80)).cell? ⟨w.heap.size, 0, none⟩ = some (.int .i64 3) := (blk_cell BK.out 0).trans rfl; have z1 : (w1.alloc (.cells #[.string ⟨#[]⟩, .string ⟨#[97, 112, 97, 114, 116]⟩, .string ⟨#[115, 97, 109, 101]⟩, .string ⟨#[109, 111, 115, 116]⟩, .string ⟨#[102, 101, 119]⟩, .string ⟨#[109, 97, 110, 121]⟩] 80)).cell? ⟨w.heap.size, 1, none⟩ = some (.int .i64 k) := (blk_cell BK.out 1).trans rfl; have z2 : (w1.alloc (.cells #[.string ⟨#[]⟩, .string ⟨#[97, 112, 97, 114, 116]⟩, .string ⟨#[115, 97, 109, 101]⟩, .string ⟨#[109, 111, 115, 116]⟩, .string ⟨#[102, 101, 119]⟩, .string ⟨#[109, 97, 110, 121]⟩] 80)).cell? ⟨w.heap.size, 2, none⟩ = some (.slice A0_2 s.length c0_2) := (blk_cell BK.out 2).trans rfl; clear y1 yB hb1))
      clear z2 BK HT1 HIT HTW z0 z1
      generalize (⟨#[109, 111, 115, 116]⟩ : ByteArray) = HDX at *
      go_loopw [8, 34] (fun v8 v34 wr => ∃ j : Nat, j ≤ s.length ∧ v34 = .int .i64 (j : Int) ∧ Aside0 (Kd.R Kd.string 9 wr w.heap.size (fun _ => True) v8 ((s.take j).map (rdOf ByteArray.empty l1))) ∧ Aside0 (Below w.heap.size w wr)) (fun _ v34 _ => s.length - (RowKit.intOf v34).toNat)
      case atStart => exact ⟨0, Nat.zero_le _, rfl, ⟨Kd.R_nil _ _ _ _ _⟩, HB1⟩
      case round =>
        clear HB1
        obtain ⟨j, hj, rfl, HO, HB⟩ := hrel
        by_cases hlt : j < s.length
        · obtain ⟨hx0, hx1⟩ := HS.out s[j] (List.getElem_mem hlt)
          have HTK := Aside0.mk (take_snoc hlt (rdOf ByteArray.empty l1))
          have erd : rd s (j : Int) = s[j] := by unfold rd; rw [Int.toNat_natCast, List.getD_eq_getElem?_getD, List.getElem?_eq_getElem hlt]; rfl
          have p1 : 0 ≤ (j : Int) := by omega
          have p2 : (j : Int) < (s.length : Int) := by omega
          obtain ⟨ad1, ee1, hc1_⟩ := Kd.at_int HR0.out (j : Int) p1 p2
          obtain ⟨ad2, ee2, hc2_⟩ := Kd.at_string HR1.out s[j] hx0 hx1
          cases ee1
          cases ee2
          rw [erd, Int.toNat_natCast] at hc1_
          replace hc1_ := (HB.out.cell (World.block_lt_of_cell? w _ hc1_)).trans hc1_
          replace hc2_ := (HB.out.cell (World.block_lt_of_cell? w _ hc2_)).trans hc2_
          have pd1 : decide ((j : Int) < (s.length : Int)) = true := decide_eq_true p2; have pd2 : decide (j < s.length) = true := decide_eq_true hlt
          have HLE : Aside0 (((s.take j).map (rdOf ByteArray.empty l1)).length + 1 ≤ 100) := ⟨by simp; omega⟩
          have hw : wrap64 ((j : Int) + 1) = ((j + 1 : Nat) : Int) := by unfold wrap64; omega
          have HMS : Aside0 (s.length - (j + 1) < s.length - j) := ⟨by omega⟩
          have hxx : 0 ≤ s[j] ∧ s[j] < (l1.length : Int) := ⟨hx0, hx1⟩
          have pd3 : decide (s[j] < (l1.length : Int)) = true := decide_eq_true hx1; have pd4 : decide (0 ≤ s[j]) = true := decide_eq_true hx0
          generalize s[j] = x at *
          generalize (s.take j).map (rdOf ByteArray.empty l1) = xs at *
          generalize rdOf ByteArray.empty l1 x = nmx at *
          clear HS
          go_wp2_with ((with_reducible refine gate_builtin (b := .append) (xs := #[.tmp 38, .tmp 43]) rfl ?_); at_builtin; refine Kd.R_append Kd.string (w0 := w) w.heap.size rfl (.tmp 38) (.tmp 43) 24 9 (.string ⟨#[]⟩) 16 rfl Tryd.underlying24 info9 rfl (by decide) (by omega) _ xs nmx [.string nmx] (fun _ => True) (fun _ => False) rfl rfl ?aP (fun _ hk => hk.elim) ?aF ?aO ?aB ?aS ?aL ?_; (case aP => exact rfl); (case aB => exact (by repeat (first | (with_reducible first | exact HB.out | apply below_alloc | apply pw_below_drewN | apply below_drew1) | exact HB.out))); (case aF => exact (fun _ _ => trivial)); (case aO => exact (by (with_reducible repeat (first | apply Kd.R_alloc | apply Kd.R_drewN | apply Kd.R_drew)); exact HO.out)); (case aS => exact (below_size (by repeat (first | (with_reducible first | exact HB.out | apply below_alloc | apply pw_below_drewN | apply below_drew1) | exact HB.out)))); (case aL => have := HLE.out; omega); intro v w2 ho hb hg hat; clear HO HB; have HO := Aside0.mk ho; have HB := Aside0.mk hb; clear ho hb hg hat)
          go_roundw
          case rel => exact ⟨j + 1, by omega, rfl, ⟨by rw [HTK.out]; exact HO.out⟩, HB⟩
          case measure => have := HMS.out; simp only [RowKit.intOf]; omega
        · obtain rfl : j = s.length := by omega
          have HO2 : Aside0 (Kd.R Kd.string 9 wr w.heap.size (fun _ => True) u8 PK) := ⟨by have := HO.out; rw [HPK.out] at this; exact this⟩
          have hpk0 : PK ≠ [] := fun e => by have h1 := HPL.out; rw [e] at h1; exact HS0.out (List.eq_nil_of_length_eq_zero h1.symm)
          obtain ⟨g, c, hv, hcap, hgl, hcl⟩ := strs_cells HO2.out hpk0
          subst hv
          have hj := HJ.out
          have HJN : Aside0 (Calls Tryd.prog 48 #[.slice (some ⟨g, 0, none⟩) PK.length c, .string ⟨#[44, 32]⟩] wr fun e w' => e = .returned (.string ⟨TL.toArray⟩) ∧ Below wr.heap.size wr w') := ⟨by have J := Sh.strings_Join g 0 c PK ⟨#[44, 32]⟩ wr hcl hgl (by have := HPL.out; omega) hcap (by show (Lib.join (PK.map (·.data.toList)) [44, 32]).length ≤ _; rw [HTLJ.out]; exact hj); rw [show Lib.join (PK.map (·.data.toList)) (⟨#[44, 32]⟩ : ByteArray).data.toList = TL from HTLJ.out] at J; exact J⟩
          have r1 := big_no (show HDX.size + 1 ≤ 1000000000000000 by have := HZ.out; omega)
          have e3 : (HDX ++ (⟨#[32]⟩ : ByteArray)).size = HDX.size + 1 := rule_Text.app_size _ _
          have r2 := big_no (show (HDX ++ (⟨#[32]⟩ : ByteArray)).size + TL.length ≤ 1000000000000000 by have := HZ.out; omega)
          have r3 := big_no (show (HDX ++ (⟨#[32]⟩ : ByteArray)).size + (⟨TL.toArray⟩ : ByteArray).size ≤ 1000000000000000 by rw [hsz.out]; have := HZ.out; omega)
          have r4 := big_no (show (HDX.size + 1) + TL.length ≤ 1000000000000000 by have := HZ.out; omega)
          have r5 := big_no (show (HDX.size + 1) + (⟨TL.toArray⟩ : ByteArray).size ≤ 1000000000000000 by rw [hsz.out]; have := HZ.out; omega)
          obtain ⟨r4a, r4b, r4c, r4d⟩ := r4; obtain ⟨r5a, r5b, r5c, r5d⟩ := r5
          obtain ⟨r1a, r1b, r1c, r1d⟩ := r1; obtain ⟨r2a, r2b, r2c, r2d⟩ := r2; obtain ⟨r3a, r3b, r3c, r3d⟩ := r3
          have pd1 : decide ((s.length : Int) < (s.length : Int)) = false := decide_eq_false (by omega)
          clear e3 hj hcl hcap hgl hpk0 hlt
          go_wp2_with (go_at_call 48; (with_reducible refine HJN.out.mono ?_); rintro e w3 ⟨rfl, hb3⟩; have HB3 := Aside0.mk (HB.out.trans (hb3.mono HB.out.size)); clear hb3)
          go_ret2
          refine ⟨?_, HB3.out⟩
          rw [HTX.out, HHD2.out]
          first | rfl | (congr 3; rfl)
  · by_cases hk : 0 < k
    · have hkd : decide (0 < k) = true := decide_eq_true hk; have hkd' : decide (k > 0) = true := hkd
      have q3 := big_no (show 3 + (((⟨#[32]⟩ : ByteArray) ++ NK) ++ (⟨#[32, 111, 102]⟩ : ByteArray)).size ≤ 1000000000000000 by omega)
      obtain ⟨q1a, q1b, q1c, q1d⟩ := q1; obtain ⟨q2a, q2b, q2c, q2d⟩ := q2; obtain ⟨q3a, q3b, q3c, q3d⟩ := q3
      have HHD2 : Aside0 (HDR = ((⟨#[102, 101, 119]⟩ : ByteArray) ++ (((⟨#[32]⟩ : ByteArray) ++ NK) ++ (⟨#[32, 111, 102]⟩ : ByteArray)))) := ⟨by rw [HHD.out, if_pos hk]; rfl⟩
      have hz : ((⟨#[102, 101, 119]⟩ : ByteArray) ++ (((⟨#[32]⟩ : ByteArray) ++ NK) ++ (⟨#[32, 111, 102]⟩ : ByteArray))).size ≤ 100 := by rw [rule_Text.app_size, e2, e1]; have : (⟨#[102, 101, 119]⟩ : ByteArray).size = 3 := rfl; omega
      have HZ := Aside0.mk hz
      clear e1 e2 hk HHD hz
      go_enter Tryd.func28, Tryd.ntmps28
      go_wp2_with (first | (go_at_call 33; (with_reducible refine (rule_Check.calls m _ _ _ _ _ _ 0 _ (Kd.C_alloc HR0.out _) HC0.out HCHK.out).mono ?_); rintro e w1 ⟨rfl, hb1⟩; have y1 : (w.alloc (.cells #[.int .i64 4, .int .i64 k, .slice A0_2 s.length c0_2] 53)).heap[w.heap.size]? = some (.cells #[.int .i64 4, .int .i64 k, .slice A0_2 s.length c0_2] 53) := heap_alloc_new w _; have yB : Below w.heap.size w (w.alloc (.cells #[.int .i64 4, .int .i64 k, .slice A0_2 s.length c0_2] 53)) := (Below.refl _ w).alloc (Nat.le_refl _) _; have BK := Aside0.mk (blk_alloc ((hb1.block _ (blk_lt y1)).trans y1) (.cells #[.string ⟨#[]⟩, .string ⟨#[97, 112, 97, 114, 116]⟩, .string ⟨#[115, 97, 109, 101]⟩, .string ⟨#[109, 111, 115, 116]⟩, .string ⟨#[102, 101, 119]⟩, .string ⟨#[109, 97, 110, 121]⟩] 80)); have HB1 := Aside0.mk ((yB.trans (hb1.mono yB.size)).alloc (yB.trans (hb1.mono yB.size)).size (.cells #[.string ⟨#[]⟩, .string ⟨#[97, 112, 97, 114, 116]⟩, .string ⟨#[115, 97, 109, 101]⟩, .string ⟨#[109, 111, 115, 116]⟩, .string ⟨#[102, 101, 119]⟩, .string ⟨#[109, 97, 110, 121]⟩] 80)); have HT1 := Aside0.mk (tab_below HTW.out ((yB.trans (hb1.mono yB.size)).alloc (yB.trans (hb1.mono yB.size)).size (.cells #[.string ⟨#[]⟩, .string ⟨#[97, 112, 97, 114, 116]⟩, .string ⟨#[115, 97, 109, 101]⟩, .string ⟨#[109, 111, 115, 116]⟩, .string ⟨#[102, 101, 119]⟩, .string ⟨#[109, 97, 110, 121]⟩] 80))); have z0 : (w1.alloc (.cells #[.string ⟨#[]⟩, .string ⟨#[97, 112, 97, 114, 116]⟩, .string ⟨#[115, 97, 109, 101]⟩, .string ⟨#[109, 111, 115, 116]⟩, .string ⟨#[102, 101, 119]⟩, .string ⟨#[109, 97, 110, 121]⟩] 80)).cell? ⟨w.heap.size, 0, none⟩ = some (.int .i64 4) := (blk_cell BK.out 0).trans rfl; have z1 : (w1.alloc (.cells #[.string ⟨#[]⟩, .string ⟨#[97, 112, 97, 114, 116]⟩, .string ⟨#[115, 97, 109, 101]⟩, .string ⟨#[109, 111, 115, 116]⟩, .string ⟨#[102, 101, 119]⟩, .string ⟨#[109, 97, 110, 121]⟩] 80)).cell? ⟨w.heap.size, 1, none⟩ = some (.int .i64 k) := (blk_cell BK.out 1).trans rfl; have z2 : (w1.alloc (.cells #[.string ⟨#[]⟩, .string ⟨#[97, 112, 97, 114, 116]⟩, .string ⟨#[115, 97, 109, 101]⟩, .string ⟨#[109, 111, 115, 116]⟩, .string ⟨#[102, 101, 119]⟩, .string ⟨#[109, 97, 110, 121]⟩] 80)).cell? ⟨w.heap.size, 2, none⟩ = some (.slice A0_2 s.length c0_2) := (blk_cell BK.out 2).trans rfl; clear y1 yB hb1) | (go_at_call 47; (with_reducible refine (HIT.out _ HT1.out).mono ?_); rintro e w2 ⟨rfl, hb2⟩; replace BK := Aside0.mk ((hb2.block _ (blk_lt BK.out)).trans BK.out); replace HB1 := Aside0.mk (HB1.out.trans (hb2.mono HB1.out.size)); replace z2 : w2.cell? ⟨w.heap.size, 2, none⟩ = some (.slice A0_2 s.length c0_2) := (blk_cell BK.out 2).trans rfl; clear hb2 z0 z1))
      clear z2 BK HT1 HIT HTW q1a q1b q1c q1d q2a q2b q2c q2d q3a q3b q3c q3d
      generalize ((⟨#[102, 101, 119]⟩ : ByteArray) ++ (((⟨#[32]⟩ : ByteArray) ++ NK) ++ (⟨#[32, 111, 102]⟩ : ByteArray))) = HDX at *
      go_loopw [8, 34] (fun v8 v34 wr => ∃ j : Nat, j ≤ s.length ∧ v34 = .int .i64 (j : Int) ∧ Aside0 (Kd.R Kd.string 9 wr w.heap.size (fun _ => True) v8 ((s.take j).map (rdOf ByteArray.empty l1))) ∧ Aside0 (Below w.heap.size w wr)) (fun _ v34 _ => s.length - (RowKit.intOf v34).toNat)
      case atStart => exact ⟨0, Nat.zero_le _, rfl, ⟨Kd.R_nil _ _ _ _ _⟩, HB1⟩
      case round =>
        clear HB1
        obtain ⟨j, hj, rfl, HO, HB⟩ := hrel
        by_cases hlt : j < s.length
        · obtain ⟨hx0, hx1⟩ := HS.out s[j] (List.getElem_mem hlt)
          have HTK := Aside0.mk (take_snoc hlt (rdOf ByteArray.empty l1))
          have erd : rd s (j : Int) = s[j] := by unfold rd; rw [Int.toNat_natCast, List.getD_eq_getElem?_getD, List.getElem?_eq_getElem hlt]; rfl
          have p1 : 0 ≤ (j : Int) := by omega
          have p2 : (j : Int) < (s.length : Int) := by omega
          obtain ⟨ad1, ee1, hc1_⟩ := Kd.at_int HR0.out (j : Int) p1 p2
          obtain ⟨ad2, ee2, hc2_⟩ := Kd.at_string HR1.out s[j] hx0 hx1
          cases ee1
          cases ee2
          rw [erd, Int.toNat_natCast] at hc1_
          replace hc1_ := (HB.out.cell (World.block_lt_of_cell? w _ hc1_)).trans hc1_
          replace hc2_ := (HB.out.cell (World.block_lt_of_cell? w _ hc2_)).trans hc2_
          have pd1 : decide ((j : Int) < (s.length : Int)) = true := decide_eq_true p2; have pd2 : decide (j < s.length) = true := decide_eq_true hlt
          have HLE : Aside0 (((s.take j).map (rdOf ByteArray.empty l1)).length + 1 ≤ 100) := ⟨by simp; omega⟩
          have hw : wrap64 ((j : Int) + 1) = ((j + 1 : Nat) : Int) := by unfold wrap64; omega
          have HMS : Aside0 (s.length - (j + 1) < s.length - j) := ⟨by omega⟩
          have hxx : 0 ≤ s[j] ∧ s[j] < (l1.length : Int) := ⟨hx0, hx1⟩
          have pd3 : decide (s[j] < (l1.length : Int)) = true := decide_eq_true hx1; have pd4 : decide (0 ≤ s[j]) = true := decide_eq_true hx0
          generalize s[j] = x at *
          generalize (s.take j).map (rdOf ByteArray.empty l1) = xs at *
          generalize rdOf ByteArray.empty l1 x = nmx at *
          clear HS
          go_wp2_with ((with_reducible refine gate_builtin (b := .append) (xs := #[.tmp 38, .tmp 43]) rfl ?_); at_builtin; refine Kd.R_append Kd.string (w0 := w) w.heap.size rfl (.tmp 38) (.tmp 43) 24 9 (.string ⟨#[]⟩) 16 rfl Tryd.underlying24 info9 rfl (by decide) (by omega) _ xs nmx [.string nmx] (fun _ => True) (fun _ => False) rfl rfl ?aP (fun _ hk => hk.elim) ?aF ?aO ?aB ?aS ?aL ?_; (case aP => exact rfl); (case aB => exact (by repeat (first | (with_reducible first | exact HB.out | apply below_alloc | apply pw_below_drewN | apply below_drew1) | exact HB.out))); (case aF => exact (fun _ _ => trivial)); (case aO => exact (by (with_reducible repeat (first | apply Kd.R_alloc | apply Kd.R_drewN | apply Kd.R_drew)); exact HO.out)); (case aS => exact (below_size (by repeat (first | (with_reducible first | exact HB.out | apply below_alloc | apply pw_below_drewN | apply below_drew1) | exact HB.out)))); (case aL => have := HLE.out; omega); intro v w2 ho hb hg hat; clear HO HB; have HO := Aside0.mk ho; have HB := Aside0.mk hb; clear ho hb hg hat)
          go_roundw
          case rel => exact ⟨j + 1, by omega, rfl, ⟨by rw [HTK.out]; exact HO.out⟩, HB⟩
          case measure => have := HMS.out; simp only [RowKit.intOf]; omega
        · obtain rfl : j = s.length := by omega
          have HO2 : Aside0 (Kd.R Kd.string 9 wr w.heap.size (fun _ => True) u8 PK) := ⟨by have := HO.out; rw [HPK.out] at this; exact this⟩
          have hpk0 : PK ≠ [] := fun e => by have h1 := HPL.out; rw [e] at h1; exact HS0.out (List.eq_nil_of_length_eq_zero h1.symm)
          obtain ⟨g, c, hv, hcap, hgl, hcl⟩ := strs_cells HO2.out hpk0
          subst hv
          have hj := HJ.out
          have HJN : Aside0 (Calls Tryd.prog 48 #[.slice (some ⟨g, 0, none⟩) PK.length c, .string ⟨#[44, 32]⟩] wr fun e w' => e = .returned (.string ⟨TL.toArray⟩) ∧ Below wr.heap.size wr w') := ⟨by have J := Sh.strings_Join g 0 c PK ⟨#[44, 32]⟩ wr hcl hgl (by have := HPL.out; omega) hcap (by show (Lib.join (PK.map (·.data.toList)) [44, 32]).length ≤ _; rw [HTLJ.out]; exact hj); rw [show Lib.join (PK.map (·.data.toList)) (⟨#[44, 32]⟩ : ByteArray).data.toList = TL from HTLJ.out] at J; exact J⟩
          have r1 := big_no (show HDX.size + 1 ≤ 1000000000000000 by have := HZ.out; omega)
          have e3 : (HDX ++ (⟨#[32]⟩ : ByteArray)).size = HDX.size + 1 := rule_Text.app_size _ _
          have r2 := big_no (show (HDX ++ (⟨#[32]⟩ : ByteArray)).size + TL.length ≤ 1000000000000000 by have := HZ.out; omega)
          have r3 := big_no (show (HDX ++ (⟨#[32]⟩ : ByteArray)).size + (⟨TL.toArray⟩ : ByteArray).size ≤ 1000000000000000 by rw [hsz.out]; have := HZ.out; omega)
          have r4 := big_no (show (HDX.size + 1) + TL.length ≤ 1000000000000000 by have := HZ.out; omega)
          have r5 := big_no (show (HDX.size + 1) + (⟨TL.toArray⟩ : ByteArray).size ≤ 1000000000000000 by rw [hsz.out]; have := HZ.out; omega)
          obtain ⟨r4a, r4b, r4c, r4d⟩ := r4; obtain ⟨r5a, r5b, r5c, r5d⟩ := r5
          obtain ⟨r1a, r1b, r1c, r1d⟩ := r1; obtain ⟨r2a, r2b, r2c, r2d⟩ := r2; obtain ⟨r3a, r3b, r3c, r3d⟩ := r3
          have pd1 : decide ((s.length : Int) < (s.length : Int)) = false := decide_eq_false (by omega)
          clear e3 hj hcl hcap hgl hpk0 hlt
          go_wp2_with (go_at_call 48; (with_reducible refine HJN.out.mono ?_); rintro e w3 ⟨rfl, hb3⟩; have HB3 := Aside0.mk (HB.out.trans (hb3.mono HB.out.size)); clear hb3)
          go_ret2
          refine ⟨?_, HB3.out⟩
          rw [HTX.out, HHD2.out]
          first | rfl | (congr 3; rfl)
    · have hkd : decide (0 < k) = false := decide_eq_false hk; have hkd' : decide (k > 0) = false := hkd
      have HHD2 : Aside0 (HDR = (⟨#[102, 101, 119]⟩ : ByteArray)) := ⟨by rw [HHD.out, if_neg hk]; rfl⟩
      have hz : (⟨#[102, 101, 119]⟩ : ByteArray).size ≤ 100 := by decide
      clear q1 q2
      have HZ := Aside0.mk hz
      clear e1 e2 hk HHD hz
      go_enter Tryd.func28, Tryd.ntmps28
      go_wp2_with (first | (go_at_call 33; (with_reducible refine (rule_Check.calls m _ _ _ _ _ _ 0 _ (Kd.C_alloc HR0.out _) HC0.out HCHK.out).mono ?_); rintro e w1 ⟨rfl, hb1⟩; have y1 : (w.alloc (.cells #[.int .i64 4, .int .i64 k, .slice A0_2 s.length c0_2] 53)).heap[w.heap.size]? = some (.cells #[.int .i64 4, .int .i64 k, .slice A0_2 s.length c0_2] 53) := heap_alloc_new w _; have yB : Below w.heap.size w (w.alloc (.cells #[.int .i64 4, .int .i64 k, .slice A0_2 s.length c0_2] 53)) := (Below.refl _ w).alloc (Nat.le_refl _) _; have BK := Aside0.mk (blk_alloc ((hb1.block _ (blk_lt y1)).trans y1) (.cells #[.string ⟨#[]⟩, .string ⟨#[97, 112, 97, 114, 116]⟩, .string ⟨#[115, 97, 109, 101]⟩, .string ⟨#[109, 111, 115, 116]⟩, .string ⟨#[102, 101, 119]⟩, .string ⟨#[109, 97, 110, 121]⟩] 80)); have HB1 := Aside0.mk ((yB.trans (hb1.mono yB.size)).alloc (yB.trans (hb1.mono yB.size)).size (.cells #[.string ⟨#[]⟩, .string ⟨#[97, 112, 97, 114, 116]⟩, .string ⟨#[115, 97, 109, 101]⟩, .string ⟨#[109, 111, 115, 116]⟩, .string ⟨#[102, 101, 119]⟩, .string ⟨#[109, 97, 110, 121]⟩] 80)); have HT1 := Aside0.mk (tab_below HTW.out ((yB.trans (hb1.mono yB.size)).alloc (yB.trans (hb1.mono yB.size)).size (.cells #[.string ⟨#[]⟩, .string ⟨#[97, 112, 97, 114, 116]⟩, .string ⟨#[115, 97, 109, 101]⟩, .string ⟨#[109, 111, 115, 116]⟩, .string ⟨#[102, 101, 119]⟩, .string ⟨#[109, 97, 110, 121]⟩] 80))); have z0 : (w1.alloc (.cells #[.string ⟨#[]⟩, .string ⟨#[97, 112, 97, 114, 116]⟩, .string ⟨#[115, 97, 109, 101]⟩, .string ⟨#[109, 111, 115, 116]⟩, .string ⟨#[102, 101, 119]⟩, .string ⟨#[109, 97, 110, 121]⟩] 80)).cell? ⟨w.heap.size, 0, none⟩ = some (.int .i64 4) := (blk_cell BK.out 0).trans rfl; have z1 : (w1.alloc (.cells #[.string ⟨#[]⟩, .string ⟨#[97, 112, 97, 114, 116]⟩, .string ⟨#[115, 97, 109, 101]⟩, .string ⟨#[109, 111, 115, 116]⟩, .string ⟨#[102, 101, 119]⟩, .string ⟨#[109, 97, 110, 121]⟩] 80)).cell? ⟨w.heap.size, 1, none⟩ = some (.int .i64 k) := (blk_cell BK.out 1).trans rfl; have z2 : (w1.alloc (.cells #[.string ⟨#[]⟩, .string ⟨#[97, 112, 97, 114, 116]⟩, .string ⟨#[115, 97, 109, 101]⟩, .string ⟨#[109, 111, 115, 116]⟩, .string ⟨#[102, 101, 119]⟩, .string ⟨#[109, 97, 110, 121]⟩] 80)).cell? ⟨w.heap.size, 2, none⟩ = some (.slice A0_2 s.length c0_2) := (blk_cell BK.out 2).trans rfl; clear y1 yB hb1))
      clear z2 BK HT1 HIT HTW z0 z1
      generalize (⟨#[102, 101, 119]⟩ : ByteArray) = HDX at *
      go_loopw [8, 34] (fun v8 v34 wr => ∃ j : Nat, j ≤ s.length ∧ v34 = .int .i64 (j : Int) ∧ Aside0 (Kd.R Kd.string 9 wr w.heap.size (fun _ => True) v8 ((s.take j).map (rdOf ByteArray.empty l1))) ∧ Aside0 (Below w.heap.size w wr)) (fun _ v34 _ => s.length - (RowKit.intOf v34).toNat)
      case atStart => exact ⟨0, Nat.zero_le _, rfl, ⟨Kd.R_nil _ _ _ _ _⟩, HB1⟩
      case round =>
        clear HB1
        obtain ⟨j, hj, rfl, HO, HB⟩ := hrel
        by_cases hlt : j < s.length
        · obtain ⟨hx0, hx1⟩ := HS.out s[j] (List.getElem_mem hlt)
          have HTK := Aside0.mk (take_snoc hlt (rdOf ByteArray.empty l1))
          have erd : rd s (j : Int) = s[j] := by unfold rd; rw [Int.toNat_natCast, List.getD_eq_getElem?_getD, List.getElem?_eq_getElem hlt]; rfl
          have p1 : 0 ≤ (j : Int) := by omega
          have p2 : (j : Int) < (s.length : Int) := by omega
          obtain ⟨ad1, ee1, hc1_⟩ := Kd.at_int HR0.out (j : Int) p1 p2
          obtain ⟨ad2, ee2, hc2_⟩ := Kd.at_string HR1.out s[j] hx0 hx1
          cases ee1
          cases ee2
          rw [erd, Int.toNat_natCast] at hc1_
          replace hc1_ := (HB.out.cell (World.block_lt_of_cell? w _ hc1_)).trans hc1_
          replace hc2_ := (HB.out.cell (World.block_lt_of_cell? w _ hc2_)).trans hc2_
          have pd1 : decide ((j : Int) < (s.length : Int)) = true := decide_eq_true p2; have pd2 : decide (j < s.length) = true := decide_eq_true hlt
          have HLE : Aside0 (((s.take j).map (rdOf ByteArray.empty l1)).length + 1 ≤ 100) := ⟨by simp; omega⟩
          have hw : wrap64 ((j : Int) + 1) = ((j + 1 : Nat) : Int) := by unfold wrap64; omega
          have HMS : Aside0 (s.length - (j + 1) < s.length - j) := ⟨by omega⟩
          have hxx : 0 ≤ s[j] ∧ s[j] < (l1.length : Int) := ⟨hx0, hx1⟩
          have pd3 : decide (s[j] < (l1.length : Int)) = true := decide_eq_true hx1; have pd4 : decide (0 ≤ s[j]) = true := decide_eq_true hx0
          generalize s[j] = x at *
          generalize (s.take j).map (rdOf ByteArray.empty l1) = xs at *
          generalize rdOf ByteArray.empty l1 x = nmx at *
          clear HS
          go_wp2_with ((with_reducible refine gate_builtin (b := .append) (xs := #[.tmp 38, .tmp 43]) rfl ?_); at_builtin; refine Kd.R_append Kd.string (w0 := w) w.heap.size rfl (.tmp 38) (.tmp 43) 24 9 (.string ⟨#[]⟩) 16 rfl Tryd.underlying24 info9 rfl (by decide) (by omega) _ xs nmx [.string nmx] (fun _ => True) (fun _ => False) rfl rfl ?aP (fun _ hk => hk.elim) ?aF ?aO ?aB ?aS ?aL ?_; (case aP => exact rfl); (case aB => exact (by repeat (first | (with_reducible first | exact HB.out | apply below_alloc | apply pw_below_drewN | apply below_drew1) | exact HB.out))); (case aF => exact (fun _ _ => trivial)); (case aO => exact (by (with_reducible repeat (first | apply Kd.R_alloc | apply Kd.R_drewN | apply Kd.R_drew)); exact HO.out)); (case aS => exact (below_size (by repeat (first | (with_reducible first | exact HB.out | apply below_alloc | apply pw_below_drewN | apply below_drew1) | exact HB.out)))); (case aL => have := HLE.out; omega); intro v w2 ho hb hg hat; clear HO HB; have HO := Aside0.mk ho; have HB := Aside0.mk hb; clear ho hb hg hat)
          go_roundw
          case rel => exact ⟨j + 1, by omega, rfl, ⟨by rw [HTK.out]; exact HO.out⟩, HB⟩
          case measure => have := HMS.out; simp only [RowKit.intOf]; omega
        · obtain rfl : j = s.length := by omega
          have HO2 : Aside0 (Kd.R Kd.string 9 wr w.heap.size (fun _ => True) u8 PK) := ⟨by have := HO.out; rw [HPK.out] at this; exact this⟩
          have hpk0 : PK ≠ [] := fun e => by have h1 := HPL.out; rw [e] at h1; exact HS0.out (List.eq_nil_of_length_eq_zero h1.symm)
          obtain ⟨g, c, hv, hcap, hgl, hcl⟩ := strs_cells HO2.out hpk0
          subst hv
          have hj := HJ.out
          have HJN : Aside0 (Calls Tryd.prog 48 #[.slice (some ⟨g, 0, none⟩) PK.length c, .string ⟨#[44, 32]⟩] wr fun e w' => e = .returned (.string ⟨TL.toArray⟩) ∧ Below wr.heap.size wr w') := ⟨by have J := Sh.strings_Join g 0 c PK ⟨#[44, 32]⟩ wr hcl hgl (by have := HPL.out; omega) hcap (by show (Lib.join (PK.map (·.data.toList)) [44, 32]).length ≤ _; rw [HTLJ.out]; exact hj); rw [show Lib.join (PK.map (·.data.toList)) (⟨#[44, 32]⟩ : ByteArray).data.toList = TL from HTLJ.out] at J; exact J⟩
          have r1 := big_no (show HDX.size + 1 ≤ 1000000000000000 by have := HZ.out; omega)
          have e3 : (HDX ++ (⟨#[32]⟩ : ByteArray)).size = HDX.size + 1 := rule_Text.app_size _ _
          have r2 := big_no (show (HDX ++ (⟨#[32]⟩ : ByteArray)).size + TL.length ≤ 1000000000000000 by have := HZ.out; omega)
          have r3 := big_no (show (HDX ++ (⟨#[32]⟩ : ByteArray)).size + (⟨TL.toArray⟩ : ByteArray).size ≤ 1000000000000000 by rw [hsz.out]; have := HZ.out; omega)
          have r4 := big_no (show (HDX.size + 1) + TL.length ≤ 1000000000000000 by have := HZ.out; omega)
          have r5 := big_no (show (HDX.size + 1) + (⟨TL.toArray⟩ : ByteArray).size ≤ 1000000000000000 by rw [hsz.out]; have := HZ.out; omega)
          obtain ⟨r4a, r4b, r4c, r4d⟩ := r4; obtain ⟨r5a, r5b, r5c, r5d⟩ := r5
          obtain ⟨r1a, r1b, r1c, r1d⟩ := r1; obtain ⟨r2a, r2b, r2c, r2d⟩ := r2; obtain ⟨r3a, r3b, r3c, r3d⟩ := r3
          have pd1 : decide ((s.length : Int) < (s.length : Int)) = false := decide_eq_false (by omega)
          clear e3 hj hcl hcap hgl hpk0 hlt
          go_wp2_with (go_at_call 48; (with_reducible refine HJN.out.mono ?_); rintro e w3 ⟨rfl, hb3⟩; have HB3 := Aside0.mk (HB.out.trans (hb3.mono HB.out.size)); clear hb3)
          go_ret2
          refine ⟨?_, HB3.out⟩
          rw [HTX.out, HHD2.out]
          first | rfl | (congr 3; rfl)
  · by_cases hk : 0 < k
    · have hkd : decide (0 < k) = true := decide_eq_true hk; have hkd' : decide (k > 0) = true := hkd
      have q3 := big_no (show 4 + (((⟨#[32]⟩ : ByteArray) ++ NK) ++ (⟨#[32, 111, 102]⟩ : ByteArray)).size ≤ 1000000000000000 by omega)
      obtain ⟨q1a, q1b, q1c, q1d⟩ := q1; obtain ⟨q2a, q2b, q2c, q2d⟩ := q2; obtain ⟨q3a, q3b, q3c, q3d⟩ := q3
      have HHD2 : Aside0 (HDR = ((⟨#[109, 97, 110, 121]⟩ : ByteArray) ++ (((⟨#[32]⟩ : ByteArray) ++ NK) ++ (⟨#[32, 111, 102]⟩ : ByteArray)))) := ⟨by rw [HHD.out, if_pos hk]; rfl⟩
      have hz : ((⟨#[109, 97, 110, 121]⟩ : ByteArray) ++ (((⟨#[32]⟩ : ByteArray) ++ NK) ++ (⟨#[32, 111, 102]⟩ : ByteArray))).size ≤ 100 := by rw [rule_Text.app_size, e2, e1]; have : (⟨#[109, 97, 110, 121]⟩ : ByteArray).size = 4 := rfl; omega
      have HZ := Aside0.mk hz
      clear e1 e2 hk HHD hz
      go_enter Tryd.func28, Tryd.ntmps28
      go_wp2_with (first | (go_at_call 33; (with_reducible refine (rule_Check.calls m _ _ _ _ _ _ 0 _ (Kd.C_alloc HR0.out _) HC0.out HCHK.out).mono ?_); rintro e w1 ⟨rfl, hb1⟩; have y1 : (w.alloc (.cells #[.int .i64 5, .int .i64 k, .slice A0_2 s.length c0_2] 53)).heap[w.heap.size]? = some (.cells #[.int .i64 5, .int .i64 k, .slice A0_2 s.length c0_2] 53) := heap_alloc_new w _; have yB : Below w.heap.size w (w.alloc (.cells #[.int .i64 5, .int .i64 k, .slice A0_2 s.length c0_2] 53)) := (Below.refl _ w).alloc (Nat.le_refl _) _; have BK := Aside0.mk (blk_alloc ((hb1.block _ (blk_lt y1)).trans y1) (.cells #[.string ⟨#[]⟩, .string ⟨#[97, 112, 97, 114, 116]⟩, .string ⟨#[115, 97, 109, 101]⟩, .string ⟨#[109, 111, 115, 116]⟩, .string ⟨#[102, 101, 119]⟩, .string ⟨#[109, 97, 110, 121]⟩] 80)); have HB1 := Aside0.mk ((yB.trans (hb1.mono yB.size)).alloc (yB.trans (hb1.mono yB.size)).size (.cells #[.string ⟨#[]⟩, .string ⟨#[97, 112, 97, 114, 116]⟩, .string ⟨#[115, 97, 109, 101]⟩, .string ⟨#[109, 111, 115, 116]⟩, .string ⟨#[102, 101, 119]⟩, .string ⟨#[109, 97, 110, 121]⟩] 80)); have HT1 := Aside0.mk (tab_below HTW.out ((yB.trans (hb1.mono yB.size)).alloc (yB.trans (hb1.mono yB.size)).size (.cells #[.string ⟨#[]⟩, .string ⟨#[97, 112, 97, 114, 116]⟩, .string ⟨#[115, 97, 109, 101]⟩, .string ⟨#[109, 111, 115, 116]⟩, .string ⟨#[102, 101, 119]⟩, .string ⟨#[109, 97, 110, 121]⟩] 80))); have z0 : (w1.alloc (.cells #[.string ⟨#[]⟩, .string ⟨#[97, 112, 97, 114, 116]⟩, .string ⟨#[115, 97, 109, 101]⟩, .string ⟨#[109, 111, 115, 116]⟩, .string ⟨#[102, 101, 119]⟩, .string ⟨#[109, 97, 110, 121]⟩] 80)).cell? ⟨w.heap.size, 0, none⟩ = some (.int .i64 5) := (blk_cell BK.out 0).trans rfl; have z1 : (w1.alloc (.cells #[.string ⟨#[]⟩, .string ⟨#[97, 112, 97, 114, 116]⟩, .string ⟨#[115, 97, 109, 101]⟩, .string ⟨#[109, 111, 115, 116]⟩, .string ⟨#[102, 101, 119]⟩, .string ⟨#[109, 97, 110, 121]⟩] 80)).cell? ⟨w.heap.size, 1, none⟩ = some (.int .i64 k) := (blk_cell BK.out 1).trans rfl; have z2 : (w1.alloc (.cells #[.string ⟨#[]⟩, .string ⟨#[97, 112, 97, 114, 116]⟩, .string ⟨#[115, 97, 109, 101]⟩, .string ⟨#[109, 111, 115, 116]⟩, .string ⟨#[102, 101, 119]⟩, .string ⟨#[109, 97, 110, 121]⟩] 80)).cell? ⟨w.heap.size, 2, none⟩ = some (.slice A0_2 s.length c0_2) := (blk_cell BK.out 2).trans rfl; clear y1 yB hb1) | (go_at_call 47; (with_reducible refine (HIT.out _ HT1.out).mono ?_); rintro e w2 ⟨rfl, hb2⟩; replace BK := Aside0.mk ((hb2.block _ (blk_lt BK.out)).trans BK.out); replace HB1 := Aside0.mk (HB1.out.trans (hb2.mono HB1.out.size)); replace z2 : w2.cell? ⟨w.heap.size, 2, none⟩ = some (.slice A0_2 s.length c0_2) := (blk_cell BK.out 2).trans rfl; clear hb2 z0 z1))
      clear z2 BK HT1 HIT HTW q1a q1b q1c q1d q2a q2b q2c q2d q3a q3b q3c q3d
      generalize ((⟨#[109, 97, 110, 121]⟩ : ByteArray) ++ (((⟨#[32]⟩ : ByteArray) ++ NK) ++ (⟨#[32, 111, 102]⟩ : ByteArray))) = HDX at *
      go_loopw [8, 34] (fun v8 v34 wr => ∃ j : Nat, j ≤ s.length ∧ v34 = .int .i64 (j : Int) ∧ Aside0 (Kd.R Kd.string 9 wr w.heap.size (fun _ => True) v8 ((s.take j).map (rdOf ByteArray.empty l1))) ∧ Aside0 (Below w.heap.size w wr)) (fun _ v34 _ => s.length - (RowKit.intOf v34).toNat)
      case atStart => exact ⟨0, Nat.zero_le _, rfl, ⟨Kd.R_nil _ _ _ _ _⟩, HB1⟩
      case round =>
        clear HB1
        obtain ⟨j, hj, rfl, HO, HB⟩ := hrel
        by_cases hlt : j < s.length
        · obtain ⟨hx0, hx1⟩ := HS.out s[j] (List.getElem_mem hlt)
          have HTK := Aside0.mk (take_snoc hlt (rdOf ByteArray.empty l1))
          have erd : rd s (j : Int) = s[j] := by unfold rd; rw [Int.toNat_natCast, List.getD_eq_getElem?_getD, List.getElem?_eq_getElem hlt]; rfl
          have p1 : 0 ≤ (j : Int) := by omega
          have p2 : (j : Int) < (s.length : Int) := by omega
          obtain ⟨ad1, ee1, hc1_⟩ := Kd.at_int HR0.out (j : Int) p1 p2
          obtain ⟨ad2, ee2, hc2_⟩ := Kd.at_string HR1.out s[j] hx0 hx1
          cases ee1
          cases ee2
          rw [erd, Int.toNat_natCast] at hc1_
          replace hc1_ := (HB.out.cell (World.block_lt_of_cell? w _ hc1_)).trans hc1_
          replace hc2_ := (HB.out.cell (World.block_lt_of_cell? w _ hc2_)).trans hc2_
          have pd1 : decide ((j : Int) < (s.length : Int)) = true := decide_eq_true p2; have pd2 : decide (j < s.length) = true := decide_eq_true hlt
          have HLE : Aside0 (((s.take j).map (rdOf ByteArray.empty l1)).length + 1 ≤ 100) := ⟨by simp; omega⟩
          have hw : wrap64 ((j : Int) + 1) = ((j + 1 : Nat) : Int) := by unfold wrap64; omega
          have HMS : Aside0 (s.length - (j + 1) < s.length - j) := ⟨by omega⟩
          have hxx : 0 ≤ s[j] ∧ s[j] < (l1.length : Int) := ⟨hx0, hx1⟩
          have pd3 : decide (s[j] < (l1.length : Int)) = true := decide_eq_true hx1; have pd4 : decide (0 ≤ s[j]) = true := decide_eq_true hx0
          generalize s[j] = x at *
          generalize (s.take j).map (rdOf ByteArray.empty l1) = xs at *
          generalize rdOf ByteArray.empty l1 x = nmx at *
          clear HS
          go_wp2_with ((with_reducible refine gate_builtin (b := .append) (xs := #[.tmp 38, .tmp 43]) rfl ?_); at_builtin; refine Kd.R_append Kd.string (w0 := w) w.heap.size rfl (.tmp 38) (.tmp 43) 24 9 (.string ⟨#[]⟩) 16 rfl Tryd.underlying24 info9 rfl (by decide) (by omega) _ xs nmx [.string nmx] (fun _ => True) (fun _ => False) rfl rfl ?aP (fun _ hk => hk.elim) ?aF ?aO ?aB ?aS ?aL ?_; (case aP => exact rfl); (case aB => exact (by repeat (first | (with_reducible first | exact HB.out | apply below_alloc | apply pw_below_drewN | apply below_drew1) | exact HB.out))); (case aF => exact (fun _ _ => trivial)); (case aO => exact (by (with_reducible repeat (first | apply Kd.R_alloc | apply Kd.R_drewN | apply Kd.R_drew)); exact HO.out)); (case aS => exact (below_size (by repeat (first | (with_reducible first | exact HB.out | apply below_alloc | apply pw_below_drewN | apply below_drew1) | exact HB.out)))); (case aL => have := HLE.out; omega); intro v w2 ho hb hg hat; clear HO HB; have HO := Aside0.mk ho; have HB := Aside0.mk hb; clear ho hb hg hat)
          go_roundw
          case rel => exact ⟨j + 1, by omega, rfl, ⟨by rw [HTK.out]; exact HO.out⟩, HB⟩
          case measure => have := HMS.out; simp only [RowKit.intOf]; omega
        · obtain rfl : j = s.length := by omega
          have HO2 : Aside0 (Kd.R Kd.string 9 wr w.heap.size (fun _ => True) u8 PK) := ⟨by have := HO.out; rw [HPK.out] at this; exact this⟩
          have hpk0 : PK ≠ [] := fun e => by have h1 := HPL.out; rw [e] at h1; exact HS0.out (List.eq_nil_of_length_eq_zero h1.symm)
          obtain ⟨g, c, hv, hcap, hgl, hcl⟩ := strs_cells HO2.out hpk0
          subst hv
          have hj := HJ.out
          have HJN : Aside0 (Calls Tryd.prog 48 #[.slice (some ⟨g, 0, none⟩) PK.length c, .string ⟨#[44, 32]⟩] wr fun e w' => e = .returned (.string ⟨TL.toArray⟩) ∧ Below wr.heap.size wr w') := ⟨by have J := Sh.strings_Join g 0 c PK ⟨#[44, 32]⟩ wr hcl hgl (by have := HPL.out; omega) hcap (by show (Lib.join (PK.map (·.data.toList)) [44, 32]).length ≤ _; rw [HTLJ.out]; exact hj); rw [show Lib.join (PK.map (·.data.toList)) (⟨#[44, 32]⟩ : ByteArray).data.toList = TL from HTLJ.out] at J; exact J⟩
          have r1 := big_no (show HDX.size + 1 ≤ 1000000000000000 by have := HZ.out; omega)
          have e3 : (HDX ++ (⟨#[32]⟩ : ByteArray)).size = HDX.size + 1 := rule_Text.app_size _ _
          have r2 := big_no (show (HDX ++ (⟨#[32]⟩ : ByteArray)).size + TL.length ≤ 1000000000000000 by have := HZ.out; omega)
          have r3 := big_no (show (HDX ++ (⟨#[32]⟩ : ByteArray)).size + (⟨TL.toArray⟩ : ByteArray).size ≤ 1000000000000000 by rw [hsz.out]; have := HZ.out; omega)
          have r4 := big_no (show (HDX.size + 1) + TL.length ≤ 1000000000000000 by have := HZ.out; omega)
          have r5 := big_no (show (HDX.size + 1) + (⟨TL.toArray⟩ : ByteArray).size ≤ 1000000000000000 by rw [hsz.out]; have := HZ.out; omega)
          obtain ⟨r4a, r4b, r4c, r4d⟩ := r4; obtain ⟨r5a, r5b, r5c, r5d⟩ := r5
          obtain ⟨r1a, r1b, r1c, r1d⟩ := r1; obtain ⟨r2a, r2b, r2c, r2d⟩ := r2; obtain ⟨r3a, r3b, r3c, r3d⟩ := r3
          have pd1 : decide ((s.length : Int) < (s.length : Int)) = false := decide_eq_false (by omega)
          clear e3 hj hcl hcap hgl hpk0 hlt
          go_wp2_with (go_at_call 48; (with_reducible refine HJN.out.mono ?_); rintro e w3 ⟨rfl, hb3⟩; have HB3 := Aside0.mk (HB.out.trans (hb3.mono HB.out.size)); clear hb3)
          go_ret2
          refine ⟨?_, HB3.out⟩
          rw [HTX.out, HHD2.out]
          first | rfl | (congr 3; rfl)
    · have hkd : decide (0 < k) = false := decide_eq_false hk; have hkd' : decide (k > 0) = false := hkd
      have HHD2 : Aside0 (HDR = (⟨#[109, 97, 110, 121]⟩ : ByteArray)) := ⟨by rw [HHD.out, if_neg hk]; rfl⟩
      have hz : (⟨#[109, 97, 110, 121]⟩ : ByteArray).size ≤ 100 := by decide
      clear q1 q2
      have HZ := Aside0.mk hz
      clear e1 e2 hk HHD hz
      go_enter Tryd.func28, Tryd.ntmps28
      go_wp2_with (first | (go_at_call 33; (with_reducible refine (rule_Check.calls m _ _ _ _ _ _ 0 _ (Kd.C_alloc HR0.out _) HC0.out HCHK.out).mono ?_); rintro e w1 ⟨rfl, hb1⟩; have y1 : (w.alloc (.cells #[.int .i64 5, .int .i64 k, .slice A0_2 s.length c0_2] 53)).heap[w.heap.size]? = some (.cells #[.int .i64 5, .int .i64 k, .slice A0_2 s.length c0_2] 53) := heap_alloc_new w _; have yB : Below w.heap.size w (w.alloc (.cells #[.int .i64 5, .int .i64 k, .slice A0_2 s.length c0_2] 53)) := (Below.refl _ w).alloc (Nat.le_refl _) _; have BK := Aside0.mk (blk_alloc ((hb1.block _ (blk_lt y1)).trans y1) (.cells #[.string ⟨#[]⟩, .string ⟨#[97, 112, 97, 114, 116]⟩, .string ⟨#[115, 97, 109, 101]⟩, .string ⟨#[109, 111, 115, 116]⟩, .string ⟨#[102, 101, 119]⟩, .string ⟨#[109, 97, 110, 121]⟩] 80)); have HB1 := Aside0.mk ((yB.trans (hb1.mono yB.size)).alloc (yB.trans (hb1.mono yB.size)).size (.cells #[.string ⟨#[]⟩, .string ⟨#[97, 112, 97, 114, 116]⟩, .string ⟨#[115, 97, 109, 101]⟩, .string ⟨#[109, 111, 115, 116]⟩, .string ⟨#[102, 101, 119]⟩, .string ⟨#[109, 97, 110, 121]⟩] 80)); have HT1 := Aside0.mk (tab_below HTW.out ((yB.trans (hb1.mono yB.size)).alloc (yB.trans (hb1.mono yB.size)).size (.cells #[.string ⟨#[]⟩, .string ⟨#[97, 112, 97, 114, 116]⟩, .string ⟨#[115, 97, 109, 101]⟩, .string ⟨#[109, 111, 115, 116]⟩, .string ⟨#[102, 101, 119]⟩, .string ⟨#[109, 97, 110, 121]⟩] 80))); have z0 : (w1.alloc (.cells #[.string ⟨#[]⟩, .string ⟨#[97, 112, 97, 114, 116]⟩, .string ⟨#[115, 97, 109, 101]⟩, .string ⟨#[109, 111, 115, 116]⟩, .string ⟨#[102, 101, 119]⟩, .string ⟨#[109, 97, 110, 121]⟩] 80)).cell? ⟨w.heap.size, 0, none⟩ = some (.int .i64 5) := (blk_cell BK.out 0).trans rfl; have z1 : (w1.alloc (.cells #[.string ⟨#[]⟩, .string ⟨#[97, 112, 97, 114, 116]⟩, .string ⟨#[115, 97, 109, 101]⟩, .string ⟨#[109, 111, 115, 116]⟩, .string ⟨#[102, 101, 119]⟩, .string ⟨#[109, 97, 110, 121]⟩] 80)).cell? ⟨w.heap.size, 1, none⟩ = some (.int .i64 k) := (blk_cell BK.out 1).trans rfl; have z2 : (w1.alloc (.cells #[.string ⟨#[]⟩, .string ⟨#[97, 112, 97, 114, 116]⟩, .string ⟨#[115, 97, 109, 101]⟩, .string ⟨#[109, 111, 115, 116]⟩, .string ⟨#[102, 101, 119]⟩, .string ⟨#[109, 97, 110, 121]⟩] 80)).cell? ⟨w.heap.size, 2, none⟩ = some (.slice A0_2 s.length c0_2) := (blk_cell BK.out 2).trans rfl; clear y1 yB hb1))
      clear z2 BK HT1 HIT HTW z0 z1
      generalize (⟨#[109, 97, 110, 121]⟩ : ByteArray) = HDX at *
      go_loopw [8, 34] (fun v8 v34 wr => ∃ j : Nat, j ≤ s.length ∧ v34 = .int .i64 (j : Int) ∧ Aside0 (Kd.R Kd.string 9 wr w.heap.size (fun _ => True) v8 ((s.take j).map (rdOf ByteArray.empty l1))) ∧ Aside0 (Below w.heap.size w wr)) (fun _ v34 _ => s.length - (RowKit.intOf v34).toNat)
      case atStart => exact ⟨0, Nat.zero_le _, rfl, ⟨Kd.R_nil _ _ _ _ _⟩, HB1⟩
      case round =>
        clear HB1
        obtain ⟨j, hj, rfl, HO, HB⟩ := hrel
        by_cases hlt : j < s.length
        · obtain ⟨hx0, hx1⟩ := HS.out s[j] (List.getElem_mem hlt)
          have HTK := Aside0.mk (take_snoc hlt (rdOf ByteArray.empty l1))
          have erd : rd s (j : Int) = s[j] := by unfold rd; rw [Int.toNat_natCast, List.getD_eq_getElem?_getD, List.getElem?_eq_getElem hlt]; rfl
          have p1 : 0 ≤ (j : Int) := by omega
          have p2 : (j : Int) < (s.length : Int) := by omega
          obtain ⟨ad1, ee1, hc1_⟩ := Kd.at_int HR0.out (j : Int) p1 p2
          obtain ⟨ad2, ee2, hc2_⟩ := Kd.at_string HR1.out s[j] hx0 hx1
          cases ee1
          cases ee2
          rw [erd, Int.toNat_natCast] at hc1_
          replace hc1_ := (HB.out.cell (World.block_lt_of_cell? w _ hc1_)).trans hc1_
          replace hc2_ := (HB.out.cell (World.block_lt_of_cell? w _ hc2_)).trans hc2_
          have pd1 : decide ((j : Int) < (s.length : Int)) = true := decide_eq_true p2; have pd2 : decide (j < s.length) = true := decide_eq_true hlt
          have HLE : Aside0 (((s.take j).map (rdOf ByteArray.empty l1)).length + 1 ≤ 100) := ⟨by simp; omega⟩
          have hw : wrap64 ((j : Int) + 1) = ((j + 1 : Nat) : Int) := by unfold wrap64; omega
          have HMS : Aside0 (s.length - (j + 1) < s.length - j) := ⟨by omega⟩
          have hxx : 0 ≤ s[j] ∧ s[j] < (l1.length : Int) := ⟨hx0, hx1⟩
          have pd3 : decide (s[j] < (l1.length : Int)) = true := decide_eq_true hx1; have pd4 : decide (0 ≤ s[j]) = true := decide_eq_true hx0
          generalize s[j] = x at *
          generalize (s.take j).map (rdOf ByteArray.empty l1) = xs at *
          generalize rdOf ByteArray.empty l1 x = nmx at *
          clear HS
          go_wp2_with ((with_reducible refine gate_builtin (b := .append) (xs := #[.tmp 38, .tmp 43]) rfl ?_); at_builtin; refine Kd.R_append Kd.string (w0 := w) w.heap.size rfl (.tmp 38) (.tmp 43) 24 9 (.string ⟨#[]⟩) 16 rfl Tryd.underlying24 info9 rfl (by decide) (by omega) _ xs nmx [.string nmx] (fun _ => True) (fun _ => False) rfl rfl ?aP (fun _ hk => hk.elim) ?aF ?aO ?aB ?aS ?aL ?_; (case aP => exact rfl); (case aB => exact (by repeat (first | (with_reducible first | exact HB.out | apply below_alloc | apply pw_below_drewN | apply below_drew1) | exact HB.out))); (case aF => exact (fun _ _ => trivial)); (case aO => exact (by (with_reducible repeat (first | apply Kd.R_alloc | apply Kd.R_drewN | apply Kd.R_drew)); exact HO.out)); (case aS => exact (below_size (by repeat (first | (with_reducible first | exact HB.out | apply below_alloc | apply pw_below_drewN | apply below_drew1) | exact HB.out)))); (case aL => have := HLE.out; omega); intro v w2 ho hb hg hat; clear HO HB; have HO := Aside0.mk ho; have HB := Aside0.mk hb; clear ho hb hg hat)
          go_roundw
          case rel => exact ⟨j + 1, by omega, rfl, ⟨by rw [HTK.out]; exact HO.out⟩, HB⟩
          case measure => have := HMS.out; simp only [RowKit.intOf]; omega
        · obtain rfl : j = s.length := by omega
          have HO2 : Aside0 (Kd.R Kd.string 9 wr w.heap.size (fun _ => True) u8 PK) := ⟨by have := HO.out; rw [HPK.out] at this; exact this⟩
          have hpk0 : PK ≠ [] := fun e => by have h1 := HPL.out; rw [e] at h1; exact HS0.out (List.eq_nil_of_length_eq_zero h1.symm)
          obtain ⟨g, c, hv, hcap, hgl, hcl⟩ := strs_cells HO2.out hpk0
          subst hv
          have hj := HJ.out
          have HJN : Aside0 (Calls Tryd.prog 48 #[.slice (some ⟨g, 0, none⟩) PK.length c, .string ⟨#[44, 32]⟩] wr fun e w' => e = .returned (.string ⟨TL.toArray⟩) ∧ Below wr.heap.size wr w') := ⟨by have J := Sh.strings_Join g 0 c PK ⟨#[44, 32]⟩ wr hcl hgl (by have := HPL.out; omega) hcap (by show (Lib.join (PK.map (·.data.toList)) [44, 32]).length ≤ _; rw [HTLJ.out]; exact hj); rw [show Lib.join (PK.map (·.data.toList)) (⟨#[44, 32]⟩ : ByteArray).data.toList = TL from HTLJ.out] at J; exact J⟩
          have r1 := big_no (show HDX.size + 1 ≤ 1000000000000000 by have := HZ.out; omega)
          have e3 : (HDX ++ (⟨#[32]⟩ : ByteArray)).size = HDX.size + 1 := rule_Text.app_size _ _
          have r2 := big_no (show (HDX ++ (⟨#[32]⟩ : ByteArray)).size + TL.length ≤ 1000000000000000 by have := HZ.out; omega)
          have r3 := big_no (show (HDX ++ (⟨#[32]⟩ : ByteArray)).size + (⟨TL.toArray⟩ : ByteArray).size ≤ 1000000000000000 by rw [hsz.out]; have := HZ.out; omega)
          have r4 := big_no (show (HDX.size + 1) + TL.length ≤ 1000000000000000 by have := HZ.out; omega)
          have r5 := big_no (show (HDX.size + 1) + (⟨TL.toArray⟩ : ByteArray).size ≤ 1000000000000000 by rw [hsz.out]; have := HZ.out; omega)
          obtain ⟨r4a, r4b, r4c, r4d⟩ := r4; obtain ⟨r5a, r5b, r5c, r5d⟩ := r5
          obtain ⟨r1a, r1b, r1c, r1d⟩ := r1; obtain ⟨r2a, r2b, r2c, r2d⟩ := r2; obtain ⟨r3a, r3b, r3c, r3d⟩ := r3
          have pd1 : decide ((s.length : Int) < (s.length : Int)) = false := decide_eq_false (by omega)
          clear e3 hj hcl hcap hgl hpk0 hlt
          go_wp2_with (go_at_call 48; (with_reducible refine HJN.out.mono ?_); rintro e w3 ⟨rfl, hb3⟩; have HB3 := Aside0.mk (HB.out.trans (hb3.mono HB.out.size)); clear hb3)
          go_ret2
          refine ⟨?_, HB3.out⟩
          rw [HTX.out, HHD2.out]
          first | rfl | (congr 3; rfl)
theorem rc_chk_more {n K k : Int} {s : List Int} (h : rc_chk n K k s = true) : s ≠ [] ∧ 0 ≤ k ∧ (k ≤ 999999999 ∨ k ≤ (s.length : Int)) := by
  unfold rc_chk at h
  simp only [Bool.and_eq_true] at h
  have hk := h.2
  unfold rc_kindOk at hk
  by_cases h1 : K = 1 ∨ K = 2
  · rw [if_pos h1, decide_eq_true_iff] at hk
    exact ⟨fun e => by rw [e] at hk; simp at hk, by omega, by omega⟩
  · rw [if_neg h1] at hk
    by_cases h3 : K = 3 ∨ K = 4
    · rw [if_pos h3, decide_eq_true_iff] at hk
      exact ⟨fun e => by rw [e] at hk; simp at hk, by omega, by omega⟩
    · rw [if_neg h3] at hk
      by_cases h5 : K = 5
      · rw [if_pos h5, decide_eq_true_iff] at hk
        exact ⟨fun e => by rw [e] at hk; simp at hk; omega, by omega, .inr (by omega)⟩
      · rw [if_neg h5] at hk; cases hk
set_option maxHeartbeats 2000000 in
theorem rule_Text.bad (K k : Int) (A0_2 : Option Addr) (c0_2 : Nat) (s : List Int) (A1 : Option Addr) (c1 : Nat) (l1 : List ByteArray) (w : World) (hr0 : Kd.C (Kd.int .i64) w A0_2 s.length s) (hc0 : s.length ≤ c0_2) (hr1 : Kd.C Kd.string w A1 l1.length l1) (hc1 : l1.length ≤ c1) (m : Nat) (hchk : rule_Check.f m (l1.length : Int) K k s = some 1) :
    Calls Tryd.prog 28 #[.agg #[.int .i64 K, .int .i64 k, .slice A0_2 s.length c0_2], .slice A1 l1.length c1] w fun e w' => e = .returned (.tuple #[.string ⟨#[]⟩, .int .i64 1]) ∧ Below w.heap.size w w' := by
  have HR0 := Aside0.mk hr0; have HC0 := Aside0.mk hc0; have HCHK := Aside0.mk hchk
  clear hr0 hr1 hc0 hchk
  go_enter Tryd.func28, Tryd.ntmps28
  go_wp2_with (go_at_call 33; (with_reducible refine (rule_Check.calls m _ _ _ _ _ _ 1 _ (Kd.C_alloc HR0.out _) HC0.out HCHK.out).mono ?_); rintro e w1 ⟨rfl, hb1⟩)
  go_ret2
  exact ⟨rfl, ((Below.refl _ w).alloc (Nat.le_refl _) _).trans (hb1.mono (by simp))⟩
def rule_Text.f (a0_0 a0_1 : Int) (l0_2 : List Int) (l1 : List ByteArray) : Option (ByteArray × Int) :=
  if rc_chk (l1.length : Int) a0_0 a0_1 l0_2 = true then (if l0_2.length ≤ 30 ∧ (rule_Text.tail l0_2 l1).length ≤ 140737488355328 then some (rule_Text.txt a0_0 a0_1 l0_2 l1, 0) else none) else (if l0_2.length ≤ 30 then some (⟨#[]⟩, 1) else none)
theorem rule_Text.calls (a0_0 : Int) (a0_1 : Int) (A0_2 : Option Addr) (c0_2 : Nat) (l0_2 : List Int) (A1 : Option Addr) (c1 : Nat) (l1 : List ByteArray) (r1 : ByteArray) (r2 : Int) (w : World) (hr0_2 : Kd.C (Kd.int .i64) w A0_2 l0_2.length l0_2) (hc0_2 : l0_2.length ≤ c0_2) (hr1 : Kd.C Kd.string w A1 l1.length l1) (hc1 : l1.length ≤ c1) (h : rule_Text.f a0_0 a0_1 l0_2 l1 = some (r1, r2)) (HTAB_ : Aside0 (TabW w)) :
    Calls Tryd.prog 28 #[.agg #[.int .i64 a0_0, .int .i64 a0_1, .slice A0_2 l0_2.length c0_2], .slice A1 l1.length c1] w fun e w' => e = .returned (.tuple #[.string r1, .int .i64 r2]) ∧ Below w.heap.size w w' := by
  unfold rule_Text.f at h
  have hr := fun h30 : l0_2.length ≤ 30 => Ev.rounds (rc_check_ev (l1.length : Int) a0_0 a0_1 l0_2 (by omega))
  by_cases hc : rc_chk (l1.length : Int) a0_0 a0_1 l0_2 = true
  · rw [if_pos hc] at h
    by_cases h2 : l0_2.length ≤ 30 ∧ (rule_Text.tail l0_2 l1).length ≤ 140737488355328
    · rw [if_pos h2] at h
      injection h with h
      injection h with e1 e2
      subst e1 e2
      obtain ⟨m, hm⟩ := hr h2.1
      rw [hc] at hm
      obtain ⟨_, hK, hs⟩ := rc_chk_facts hc
      obtain ⟨hs0, hk0, hk1⟩ := rc_chk_more hc
      exact rule_Text.good a0_0 a0_1 A0_2 c0_2 l0_2 A1 c1 l1 w hr0_2 hc0_2 hr1 hc1 m hm (by omega) (by omega) (by omega) hs0 h2.1 hs h2.2 HTAB_.out
    · rw [if_neg h2] at h; cases h
  · rw [if_neg hc] at h
    by_cases h2 : l0_2.length ≤ 30
    · rw [if_pos h2] at h
      injection h with h
      injection h with e1 e2
      subst e1 e2
      obtain ⟨m, hm⟩ := hr h2
      rw [show rc_chk (l1.length : Int) a0_0 a0_1 l0_2 = false by simpa using hc] at hm
      exact rule_Text.bad a0_0 a0_1 A0_2 c0_2 l0_2 A1 c1 l1 w hr0_2 hc0_2 hr1 hc1 m hm
    · rw [if_neg h2] at h; cases h
end


end Go.Proofs.YtbcdlfodgoiodaaDoor.PRtx
