/- A text written by my program wip/gen/p2.py out of the translation and of my foreign texts; not trusted: Lean checks it. -/
import Derived.Test.YtbcdlfodgoiodaaDoorPRtxx0
import Derived.Test.YtbcdlfodgoiodaaDoorPRtxx2
namespace Go.Proofs.YtbcdlfodgoiodaaDoor.PRtx
open Go.RowKit Go.Proofs.YtbcdlfodgoiodaaDoorW.PrintWords Go.Proofs.YtbcdlfodgoiodaaDoorW.PrintLast Go.Proofs.YtbcdlfodgoiodaaDoorW.PrintMore
attribute [local go_sem] max2_int min2_int max_two min_two max_three min_three max_four min_four   -- for this text's walks alone
set_option linter.unusedVariables false
set_option linter.unusedSimpArgs false

-- NOT PRINTED: function 60 (rule_counted)

/-! ### rule_keeps: function 41 -/
section
open Go Go.Maps
/-- what the map holds behind these labels (the newest first) -/
def kp_map : List Int → DataW Unit
  | [] => .map []
  | x :: r => (kp_map r).put (.int .i64 x) (.lit (.int .i64 ((r.count x + 1 : Nat) : Int)))
def kp_most : List Int → Nat
  | [] => 0
  | x :: r => max (kp_most r) (r.count x + 1)
def kp_unlike : List Int → Nat
  | [] => 0
  | x :: r => kp_unlike r + if x ∈ r then 0 else 1
theorem kp_keyLit (x : Int) : WideAt.IsKeyLit (.int .i64 x) := by simp [WideAt.IsKeyLit]
theorem kp_tidy : ∀ l, Tidy (kp_map l)
  | [] => tidy_empty
  | x :: r => (kp_tidy r).put (kp_keyLit x) _
theorem kp_has : ∀ (l : List Int) (x : Int), has (kp_map l) (.int .i64 x) = decide (x ∈ l)
  | [], x => by simp [kp_map, has]
  | y :: r, x => by
    by_cases h : x = y
    · subst h
      rw [kp_map, has_put_same (kp_tidy r).isMap (kp_keyLit x)]
      simp
    · rw [kp_map, has_put_other (by simpa using h), kp_has r x]
      simp [h]
theorem kp_at : ∀ (l : List Int) (x : Int), (kp_map l).atKey (.int .i64 x) (.lit (.int .i64 0)) = .lit (.int .i64 (l.count x : Nat))
  | [], x => by rw [atKey_of_not_has (by rw [kp_has]; simp)]; simp
  | y :: r, x => by
    by_cases h : x = y
    · subst h
      rw [kp_map, atKey_put_same (kp_tidy r).isMap (kp_keyLit x)]
      simp
    · rw [kp_map, atKey_put_other (by simpa using h), kp_at r x, List.count_cons_of_ne (by simpa using fun e => h e.symm)]
theorem kp_size : ∀ l, Maps.size (kp_map l) = kp_unlike l
  | [] => rfl
  | x :: r => by
    rw [kp_map, size_put (kp_tidy r), kp_has, kp_size r, kp_unlike]
    by_cases h : x ∈ r <;> simp [h]
theorem kp_unlike_le : ∀ l, kp_unlike l ≤ l.length
  | [] => Nat.le_refl _
  | x :: r => by have := kp_unlike_le r; simp only [kp_unlike, List.length_cons]; split <;> omega
theorem kp_most_le : ∀ l, kp_most l ≤ l.length
  | [] => Nat.le_refl _
  | x :: r => by have := kp_most_le r; have := List.count_le_length (a := x) (l := r); simp only [kp_most, List.length_cons]; omega
/-- the labels seen along steps (the newest first), and how many steps lie behind the labels -/
def kp_seen (l : List Int) : List Int → List Int
  | [] => []
  | x :: r => if x < l.length then rd l x :: kp_seen l r else kp_seen l r
def kp_left (l : List Int) : List Int → Nat
  | [] => 0
  | x :: r => if x < l.length then kp_left l r else kp_left l r + 1
theorem kp_seen_len (l : List Int) : ∀ s, (kp_seen l s).length + kp_left l s = s.length
  | [] => rfl
  | x :: r => by have := kp_seen_len l r; simp only [kp_seen, kp_left]; split <;> simp <;> omega
theorem kp_law : Keyed Tryd.prog 3 := int_keyed Tryd.underlying3
theorem kp_zero (w : World) : (zeroValue 3).run Tryd.prog w = .ok (.int .i64 0) w := by kernel_rfl

set_option maxHeartbeats 1000000 in
set_option maxRecDepth 100000 in
theorem counted_calls (a0 a1 : Int) (A0 : Option Addr) (c0 : Nat) (s : List Int) (A1 : Option Addr) (c1 : Nat) (l : List Int) (w : World) (hr0 : Kd.C (Kd.int .i64) w A0 s.length s) (hc0 : s.length ≤ c0) (hr1 : Kd.C (Kd.int .i64) w A1 l.length l) (hc1 : l.length ≤ c1)
    (hs : ∀ x ∈ s, 0 ≤ x) (hl : ∀ x ∈ l, (Lit.int .i64 x).wf = true) :
    Calls Tryd.prog 60 #[.agg #[.int .i64 a0, .int .i64 a1, .slice A0 s.length c0], .slice A1 l.length c1] w fun e w' =>
      e = .returned (.agg #[.int .i64 (kp_most (kp_seen l s.reverse) : Nat), .int .i64 (kp_unlike (kp_seen l s.reverse) : Nat), .int .i64 (kp_left l s.reverse : Nat)]) ∧ Below w.heap.size w w' := by
  have hmm := @run_makeMap Tryd.prog
  have HR0 := Aside0.mk hr0
  have HR1 := Aside0.mk hr1
  have HS := Aside0.mk hs
  have HL := Aside0.mk hl
  clear hs hl hr0 hr1
  go_enter Tryd.func60, Tryd.ntmps60
  go_wp2
  go_loopw [14] (fun i wr => ∃ k : Nat, k ≤ s.length ∧ i = .int .i64 k ∧ wr.ownsMap Tryd.prog 3 (plainElem Tryd.prog 3) (w.heap.size + 1 + 1) k (kp_map (kp_seen l (s.take k).reverse)) ∧
      wr.heap[w.heap.size + 1 + 1 + 1]? = some (.cells #[.int .i64 (kp_most (kp_seen l (s.take k).reverse) : Nat), .int .i64 0, .int .i64 (kp_left l (s.take k).reverse : Nat)] 87 (0, 0)) ∧
      wr.heap[w.heap.size + 1]? = some (.cells #[.int .i64 0, .int .i64 0, .int .i64 0] 87 (0, 0)) ∧ Below w.heap.size w wr) (fun i _ => s.length - (intOf i).toNat)
  case atStart =>
    refine ⟨0, Nat.zero_le _, rfl, ?_, ?_, ?_, ?_⟩
    · have h := (World.ownsMap_made (H := Unit) ((w.alloc (.cells #[.int .i64 a0, .int .i64 a1, .slice A0 s.length c0] 53)).alloc (.cells #[.int .i64 0, .int .i64 0, .int .i64 0] 87)) Tryd.prog 3 (plainElem Tryd.prog 3)).alloc (.cells #[.int .i64 0, .int .i64 0, .int .i64 0] 87)
      simp only [World.size_alloc] at h
      exact h
    · have h := heap_alloc_new (((w.alloc (.cells #[.int .i64 a0, .int .i64 a1, .slice A0 s.length c0] 53)).alloc (.cells #[.int .i64 0, .int .i64 0, .int .i64 0] 87)).alloc (.map #[] 0)) (.cells #[.int .i64 0, .int .i64 0, .int .i64 0] 87)
      simp only [World.size_alloc] at h
      exact h
    · refine (Below.heap_alloc _ _ _ (by simp)).trans ((Below.heap_alloc _ _ _ (by simp)).trans ?_)
      have h := heap_alloc_new (w.alloc (.cells #[.int .i64 a0, .int .i64 a1, .slice A0 s.length c0] 53)) (.cells #[.int .i64 0, .int .i64 0, .int .i64 0] 87)
      simp only [World.size_alloc] at h
      exact h
    · exact ((((Below.refl _ _).alloc (Nat.le_refl _) _).alloc (by simp) _).alloc (by simp; omega) _).alloc (by simp; omega) _
  case round =>
    obtain ⟨k, hk, rfl, hown, hc, hres, hB⟩ := hrel
    have hm0 := HR0.out.2.1
    by_cases hlt : k < s.length
    · obtain ⟨ad, rfl, hx⟩ := Kd.at_int HR0.out (k : Int) (by omega) (by omega)
      rw [Int.toNat_natCast] at hx
      have hx1 := pw_cell_below hB hx
      have hsx := HS.out (rd s k) (by unfold rd; rw [Int.toNat_natCast, List.getD_eq_getElem?_getD, List.getElem?_eq_getElem hlt]; exact List.getElem_mem hlt)
      have htk : Aside0 ((s.take (k + 1)).reverse = rd s k :: (s.take k).reverse) := ⟨by unfold rd; rw [List.take_succ_eq_append_getElem hlt, Int.toNat_natCast, List.getD_eq_getElem?_getD, List.getElem?_eq_getElem hlt]; simp⟩
      have hcc := blk_cell hc
      have hcf := blk_frozen hc
      have hc0 := hcc 0
      have hc2 := hcc 2
      simp at hc0 hc2
      have hf0 := hcf 0
      have hf2 := hcf 2
      have HC := Aside0.mk hc
      have HRES := Aside0.mk hres
      have HBB := Aside0.mk hB
      have HOWN := Aside0.mk hown
      clear hcc hcf hc hres hB hx hown
      have hlb := kp_seen_len l (s.take k).reverse
      rw [List.length_reverse, List.length_take] at hlb
      have hmb := kp_most_le (kp_seen l (s.take k).reverse)
      have hcb := List.count_le_length (a := rd l (rd s k)) (l := kp_seen l (s.take k).reverse)
      have hL0 : kp_left l (s.take k).reverse ≤ 9223372036854775806 := by omega
      have hM0 : kp_most (kp_seen l (s.take k).reverse) ≤ 9223372036854775806 := by omega
      have hC0 : (kp_seen l (s.take k).reverse).count (rd l (rd s k)) ≤ 9223372036854775806 := by omega
      clear hlb hmb hcb
      generalize hX : rd s k = x at *
      have HX := Aside0.mk hX
      clear hX
      by_cases hxl : x < l.length
      · obtain ⟨ad1, rfl, hy⟩ := Kd.at_int HR1.out x hsx hxl
        have hy1 := pw_cell_below HBB.out hy
        have hyl : (Lit.int .i64 (rd l x)).wf = true := HL.out _ (by unfold rd; rw [List.getD_eq_getElem?_getD, List.getElem?_eq_getElem (by omega)]; exact List.getElem_mem _)
        have HK := Aside0.mk (Maps.keyOf_int_mk Tryd.underlying3 hyl)
        have HY := Aside0.mk hy
        clear hy hyl
        go_wp2_with (first
          | (at_lookup; refine wpList_lookup_own_int _ rfl _ _ 78 rfl 3 3 .i64 kp_law Tryd.underlying78 Tryd.underlying3 (kp_zero _) (w.heap.size + 1 + 1) k _ rfl HOWN.out _ _ rfl HK.out ?_; intro c hat hwc; obtain rfl : ((kp_seen l (s.take k).reverse).count (rd l x) : Nat) = c := (by rw [kp_at] at hat; injection hat with h; injection h); clear hat hwc)
          | (at_mapUpdate; refine wpList_mapUpdate_own _ rfl _ _ _ 78 rfl 3 3 kp_law Tryd.underlying78 _ (w.heap.size + 1 + 1) k _ rfl HOWN.out (by unfold maxLen; omega) _ _ _ rfl rfl HK.out _ [] (plainElem_int Tryd.underlying3 (by simp [Lit.wf, IntKind.min, IntKind.max, IntKind.signed, IntKind.bits]; omega)) ?_; intro w1 hown1 hgrow1))
        have hwc : w1.heap[w.heap.size + 1 + 1 + 1]? = some (.cells #[.int .i64 (kp_most (kp_seen l (s.take k).reverse) : Nat), .int .i64 0, .int .i64 (kp_left l (s.take k).reverse : Nat)] 87 (0, 0)) := blk_grown HC.out hgrow1 (by simp)
        have hwr : w1.heap[w.heap.size + 1]? = some (.cells #[.int .i64 0, .int .i64 0, .int .i64 0] 87 (0, 0)) := blk_grown HRES.out hgrow1 (by simp)
        have hB1 : Below w.heap.size w w1 := HBB.out.grown hgrow1 HBB.out.size (fun j e => by cases e; omega)
        have hown2 : w1.ownsMap Tryd.prog 3 (plainElem Tryd.prog 3) (w.heap.size + 1 + 1) (k + 1) (kp_map (rd l x :: kp_seen l (s.take k).reverse)) := by
          rw [kp_map]; simpa using hown1
        have hz1 := blk_lt hwr
        clear hown1 hgrow1 hc0 hc2 hf0 hf2 HC HRES HOWN HBB hx1 hy1
        have hc0 : w1.cell? ⟨w.heap.size + 1 + 1 + 1, 0, none⟩ = some (.int .i64 (kp_most (kp_seen l (s.take k).reverse) : Nat)) := by rw [blk_cell hwc]; rfl
        have hf0 := blk_frozen hwc 0
        have hy1 := pw_cell_below hB1 (HY.out)
        obtain ⟨c2, hrun2, hat2, _⟩ := World.ownsMap.lookup_int (t := 78) hown2.drew kp_law Tryd.underlying78 Tryd.underlying3 (kp_zero _) HK.out
        obtain rfl : ((rd l x :: kp_seen l (s.take k).reverse).count (rd l x) : Nat) = c2 := (by rw [kp_at] at hat2; injection hat2 with h; injection h)
        rw [List.count_cons_self] at hrun2
        have HWC := Aside0.mk hwc
        have HWR := Aside0.mk hwr
        have HB1 := Aside0.mk hB1
        have HO2 := Aside0.mk hown2
        clear hwc hwr hB1 hown2 hat2 hz1
        have hcm : Aside0 (max ((kp_most (kp_seen l (s.take k).reverse) : Nat) : Int) (((kp_seen l (s.take k).reverse).count (rd l x) + 1 : Nat) : Int) = (kp_most (rd l x :: kp_seen l (s.take k).reverse) : Nat)) := ⟨by rw [kp_most]; omega⟩
        go_still_tail 10, (by kernel_rfl)
        change wpList _ _ _ _ _ w1.drew
        go_wp2
        go_roundw
        case rel =>
          refine ⟨k + 1, by omega, by go_num, ?_, ?_, ?_, ?_⟩
          · rw [htk.out, kp_seen, if_pos hxl]
            exact (HO2.out.setCell (by simp) _).drew
          · rw [htk.out, kp_seen, kp_left, if_pos hxl, if_pos hxl, ← hcm.out]
            refine (blk_set HWC.out 0 _).trans ?_
            simp
            split <;> omega
          · exact blk_far HWR.out (by simp) _
          · exact HB1.out.drew.setCell (by simp; omega) _
        case measure => simp [intOf]; omega
      · go_wp2
        go_roundw
        case rel =>
          refine ⟨k + 1, by omega, by go_num, ?_, ?_, ?_, ?_⟩
          · rw [htk.out, kp_seen, if_neg hxl]
            exact (HOWN.out.setCell (by simp) _).mono (Nat.le_succ _)
          · rw [htk.out, kp_seen, kp_left, if_neg hxl, if_neg hxl]
            refine (blk_set HC.out 2 _).trans ?_
            simp
          · exact blk_far HRES.out (by simp) _
          · exact HBB.out.setCell (by simp; omega) _
        case measure => simp [intOf]; omega
    · obtain rfl : k = s.length := by omega
      rw [List.take_length] at hown hc
      have hub := kp_unlike_le (kp_seen l s.reverse)
      have HS2 := Aside0.mk (kp_size (kp_seen l s.reverse))
      have hc0 := (blk_cell hc 0).trans rfl
      have hc1 := (blk_cell hc 1).trans rfl
      have hc2 := (blk_cell hc 2).trans rfl
      have hf1 := blk_frozen hc 1
      have hr0 := (blk_cell hres 0).trans rfl
      have hr1 := (blk_cell hres 1).trans rfl
      have hr2 := (blk_cell hres 2).trans rfl
      have hrf0 := blk_frozen hres 0
      have hrf1 := blk_frozen hres 1
      have hrf2 := blk_frozen hres 2
      have HC := Aside0.mk hc
      have HRES := Aside0.mk hres
      have HBB := Aside0.mk hB
      have HOWN := Aside0.mk hown
      clear hc hres hB hown
      go_wp2_with (at_len; refine wpList_len_own _ rfl _ 78 rfl 3 3 Tryd.underlying78 (plainElem (H := Unit) Tryd.prog 3) (w.heap.size + 1 + 1) s.length _ rfl HOWN.out ?_)
      rw [HS2.out]
      refine bodyPost_ret (results_cell_row rfl _ _ (w.heap.size + 1) 87 #[.int .i64 (kp_most (kp_seen l s.reverse) : Nat), .int .i64 (kp_unlike (kp_seen l s.reverse) : Nat), .int .i64 (kp_left l s.reverse : Nat)] (0, 0) _ rfl ?_ Tryd.underlying87 rfl (by kernel_rfl)) rfl ⟨rfl, ?_⟩
      · exact (blk_set (blk_set (blk_set (blk_far HRES.out (by simp) _) 0 _) 1 _) 2 _).trans rfl
      · exact (((HBB.out.setCell (by simp; omega) _).setCell (by simp) _).setCell (by simp) _).setCell (by simp) _

theorem kp_apart_calls (m u f k : Int) (w : World) : Calls Tryd.prog 55 #[.agg #[.int .i64 m, .int .i64 u, .int .i64 f], .int .i64 k] w fun e w' => e = .returned (.bool (decide (m ≤ 1))) ∧ Below w.heap.size w w' := by
  go_enter Tryd.func55, Tryd.ntmps55
  go_wp2
  go_ret
  exact ⟨rfl, (Below.refl _ _).alloc (Nat.le_refl _) _⟩
theorem kp_same_calls (m u f k : Int) (w : World) : Calls Tryd.prog 56 #[.agg #[.int .i64 m, .int .i64 u, .int .i64 f], .int .i64 k] w fun e w' => e = .returned (.bool (decide (u ≤ 1))) ∧ Below w.heap.size w w' := by
  go_enter Tryd.func56, Tryd.ntmps56
  go_wp2
  go_ret
  exact ⟨rfl, (Below.refl _ _).alloc (Nat.le_refl _) _⟩
theorem kp_atMost_calls (m u f k : Int) (w : World) : Calls Tryd.prog 57 #[.agg #[.int .i64 m, .int .i64 u, .int .i64 f], .int .i64 k] w fun e w' => e = .returned (.bool (decide (m ≤ k))) ∧ Below w.heap.size w w' := by
  go_enter Tryd.func57, Tryd.ntmps57
  go_wp2
  go_ret
  exact ⟨rfl, (Below.refl _ _).alloc (Nat.le_refl _) _⟩
theorem kp_few_calls (m u f k : Int) (w : World) : Calls Tryd.prog 58 #[.agg #[.int .i64 m, .int .i64 u, .int .i64 f], .int .i64 k] w fun e w' => e = .returned (.bool (decide (u ≤ k))) ∧ Below w.heap.size w w' := by
  go_enter Tryd.func58, Tryd.ntmps58
  go_wp2
  go_ret
  exact ⟨rfl, (Below.refl _ _).alloc (Nat.le_refl _) _⟩
theorem kp_many_calls (m u f k : Int) (h1 : 0 ≤ u) (h2 : u ≤ 4611686018427387903) (h3 : 0 ≤ f) (h4 : f ≤ 4611686018427387903) (w : World) : Calls Tryd.prog 59 #[.agg #[.int .i64 m, .int .i64 u, .int .i64 f], .int .i64 k] w fun e w' => e = .returned (.bool (decide (k ≤ u + f))) ∧ Below w.heap.size w w' := by
  go_enter Tryd.func59, Tryd.ntmps59
  go_wp2
  go_ret
  exact ⟨rfl, (Below.refl _ _).alloc (Nat.le_refl _) _⟩
def rule_keeps.f (a0_0 a0_1 : Int) (l0_2 l1 : List Int) : Option Bool :=
  if (∀ x ∈ l0_2, 0 ≤ x) ∧ (∀ x ∈ l1, (Lit.int .i64 x).wf = true) ∧ l0_2.length ≤ 4611686018427387903 then
    (if a0_0 = 1 then some (decide ((kp_most (kp_seen l1 l0_2.reverse) : Int) ≤ 1))
     else if a0_0 = 2 then some (decide ((kp_unlike (kp_seen l1 l0_2.reverse) : Int) ≤ 1))
     else if a0_0 = 3 then some (decide ((kp_most (kp_seen l1 l0_2.reverse) : Int) ≤ a0_1))
     else if a0_0 = 4 then some (decide ((kp_unlike (kp_seen l1 l0_2.reverse) : Int) ≤ a0_1))
     else if a0_0 = 5 then some (decide (a0_1 ≤ (kp_unlike (kp_seen l1 l0_2.reverse) : Int) + (kp_left l1 l0_2.reverse : Int)))
     else none)
  else none
set_option maxHeartbeats 1000000 in
set_option maxRecDepth 100000 in
theorem rule_keeps.calls (a0_0 : Int) (a0_1 : Int) (A0_2 : Option Addr) (c0_2 : Nat) (l0_2 : List Int) (A1 : Option Addr) (c1 : Nat) (l1 : List Int) (r : Bool) (w : World) (hr0_2 : Kd.C (Kd.int .i64) w A0_2 l0_2.length l0_2) (hc0_2 : l0_2.length ≤ c0_2) (hr1 : Kd.C (Kd.int .i64) w A1 l1.length l1) (hc1 : l1.length ≤ c1) (h : rule_keeps.f a0_0 a0_1 l0_2 l1 = some r) :
    Calls Tryd.prog 41 #[.agg #[.int .i64 a0_0, .int .i64 a0_1, .slice A0_2 l0_2.length c0_2], .slice A1 l1.length c1] w fun e w' => e = .returned (.bool r) ∧ Below w.heap.size w w' := by
  have HR0 := Aside0.mk hr0_2
  have HR1 := Aside0.mk hr1
  clear hr0_2 hr1
  unfold rule_keeps.f at h
  split at h
  next hg =>
    obtain ⟨hs, hl, hlen⟩ := hg
    have HS := Aside0.mk hs
    have HL := Aside0.mk hl
    clear hs hl
    have hu2 := kp_unlike_le (kp_seen l1 l0_2.reverse)
    have hf2 := kp_seen_len l1 l0_2.reverse
    rw [List.length_reverse] at hf2
    have hu3 : (kp_unlike (kp_seen l1 l0_2.reverse) : Int) ≤ 4611686018427387903 := by omega
    have hf3 : (kp_left l1 l0_2.reverse : Int) ≤ 4611686018427387903 := by omega
    clear hu2 hf2
    by_cases k1 : a0_0 = 1
    · subst k1
      simp only [Int.reduceEq, if_true, if_false] at h
      obtain rfl := Option.some.inj h
      clear h
      go_enter Tryd.func41, Tryd.ntmps41
      go_wp2
      have hb0 : Below w.heap.size w ((w.alloc (.cells #[.int .i64 1, .int .i64 a0_1, .slice A0_2 l0_2.length c0_2] 53)).alloc (.cells #[.nilFunc, .func (.func 55) #[] #[], .func (.func 56) #[] #[], .func (.func 57) #[] #[], .func (.func 58) #[] #[], .func (.func 59) #[] #[]] 88)) := ((Below.refl _ _).alloc (Nat.le_refl _) _).alloc (by simp) _
      have hk1 := heap_alloc_new (w.alloc (.cells #[.int .i64 1, .int .i64 a0_1, .slice A0_2 l0_2.length c0_2] 53)) (.cells #[.nilFunc, .func (.func 55) #[] #[], .func (.func 56) #[] #[], .func (.func 57) #[] #[], .func (.func 58) #[] #[], .func (.func 59) #[] #[]] 88)
      have hk0 := (Below.heap_alloc (w.alloc (.cells #[.int .i64 1, .int .i64 a0_1, .slice A0_2 l0_2.length c0_2] 53)) (.cells #[.nilFunc, .func (.func 55) #[] #[], .func (.func 56) #[] #[], .func (.func 57) #[] #[], .func (.func 58) #[] #[], .func (.func 59) #[] #[]] 88) w.heap.size (by simp)).trans (heap_alloc_new w _)
      rw [World.size_alloc] at hk1
      generalize ((w.alloc (.cells #[.int .i64 1, .int .i64 a0_1, .slice A0_2 l0_2.length c0_2] 53)).alloc (.cells #[.nilFunc, .func (.func 55) #[] #[], .func (.func 56) #[] #[], .func (.func 57) #[] #[], .func (.func 58) #[] #[], .func (.func 59) #[] #[]] 88)) = W at *
      have hs1 : W.cell? ⟨w.heap.size, 0, none⟩ = some (.int .i64 1) := (blk_cell hk0 0).trans rfl
      have hs2 : W.cell? ⟨w.heap.size, 1, none⟩ = some (.int .i64 a0_1) := (blk_cell hk0 1).trans rfl
      have hs3 : W.cell? ⟨w.heap.size, 2, none⟩ = some (.slice A0_2 l0_2.length c0_2) := (blk_cell hk0 2).trans rfl
      have hs4 : W.cell? ⟨w.heap.size + 1, 1, none⟩ = some (.func (.func 55) #[] #[]) := (blk_cell hk1 1).trans rfl
      have HB0 := Aside0.mk hb0
      clear hk0 hk1 hb0
      go_region_held3 (fun W' => W'.cell? ⟨w.heap.size, 0, none⟩ = some (.int .i64 1) ∧ W'.cell? ⟨w.heap.size, 1, none⟩ = some (.int .i64 a0_1) ∧ W'.cell? ⟨w.heap.size, 2, none⟩ = some (.slice A0_2 l0_2.length c0_2) ∧ W'.cell? ⟨w.heap.size + 1, 1, none⟩ = some (.func (.func 55) #[] #[]))
        (first
          | exact ⟨hs1, hs2, hs3, hs4⟩
          | exact ⟨(pw_cell_below hb hs1), (pw_cell_below hb hs2), (pw_cell_below hb hs3), (pw_cell_below hb hs4)⟩
          | exact ⟨(pw_cell_below hb2 (pw_cell_below hb hs1)), (pw_cell_below hb2 (pw_cell_below hb hs2)), (pw_cell_below hb2 (pw_cell_below hb hs3)), (pw_cell_below hb2 (pw_cell_below hb hs4))⟩)
        (first
          | (go_at_call 60; refine (counted_calls _ _ _ _ l0_2 _ _ l1 W.drew (Kd.C_below HR0.out HB0.out.drew) hc0_2 (Kd.C_below HR1.out HB0.out.drew) hc1 HS.out HL.out).mono ?_; rintro e w' ⟨rfl, hb⟩)
          | (go_at_call 55; refine (kp_apart_calls _ _ _ _ _).mono ?_; rintro e w2 ⟨rfl, hb2⟩))
      go_wp2
      go_ret
      exact ⟨rfl, below_then (HB0.out.drew) (Nat.le_trans HB0.out.size (Nat.le_refl _)) (below_then hb (Nat.le_trans (Nat.le_refl _) hb.size) hb2)⟩
    by_cases k2 : a0_0 = 2
    · subst k2
      simp only [Int.reduceEq, if_true, if_false] at h
      obtain rfl := Option.some.inj h
      clear h
      go_enter Tryd.func41, Tryd.ntmps41
      go_wp2
      have hb0 : Below w.heap.size w ((w.alloc (.cells #[.int .i64 2, .int .i64 a0_1, .slice A0_2 l0_2.length c0_2] 53)).alloc (.cells #[.nilFunc, .func (.func 55) #[] #[], .func (.func 56) #[] #[], .func (.func 57) #[] #[], .func (.func 58) #[] #[], .func (.func 59) #[] #[]] 88)) := ((Below.refl _ _).alloc (Nat.le_refl _) _).alloc (by simp) _
      have hk1 := heap_alloc_new (w.alloc (.cells #[.int .i64 2, .int .i64 a0_1, .slice A0_2 l0_2.length c0_2] 53)) (.cells #[.nilFunc, .func (.func 55) #[] #[], .func (.func 56) #[] #[], .func (.func 57) #[] #[], .func (.func 58) #[] #[], .func (.func 59) #[] #[]] 88)
      have hk0 := (Below.heap_alloc (w.alloc (.cells #[.int .i64 2, .int .i64 a0_1, .slice A0_2 l0_2.length c0_2] 53)) (.cells #[.nilFunc, .func (.func 55) #[] #[], .func (.func 56) #[] #[], .func (.func 57) #[] #[], .func (.func 58) #[] #[], .func (.func 59) #[] #[]] 88) w.heap.size (by simp)).trans (heap_alloc_new w _)
      rw [World.size_alloc] at hk1
      generalize ((w.alloc (.cells #[.int .i64 2, .int .i64 a0_1, .slice A0_2 l0_2.length c0_2] 53)).alloc (.cells #[.nilFunc, .func (.func 55) #[] #[], .func (.func 56) #[] #[], .func (.func 57) #[] #[], .func (.func 58) #[] #[], .func (.func 59) #[] #[]] 88)) = W at *
      have hs1 : W.cell? ⟨w.heap.size, 0, none⟩ = some (.int .i64 2) := (blk_cell hk0 0).trans rfl
      have hs2 : W.cell? ⟨w.heap.size, 1, none⟩ = some (.int .i64 a0_1) := (blk_cell hk0 1).trans rfl
      have hs3 : W.cell? ⟨w.heap.size, 2, none⟩ = some (.slice A0_2 l0_2.length c0_2) := (blk_cell hk0 2).trans rfl
      have hs4 : W.cell? ⟨w.heap.size + 1, 2, none⟩ = some (.func (.func 56) #[] #[]) := (blk_cell hk1 2).trans rfl
      have HB0 := Aside0.mk hb0
      clear hk0 hk1 hb0
      go_region_held3 (fun W' => W'.cell? ⟨w.heap.size, 0, none⟩ = some (.int .i64 2) ∧ W'.cell? ⟨w.heap.size, 1, none⟩ = some (.int .i64 a0_1) ∧ W'.cell? ⟨w.heap.size, 2, none⟩ = some (.slice A0_2 l0_2.length c0_2) ∧ W'.cell? ⟨w.heap.size + 1, 2, none⟩ = some (.func (.func 56) #[] #[]))
        (first
          | exact ⟨hs1, hs2, hs3, hs4⟩
          | exact ⟨(pw_cell_below hb hs1), (pw_cell_below hb hs2), (pw_cell_below hb hs3), (pw_cell_below hb hs4)⟩
          | exact ⟨(pw_cell_below hb2 (pw_cell_below hb hs1)), (pw_cell_below hb2 (pw_cell_below hb hs2)), (pw_cell_below hb2 (pw_cell_below hb hs3)), (pw_cell_below hb2 (pw_cell_below hb hs4))⟩)
        (first
          | (go_at_call 60; refine (counted_calls _ _ _ _ l0_2 _ _ l1 W.drew (Kd.C_below HR0.out HB0.out.drew) hc0_2 (Kd.C_below HR1.out HB0.out.drew) hc1 HS.out HL.out).mono ?_; rintro e w' ⟨rfl, hb⟩)
          | (go_at_call 56; refine (kp_same_calls _ _ _ _ _).mono ?_; rintro e w2 ⟨rfl, hb2⟩))
      go_wp2
      go_ret
      exact ⟨rfl, below_then (HB0.out.drew) (Nat.le_trans HB0.out.size (Nat.le_refl _)) (below_then hb (Nat.le_trans (Nat.le_refl _) hb.size) hb2)⟩
    by_cases k3 : a0_0 = 3
    · subst k3
      simp only [Int.reduceEq, if_true, if_false] at h
      obtain rfl := Option.some.inj h
      clear h
      go_enter Tryd.func41, Tryd.ntmps41
      go_wp2
      have hb0 : Below w.heap.size w ((w.alloc (.cells #[.int .i64 3, .int .i64 a0_1, .slice A0_2 l0_2.length c0_2] 53)).alloc (.cells #[.nilFunc, .func (.func 55) #[] #[], .func (.func 56) #[] #[], .func (.func 57) #[] #[], .func (.func 58) #[] #[], .func (.func 59) #[] #[]] 88)) := ((Below.refl _ _).alloc (Nat.le_refl _) _).alloc (by simp) _
      have hk1 := heap_alloc_new (w.alloc (.cells #[.int .i64 3, .int .i64 a0_1, .slice A0_2 l0_2.length c0_2] 53)) (.cells #[.nilFunc, .func (.func 55) #[] #[], .func (.func 56) #[] #[], .func (.func 57) #[] #[], .func (.func 58) #[] #[], .func (.func 59) #[] #[]] 88)
      have hk0 := (Below.heap_alloc (w.alloc (.cells #[.int .i64 3, .int .i64 a0_1, .slice A0_2 l0_2.length c0_2] 53)) (.cells #[.nilFunc, .func (.func 55) #[] #[], .func (.func 56) #[] #[], .func (.func 57) #[] #[], .func (.func 58) #[] #[], .func (.func 59) #[] #[]] 88) w.heap.size (by simp)).trans (heap_alloc_new w _)
      rw [World.size_alloc] at hk1
      generalize ((w.alloc (.cells #[.int .i64 3, .int .i64 a0_1, .slice A0_2 l0_2.length c0_2] 53)).alloc (.cells #[.nilFunc, .func (.func 55) #[] #[], .func (.func 56) #[] #[], .func (.func 57) #[] #[], .func (.func 58) #[] #[], .func (.func 59) #[] #[]] 88)) = W at *
      have hs1 : W.cell? ⟨w.heap.size, 0, none⟩ = some (.int .i64 3) := (blk_cell hk0 0).trans rfl
      have hs2 : W.cell? ⟨w.heap.size, 1, none⟩ = some (.int .i64 a0_1) := (blk_cell hk0 1).trans rfl
      have hs3 : W.cell? ⟨w.heap.size, 2, none⟩ = some (.slice A0_2 l0_2.length c0_2) := (blk_cell hk0 2).trans rfl
      have hs4 : W.cell? ⟨w.heap.size + 1, 3, none⟩ = some (.func (.func 57) #[] #[]) := (blk_cell hk1 3).trans rfl
      have HB0 := Aside0.mk hb0
      clear hk0 hk1 hb0
      go_region_held3 (fun W' => W'.cell? ⟨w.heap.size, 0, none⟩ = some (.int .i64 3) ∧ W'.cell? ⟨w.heap.size, 1, none⟩ = some (.int .i64 a0_1) ∧ W'.cell? ⟨w.heap.size, 2, none⟩ = some (.slice A0_2 l0_2.length c0_2) ∧ W'.cell? ⟨w.heap.size + 1, 3, none⟩ = some (.func (.func 57) #[] #[]))
        (first
          | exact ⟨hs1, hs2, hs3, hs4⟩
          | exact ⟨(pw_cell_below hb hs1), (pw_cell_below hb hs2), (pw_cell_below hb hs3), (pw_cell_below hb hs4)⟩
          | exact ⟨(pw_cell_below hb2 (pw_cell_below hb hs1)), (pw_cell_below hb2 (pw_cell_below hb hs2)), (pw_cell_below hb2 (pw_cell_below hb hs3)), (pw_cell_below hb2 (pw_cell_below hb hs4))⟩)
        (first
          | (go_at_call 60; refine (counted_calls _ _ _ _ l0_2 _ _ l1 W.drew (Kd.C_below HR0.out HB0.out.drew) hc0_2 (Kd.C_below HR1.out HB0.out.drew) hc1 HS.out HL.out).mono ?_; rintro e w' ⟨rfl, hb⟩)
          | (go_at_call 57; refine (kp_atMost_calls _ _ _ _ _).mono ?_; rintro e w2 ⟨rfl, hb2⟩))
      go_wp2
      go_ret
      exact ⟨rfl, below_then (HB0.out.drew) (Nat.le_trans HB0.out.size (Nat.le_refl _)) (below_then hb (Nat.le_trans (Nat.le_refl _) hb.size) hb2)⟩
    by_cases k4 : a0_0 = 4
    · subst k4
      simp only [Int.reduceEq, if_true, if_false] at h
      obtain rfl := Option.some.inj h
      clear h
      go_enter Tryd.func41, Tryd.ntmps41
      go_wp2
      have hb0 : Below w.heap.size w ((w.alloc (.cells #[.int .i64 4, .int .i64 a0_1, .slice A0_2 l0_2.length c0_2] 53)).alloc (.cells #[.nilFunc, .func (.func 55) #[] #[], .func (.func 56) #[] #[], .func (.func 57) #[] #[], .func (.func 58) #[] #[], .func (.func 59) #[] #[]] 88)) := ((Below.refl _ _).alloc (Nat.le_refl _) _).alloc (by simp) _
      have hk1 := heap_alloc_new (w.alloc (.cells #[.int .i64 4, .int .i64 a0_1, .slice A0_2 l0_2.length c0_2] 53)) (.cells #[.nilFunc, .func (.func 55) #[] #[], .func (.func 56) #[] #[], .func (.func 57) #[] #[], .func (.func 58) #[] #[], .func (.func 59) #[] #[]] 88)
      have hk0 := (Below.heap_alloc (w.alloc (.cells #[.int .i64 4, .int .i64 a0_1, .slice A0_2 l0_2.length c0_2] 53)) (.cells #[.nilFunc, .func (.func 55) #[] #[], .func (.func 56) #[] #[], .func (.func 57) #[] #[], .func (.func 58) #[] #[], .func (.func 59) #[] #[]] 88) w.heap.size (by simp)).trans (heap_alloc_new w _)
      rw [World.size_alloc] at hk1
      generalize ((w.alloc (.cells #[.int .i64 4, .int .i64 a0_1, .slice A0_2 l0_2.length c0_2] 53)).alloc (.cells #[.nilFunc, .func (.func 55) #[] #[], .func (.func 56) #[] #[], .func (.func 57) #[] #[], .func (.func 58) #[] #[], .func (.func 59) #[] #[]] 88)) = W at *
      have hs1 : W.cell? ⟨w.heap.size, 0, none⟩ = some (.int .i64 4) := (blk_cell hk0 0).trans rfl
      have hs2 : W.cell? ⟨w.heap.size, 1, none⟩ = some (.int .i64 a0_1) := (blk_cell hk0 1).trans rfl
      have hs3 : W.cell? ⟨w.heap.size, 2, none⟩ = some (.slice A0_2 l0_2.length c0_2) := (blk_cell hk0 2).trans rfl
      have hs4 : W.cell? ⟨w.heap.size + 1, 4, none⟩ = some (.func (.func 58) #[] #[]) := (blk_cell hk1 4).trans rfl
      have HB0 := Aside0.mk hb0
      clear hk0 hk1 hb0
      go_region_held3 (fun W' => W'.cell? ⟨w.heap.size, 0, none⟩ = some (.int .i64 4) ∧ W'.cell? ⟨w.heap.size, 1, none⟩ = some (.int .i64 a0_1) ∧ W'.cell? ⟨w.heap.size, 2, none⟩ = some (.slice A0_2 l0_2.length c0_2) ∧ W'.cell? ⟨w.heap.size + 1, 4, none⟩ = some (.func (.func 58) #[] #[]))
        (first
          | exact ⟨hs1, hs2, hs3, hs4⟩
          | exact ⟨(pw_cell_below hb hs1), (pw_cell_below hb hs2), (pw_cell_below hb hs3), (pw_cell_below hb hs4)⟩
          | exact ⟨(pw_cell_below hb2 (pw_cell_below hb hs1)), (pw_cell_below hb2 (pw_cell_below hb hs2)), (pw_cell_below hb2 (pw_cell_below hb hs3)), (pw_cell_below hb2 (pw_cell_below hb hs4))⟩)
        (first
          | (go_at_call 60; refine (counted_calls _ _ _ _ l0_2 _ _ l1 W.drew (Kd.C_below HR0.out HB0.out.drew) hc0_2 (Kd.C_below HR1.out HB0.out.drew) hc1 HS.out HL.out).mono ?_; rintro e w' ⟨rfl, hb⟩)
          | (go_at_call 58; refine (kp_few_calls _ _ _ _ _).mono ?_; rintro e w2 ⟨rfl, hb2⟩))
      go_wp2
      go_ret
      exact ⟨rfl, below_then (HB0.out.drew) (Nat.le_trans HB0.out.size (Nat.le_refl _)) (below_then hb (Nat.le_trans (Nat.le_refl _) hb.size) hb2)⟩
    by_cases k5 : a0_0 = 5
    · subst k5
      simp only [Int.reduceEq, if_true, if_false] at h
      obtain rfl := Option.some.inj h
      clear h
      go_enter Tryd.func41, Tryd.ntmps41
      go_wp2
      have hb0 : Below w.heap.size w ((w.alloc (.cells #[.int .i64 5, .int .i64 a0_1, .slice A0_2 l0_2.length c0_2] 53)).alloc (.cells #[.nilFunc, .func (.func 55) #[] #[], .func (.func 56) #[] #[], .func (.func 57) #[] #[], .func (.func 58) #[] #[], .func (.func 59) #[] #[]] 88)) := ((Below.refl _ _).alloc (Nat.le_refl _) _).alloc (by simp) _
      have hk1 := heap_alloc_new (w.alloc (.cells #[.int .i64 5, .int .i64 a0_1, .slice A0_2 l0_2.length c0_2] 53)) (.cells #[.nilFunc, .func (.func 55) #[] #[], .func (.func 56) #[] #[], .func (.func 57) #[] #[], .func (.func 58) #[] #[], .func (.func 59) #[] #[]] 88)
      have hk0 := (Below.heap_alloc (w.alloc (.cells #[.int .i64 5, .int .i64 a0_1, .slice A0_2 l0_2.length c0_2] 53)) (.cells #[.nilFunc, .func (.func 55) #[] #[], .func (.func 56) #[] #[], .func (.func 57) #[] #[], .func (.func 58) #[] #[], .func (.func 59) #[] #[]] 88) w.heap.size (by simp)).trans (heap_alloc_new w _)
      rw [World.size_alloc] at hk1
      generalize ((w.alloc (.cells #[.int .i64 5, .int .i64 a0_1, .slice A0_2 l0_2.length c0_2] 53)).alloc (.cells #[.nilFunc, .func (.func 55) #[] #[], .func (.func 56) #[] #[], .func (.func 57) #[] #[], .func (.func 58) #[] #[], .func (.func 59) #[] #[]] 88)) = W at *
      have hs1 : W.cell? ⟨w.heap.size, 0, none⟩ = some (.int .i64 5) := (blk_cell hk0 0).trans rfl
      have hs2 : W.cell? ⟨w.heap.size, 1, none⟩ = some (.int .i64 a0_1) := (blk_cell hk0 1).trans rfl
      have hs3 : W.cell? ⟨w.heap.size, 2, none⟩ = some (.slice A0_2 l0_2.length c0_2) := (blk_cell hk0 2).trans rfl
      have hs4 : W.cell? ⟨w.heap.size + 1, 5, none⟩ = some (.func (.func 59) #[] #[]) := (blk_cell hk1 5).trans rfl
      have HB0 := Aside0.mk hb0
      clear hk0 hk1 hb0
      go_region_held3 (fun W' => W'.cell? ⟨w.heap.size, 0, none⟩ = some (.int .i64 5) ∧ W'.cell? ⟨w.heap.size, 1, none⟩ = some (.int .i64 a0_1) ∧ W'.cell? ⟨w.heap.size, 2, none⟩ = some (.slice A0_2 l0_2.length c0_2) ∧ W'.cell? ⟨w.heap.size + 1, 5, none⟩ = some (.func (.func 59) #[] #[]))
        (first
          | exact ⟨hs1, hs2, hs3, hs4⟩
          | exact ⟨(pw_cell_below hb hs1), (pw_cell_below hb hs2), (pw_cell_below hb hs3), (pw_cell_below hb hs4)⟩
          | exact ⟨(pw_cell_below hb2 (pw_cell_below hb hs1)), (pw_cell_below hb2 (pw_cell_below hb hs2)), (pw_cell_below hb2 (pw_cell_below hb hs3)), (pw_cell_below hb2 (pw_cell_below hb hs4))⟩)
        (first
          | (go_at_call 60; refine (counted_calls _ _ _ _ l0_2 _ _ l1 W.drew (Kd.C_below HR0.out HB0.out.drew) hc0_2 (Kd.C_below HR1.out HB0.out.drew) hc1 HS.out HL.out).mono ?_; rintro e w' ⟨rfl, hb⟩)
          | (go_at_call 59; refine (kp_many_calls _ _ _ _ (Int.natCast_nonneg _) hu3 (Int.natCast_nonneg _) hf3 _).mono ?_; rintro e w2 ⟨rfl, hb2⟩))
      go_wp2
      go_ret
      exact ⟨rfl, below_then (HB0.out.drew) (Nat.le_trans HB0.out.size (Nat.le_refl _)) (below_then hb (Nat.le_trans (Nat.le_refl _) hb.size) hb2)⟩
    simp only [k1, k2, k3, k4, k5, if_false] at h
    cases h
  next => cases h
end


/-! ### rule_Holds: function 23 -/
def rule_Holds.f (k : Nat) (a0_0 : Int) (a0_1 : Int) (l0_2 : List Int) (l1 : List Int) : Option (Bool) := (rule_Check.f k (l1.length : Int) a0_0 a0_1 l0_2).bind fun t131 => (if t131 = 0 then ((rule_keeps.f a0_0 a0_1 l0_2 l1).bind fun t132 => (some t132)) else (some false))
theorem rule_Holds.mono : ∀ a0 a1 a2 a3 k, LeO (rule_Holds.f k a0 a1 a2 a3) (rule_Holds.f (k + 1) a0 a1 a2 a3) := by
  intro a0 a1 a2 a3 k
  unfold rule_Holds.f
  repeat' first
      | (with_reducible exact rule_Check.mono _ _ _ _ _)
      | (with_reducible exact LeO.refl _)
      | (with_reducible exact LeO.none _)
      | (with_reducible refine LeO.ite ?_ ?_)
      | (with_reducible refine LeO.bind ?_ (fun _ => ?_))
      | exact rule_Check.mono _ _ _ _ _
      | exact LeO.none _
      | refine LeO.ite ?_ ?_
      | refine LeO.bind ?_ (fun _ => ?_)
set_option maxHeartbeats 8000000 in
set_option maxRecDepth 100000 in
theorem rule_Holds.calls (k : Nat) (a0_0 : Int) (a0_1 : Int) (A0_2 : Option Addr) (c0_2 : Nat) (l0_2 : List Int) (A1 : Option Addr) (c1 : Nat) (l1 : List Int) (r : Bool) (w : World) (hr0_2 : Kd.C (Kd.int .i64) w A0_2 l0_2.length l0_2) (hc0_2 : l0_2.length ≤ c0_2) (hr1 : Kd.C (Kd.int .i64) w A1 l1.length l1) (hc1 : l1.length ≤ c1) (h : rule_Holds.f k a0_0 a0_1 l0_2 l1 = some r) :
    Calls Tryd.prog 23 #[.agg #[.int .i64 a0_0, .int .i64 a0_1, .slice A0_2 l0_2.length c0_2], .slice A1 l1.length c1] w fun e w' => e = .returned (.bool r) ∧ Below w.heap.size w w' := by
  have hu53 := Tryd.underlying53
  have HR0_2 := Aside0.mk hr0_2
  have HC0_2 := Aside0.mk hc0_2
  clear hr0_2 hc0_2
  have HR1 := Aside0.mk hr1
  have HC1 := Aside0.mk hc1
  clear hr1 hc1
  have HB := Aside0.mk (Below.refl w.heap.size w)
  have H : ((rule_Check.f k (l1.length : Int) a0_0 a0_1 l0_2).bind fun t131 => (if t131 = 0 then ((rule_keeps.f a0_0 a0_1 l0_2 l1).bind fun t132 => (some t132)) else (some false))) = some r := h
  clear h
  replace H := Option.bind_eq_some_iff.mp H
  obtain ⟨t131, A30, H⟩ := H
  replace H : (if t131 = 0 then ((rule_keeps.f a0_0 a0_1 l0_2 l1).bind fun t132 => (some t132)) else (some false)) = some r := H
  have A3 := Aside0.mk A30
  clear A30
  by_cases c4 : t131 = 0
  · rw [if_pos c4] at H
    have c4b0 : (t131 == 0) = true := beq_iff_eq.mpr c4
    have c4b1 : (t131 != 0) = false := bne_eq_false_iff_eq.mpr c4
    clear c4
    replace H := Option.bind_eq_some_iff.mp H
    obtain ⟨t132, A50, H⟩ := H
    replace H : (some t132) = some r := H
    have A5 := Aside0.mk A50
    clear A50
    obtain rfl := Option.some.inj H
    go_enter Tryd.func23, Tryd.ntmps23
    go_wp2_with (first | ((with_reducible refine gate_dst (N := 2) rfl ?_); refine box_event ?hg (N := 2) ?hd (cs := #[.int .i64 a0_0, .int .i64 a0_1, .slice A0_2 l0_2.length c0_2]) (t := 53) ?hr ?_; (case hd => rfl); (case hg => rfl); (case hr => first | (go_simp; done) | (go_simp; rfl)); intro gb130 hg w6 hbox hb; have n0_ := Aside0.mk (below_step (by repeat (first | (with_reducible first | exact HB.out | apply below_alloc | apply pw_below_drewN | apply below_drew1) | exact HB.out)) hb); have n1_ := Aside0.mk (hbox); have n2_ := Aside0.mk ((by rw [hg]; exact (below_size (by repeat (first | (with_reducible first | exact HB.out | apply below_alloc | apply pw_below_drewN | apply below_drew1) | exact HB.out))) : w.heap.size ≤ gb130)); have n3_ := Aside0.mk ((by rw [hg]; exact (below_size (by repeat (first | (with_reducible first | exact HB.out | apply below_alloc | apply pw_below_drewN | apply below_drew1) | exact HB.out))) : w.heap.size ≤ gb130)); clear HB; have HB := n0_; have BK130 := n1_; have GW130 := n2_; have GE130 := n3_; clear n0_ n1_ n2_ n3_; clear hb hbox hg; have hcz7_0 : w6.cell? ⟨gb130, 0, none⟩ = some (.int .i64 a0_0) := (blk_cell BK130.out 0).trans rfl; have hcz7_1 : w6.cell? ⟨gb130, 1, none⟩ = some (.int .i64 a0_1) := (blk_cell BK130.out 1).trans rfl; have hcz7_2 : w6.cell? ⟨gb130, 2, none⟩ = some (.slice A0_2 l0_2.length c0_2) := (blk_cell BK130.out 2).trans rfl; have hfz7_0 := blk_frozen BK130.out 0; have hfz7_1 := blk_frozen BK130.out 1; have hfz7_2 := blk_frozen BK130.out 2) | ((with_reducible refine gate_callee (f := 33) rfl ?_); refine goesL_ (some 8) rfl rfl Tryd.func33 (by kernel_rfl) rfl #[.int .i64 (l1.length : Int), .agg #[.int .i64 a0_0, .int .i64 a0_1, .slice A0_2 l0_2.length c0_2]] rfl (by (try simp only [List.map_toArray, List.map_cons, List.map_nil]); first | done | rfl | (simp only [List.length_drop, List.length_take]; rfl)) ?_; (with_reducible refine (rule_Check.calls k (l1.length : Int) a0_0 a0_1 _ _ l0_2 t131 _ ?side1 ?side2 A3.out).mono ?_); (case side1 => repeat (first | exact (Kd.C_below HR0_2.out HB.out) | (with_reducible refine Kd.C_alloc ?_ _) | (with_reducible refine Kd.C_drewN ?_ _) | (with_reducible refine Kd.C_drew ?_))); (case side2 => exact HC0_2.out); rintro e w8 ⟨rfl, hb⟩; refine ⟨_, rfl, ?_⟩; have n0_ := Aside0.mk (blk_below (g := gb130) (o := .cells #[.int .i64 a0_0, .int .i64 a0_1, .slice A0_2 l0_2.length c0_2] 53 (0, 0)) (by (with_reducible repeat (first | refine blk_drewN ?_ _ | refine blk_drew ?_ | refine blk_alloc ?_ _)); exact BK130.out) hb); have n1_ := Aside0.mk (below_step (by repeat (first | (with_reducible first | exact HB.out | apply below_alloc | apply pw_below_drewN | apply below_drew1 | refine below_set ?_ GE130.out) | exact HB.out)) hb); clear BK130; clear HB; have BK130 := n0_; have HB := n1_; clear n0_ n1_; (try clear hb); (try clear hb2); (try clear hk); (try clear hi); have hcz9_0 : w8.cell? ⟨gb130, 0, none⟩ = some (.int .i64 a0_0) := (blk_cell BK130.out 0).trans rfl; have hcz9_1 : w8.cell? ⟨gb130, 1, none⟩ = some (.int .i64 a0_1) := (blk_cell BK130.out 1).trans rfl; have hcz9_2 : w8.cell? ⟨gb130, 2, none⟩ = some (.slice A0_2 l0_2.length c0_2) := (blk_cell BK130.out 2).trans rfl; have hfz9_0 := blk_frozen BK130.out 0; have hfz9_1 := blk_frozen BK130.out 1; have hfz9_2 := blk_frozen BK130.out 2) | (go_at_call 41; (with_reducible refine (rule_keeps.calls a0_0 a0_1 _ _ l0_2 _ _ l1 t132 _ ?side1 ?side2 ?side3 ?side4 A5.out).mono ?_); (case side1 => repeat (first | exact (Kd.C_below HR0_2.out HB.out) | (with_reducible refine Kd.C_alloc ?_ _) | (with_reducible refine Kd.C_drewN ?_ _) | (with_reducible refine Kd.C_drew ?_))); (case side2 => exact HC0_2.out); (case side3 => repeat (first | exact (Kd.C_below HR1.out HB.out) | (with_reducible refine Kd.C_alloc ?_ _) | (with_reducible refine Kd.C_drewN ?_ _) | (with_reducible refine Kd.C_drew ?_))); (case side4 => exact HC1.out); rintro e w10 ⟨rfl, hb⟩; have n0_ := Aside0.mk (blk_below (g := gb130) (o := .cells #[.int .i64 a0_0, .int .i64 a0_1, .slice A0_2 l0_2.length c0_2] 53 (0, 0)) (by (with_reducible repeat (first | refine blk_drewN ?_ _ | refine blk_drew ?_ | refine blk_alloc ?_ _)); exact BK130.out) hb); have n1_ := Aside0.mk (below_step (by repeat (first | (with_reducible first | exact HB.out | apply below_alloc | apply pw_below_drewN | apply below_drew1 | refine below_set ?_ GE130.out) | exact HB.out)) hb); clear BK130; clear HB; have BK130 := n0_; have HB := n1_; clear n0_ n1_; (try clear hb); (try clear hb2); (try clear hk); (try clear hi)))
    go_ret
    exact ⟨by first | rfl | (simp [errW_none, errW_some] <;> rfl) | (simp [*, errW_none, errW_some] <;> rfl), by repeat (first | (with_reducible first | exact HB.out | apply below_alloc | apply pw_below_drewN | apply below_drew1 | refine below_set ?_ GE130.out) | exact HB.out)⟩
  · rw [if_neg c4] at H
    have c4b0 : (t131 == 0) = false := beq_eq_false_iff_ne.mpr c4
    have c4b1 : (t131 != 0) = true := bne_iff_ne.mpr c4
    obtain rfl := Option.some.inj H
    go_enter Tryd.func23, Tryd.ntmps23
    go_wp2_with (first | ((with_reducible refine gate_dst (N := 2) rfl ?_); refine box_event ?hg (N := 2) ?hd (cs := #[.int .i64 a0_0, .int .i64 a0_1, .slice A0_2 l0_2.length c0_2]) (t := 53) ?hr ?_; (case hd => rfl); (case hg => rfl); (case hr => first | (go_simp; done) | (go_simp; rfl)); intro gb130 hg w11 hbox hb; have n0_ := Aside0.mk (below_step (by repeat (first | (with_reducible first | exact HB.out | apply below_alloc | apply pw_below_drewN | apply below_drew1) | exact HB.out)) hb); have n1_ := Aside0.mk (hbox); have n2_ := Aside0.mk ((by rw [hg]; exact (below_size (by repeat (first | (with_reducible first | exact HB.out | apply below_alloc | apply pw_below_drewN | apply below_drew1) | exact HB.out))) : w.heap.size ≤ gb130)); have n3_ := Aside0.mk ((by rw [hg]; exact (below_size (by repeat (first | (with_reducible first | exact HB.out | apply below_alloc | apply pw_below_drewN | apply below_drew1) | exact HB.out))) : w.heap.size ≤ gb130)); clear HB; have HB := n0_; have BK130 := n1_; have GW130 := n2_; have GE130 := n3_; clear n0_ n1_ n2_ n3_; clear hb hbox hg; have hcz12_0 : w11.cell? ⟨gb130, 0, none⟩ = some (.int .i64 a0_0) := (blk_cell BK130.out 0).trans rfl; have hcz12_1 : w11.cell? ⟨gb130, 1, none⟩ = some (.int .i64 a0_1) := (blk_cell BK130.out 1).trans rfl; have hcz12_2 : w11.cell? ⟨gb130, 2, none⟩ = some (.slice A0_2 l0_2.length c0_2) := (blk_cell BK130.out 2).trans rfl; have hfz12_0 := blk_frozen BK130.out 0; have hfz12_1 := blk_frozen BK130.out 1; have hfz12_2 := blk_frozen BK130.out 2) | ((with_reducible refine gate_callee (f := 33) rfl ?_); refine goesL_ (some 8) rfl rfl Tryd.func33 (by kernel_rfl) rfl #[.int .i64 (l1.length : Int), .agg #[.int .i64 a0_0, .int .i64 a0_1, .slice A0_2 l0_2.length c0_2]] rfl (by (try simp only [List.map_toArray, List.map_cons, List.map_nil]); first | done | rfl | (simp only [List.length_drop, List.length_take]; rfl)) ?_; (with_reducible refine (rule_Check.calls k (l1.length : Int) a0_0 a0_1 _ _ l0_2 t131 _ ?side1 ?side2 A3.out).mono ?_); (case side1 => repeat (first | exact (Kd.C_below HR0_2.out HB.out) | (with_reducible refine Kd.C_alloc ?_ _) | (with_reducible refine Kd.C_drewN ?_ _) | (with_reducible refine Kd.C_drew ?_))); (case side2 => exact HC0_2.out); rintro e w13 ⟨rfl, hb⟩; refine ⟨_, rfl, ?_⟩; have n0_ := Aside0.mk (blk_below (g := gb130) (o := .cells #[.int .i64 a0_0, .int .i64 a0_1, .slice A0_2 l0_2.length c0_2] 53 (0, 0)) (by (with_reducible repeat (first | refine blk_drewN ?_ _ | refine blk_drew ?_ | refine blk_alloc ?_ _)); exact BK130.out) hb); have n1_ := Aside0.mk (below_step (by repeat (first | (with_reducible first | exact HB.out | apply below_alloc | apply pw_below_drewN | apply below_drew1 | refine below_set ?_ GE130.out) | exact HB.out)) hb); clear BK130; clear HB; have BK130 := n0_; have HB := n1_; clear n0_ n1_; (try clear hb); (try clear hb2); (try clear hk); (try clear hi)))
    go_ret
    exact ⟨by first | rfl | (simp [errW_none, errW_some] <;> rfl) | (simp [*, errW_none, errW_some] <;> rfl), by repeat (first | (with_reducible first | exact HB.out | apply below_alloc | apply pw_below_drewN | apply below_drew1 | refine below_set ?_ GE130.out) | exact HB.out)⟩

/-! ### provostlaw06_wakes: function 12 -/
def provostlaw06_wakes.f (k : Nat)  : Option (Bool) := (some (([0, 2] : List Int) : List Int)).bind fun y133 => ((rule_Check.f k 3 1 0 y133).bind fun t137 => (if t137 = 0 then ((rule_Holds.f k 1 0 y133 (([5, 7, 6] : List Int))).bind fun t141 => (if t141 = true then ((rule_Holds.f k 1 0 y133 (([5, 7, 5] : List Int))).bind fun t145 => (some (!t145))) else (some false))) else (some false)))
theorem provostlaw06_wakes.mono : ∀ k, LeO (provostlaw06_wakes.f k ) (provostlaw06_wakes.f (k + 1) ) := by
  intro  k
  unfold provostlaw06_wakes.f
  repeat' first
      | (with_reducible exact rule_Check.mono _ _ _ _ _)
      | (with_reducible exact rule_Holds.mono _ _ _ _ _)
      | (with_reducible exact LeO.refl _)
      | (with_reducible exact LeO.none _)
      | (with_reducible refine LeO.ite ?_ ?_)
      | (with_reducible refine LeO.bind ?_ (fun _ => ?_))
      | exact rule_Check.mono _ _ _ _ _
      | exact rule_Holds.mono _ _ _ _ _
      | exact LeO.none _
      | refine LeO.ite ?_ ?_
      | refine LeO.bind ?_ (fun _ => ?_)
set_option maxHeartbeats 8000000 in
set_option maxRecDepth 100000 in
theorem provostlaw06_wakes.calls (k : Nat)  (r : Bool) (w : World) (h : provostlaw06_wakes.f k  = some r) :
    Calls Tryd.prog 12 #[] w fun e w' => e = .returned (.bool r) ∧ Below w.heap.size w w' := by
  have hu53 := Tryd.underlying53
  have HB := Aside0.mk (Below.refl w.heap.size w)
  have H : ((some (([0, 2] : List Int) : List Int)).bind fun y133 => ((rule_Check.f k 3 1 0 y133).bind fun t137 => (if t137 = 0 then ((rule_Holds.f k 1 0 y133 (([5, 7, 6] : List Int))).bind fun t141 => (if t141 = true then ((rule_Holds.f k 1 0 y133 (([5, 7, 5] : List Int))).bind fun t145 => (some (!t145))) else (some false))) else (some false)))) = some r := h
  clear h
  obtain ⟨y133, hy133⟩ : ∃ y_ : List Int, y_ = (([0, 2] : List Int)) := ⟨_, rfl⟩
  replace H : ((rule_Check.f k 3 1 0 y133).bind fun t137 => (if t137 = 0 then ((rule_Holds.f k 1 0 y133 (([5, 7, 6] : List Int))).bind fun t141 => (if t141 = true then ((rule_Holds.f k 1 0 y133 (([5, 7, 5] : List Int))).bind fun t145 => (some (!t145))) else (some false))) else (some false))) = some r := by first | (rw [hy133]; with_reducible exact H) | (have H2_ := (Option.bind_some _ _).symm.trans H; rw [hy133]; with_reducible exact H2_) | (have H2_ := (Option.bind_some _ _).symm.trans H; with_reducible exact H2_) | with_reducible exact H | (rw [hy133]; exact H) | exact H
  have Ny133 := Aside0.mk hy133
  clear hy133
  replace H := Option.bind_eq_some_iff.mp H
  obtain ⟨t137, A10, H⟩ := H
  replace H : (if t137 = 0 then ((rule_Holds.f k 1 0 y133 (([5, 7, 6] : List Int))).bind fun t141 => (if t141 = true then ((rule_Holds.f k 1 0 y133 (([5, 7, 5] : List Int))).bind fun t145 => (some (!t145))) else (some false))) else (some false)) = some r := H
  have A1 := Aside0.mk A10
  clear A10
  by_cases c2 : t137 = 0
  · rw [if_pos c2] at H
    have c2b0 : (t137 == 0) = true := beq_iff_eq.mpr c2
    have c2b1 : (t137 != 0) = false := bne_eq_false_iff_eq.mpr c2
    clear c2
    obtain ⟨y138, hy138⟩ : ∃ y_ : List Int, y_ = (([5, 7, 6] : List Int)) := ⟨_, rfl⟩
    replace H : ((rule_Holds.f k 1 0 y133 y138).bind fun t141 => (if t141 = true then ((rule_Holds.f k 1 0 y133 (([5, 7, 5] : List Int))).bind fun t145 => (some (!t145))) else (some false))) = some r := by first | (rw [hy138]; with_reducible exact H) | (have H2_ := (Option.bind_some _ _).symm.trans H; rw [hy138]; with_reducible exact H2_) | (have H2_ := (Option.bind_some _ _).symm.trans H; with_reducible exact H2_) | with_reducible exact H | (rw [hy138]; exact H) | exact H
    have Ny138 := Aside0.mk hy138
    clear hy138
    replace H := Option.bind_eq_some_iff.mp H
    obtain ⟨t141, A30, H⟩ := H
    replace H : (if t141 = true then ((rule_Holds.f k 1 0 y133 (([5, 7, 5] : List Int))).bind fun t145 => (some (!t145))) else (some false)) = some r := H
    have A3 := Aside0.mk A30
    clear A30
    by_cases c4 : t141 = true
    · subst c4
      have H1 : ((rule_Holds.f k 1 0 y133 (([5, 7, 5] : List Int))).bind fun t145 => (some (!t145))) = some r := by rw [if_pos rfl] at H; exact H
      clear H
      have H := H1
      clear H1
      obtain ⟨y142, hy142⟩ : ∃ y_ : List Int, y_ = (([5, 7, 5] : List Int)) := ⟨_, rfl⟩
      replace H : ((rule_Holds.f k 1 0 y133 y142).bind fun t145 => (some (!t145))) = some r := by first | (rw [hy142]; with_reducible exact H) | (have H2_ := (Option.bind_some _ _).symm.trans H; rw [hy142]; with_reducible exact H2_) | (have H2_ := (Option.bind_some _ _).symm.trans H; with_reducible exact H2_) | with_reducible exact H | (rw [hy142]; exact H) | exact H
      have Ny142 := Aside0.mk hy142
      clear hy142
      replace H := Option.bind_eq_some_iff.mp H
      obtain ⟨t145, A50, H⟩ := H
      replace H : (some (!t145)) = some r := H
      have A5 := Aside0.mk A50
      clear A50
      obtain rfl := Option.some.inj H
      go_enter Tryd.func12, Tryd.ntmps12
      go_wp2_with (first | ((with_reducible refine gate_dst (N := 2) rfl ?_); (try (refine gate_guard (by rfl) ?_; dsimp only)); refine Kd.R_lit (Kd.int .i64) _ 3 ?hg (N := 2) ?hd (xs := ([0, 2] : List Int)) (inner := [.int .i64 0, .int .i64 2]) (ok := fun _ => True) (okp := fun _ => True) ?hr ?hp (fun _ hk => hk) trivial (Below.refl _ _) (Nat.le_refl _) (by simp) ?_; (case hd => rfl); (case hg => rfl); (case hr => first | (go_simp; done) | (go_simp; rfl)); (case hp => exact (Reps.one (show Kd.M (Kd.int .i64) _ _ _ 0 [.int .i64 0] from rfl) (Reps.one (show Kd.M (Kd.int .i64) _ _ _ 2 [.int .i64 2] from rfl) (Reps.none _ _)))); intro v134 w6 ho7 hb hg_ hnew_; clear hg_ hnew_; (first | rw [← Ny133.out] at ho7 | (simp only [Int.reduceToNat] at ho7; rw [← Ny133.out] at ho7)); have n0_ := Aside0.mk (Kd.R_lower ho7 (below_size (by repeat (first | (with_reducible first | exact HB.out | apply below_alloc | apply pw_below_drewN | apply below_drew1) | exact HB.out)))); have n1_ := Aside0.mk (below_step (by repeat (first | (with_reducible first | exact HB.out | apply below_alloc | apply pw_below_drewN | apply below_drew1) | exact HB.out)) hb); clear HB; have HO135 := n0_; have HB := n1_; clear n0_ n1_; clear hb ho7; obtain ⟨Ao8, co8, eo8⟩ := Kd.R_slice HO135.out; subst eo8) | ((with_reducible refine gate_dst (N := 1) rfl ?_); (try (refine gate_guard (by rfl) ?_; dsimp only)); refine box_event ?hg (N := 1) ?hd (cs := #[.int .i64 0, .int .i64 0, .slice none 0 0]) (t := 53) ?hr ?_; (case hd => rfl); (case hg => rfl); (case hr => first | (go_simp; done) | (go_simp; rfl)); intro gb136 hg w9 hbox hb; have n0_ := Aside0.mk (Kd.R_below (by (with_reducible repeat (first | apply Kd.R_alloc | apply Kd.R_drewN | apply Kd.R_drew)); exact HO135.out) hb); have n1_ := Aside0.mk (below_step (by repeat (first | (with_reducible first | exact HB.out | apply below_alloc | apply pw_below_drewN | apply below_drew1) | exact HB.out)) hb); have n2_ := Aside0.mk (hbox); have n3_ := Aside0.mk ((by rw [hg]; exact (below_size (by repeat (first | (with_reducible first | exact HB.out | apply below_alloc | apply pw_below_drewN | apply below_drew1) | exact HB.out))) : w.heap.size ≤ gb136)); have n4_ := Aside0.mk ((by rw [hg]; exact (below_size (by repeat (first | (with_reducible first | exact HB.out | apply below_alloc | apply pw_below_drewN | apply below_drew1) | exact HB.out))) : w.heap.size ≤ gb136)); clear HO135; clear HB; have HO135 := n0_; have HB := n1_; have BK136 := n2_; have GW136 := n3_; have GE136 := n4_; clear n0_ n1_ n2_ n3_ n4_; clear hb hbox hg; have hcz10_0 : w9.cell? ⟨gb136, 0, none⟩ = some (.int .i64 0) := (blk_cell BK136.out 0).trans rfl; have hcz10_1 : w9.cell? ⟨gb136, 1, none⟩ = some (.int .i64 0) := (blk_cell BK136.out 1).trans rfl; have hcz10_2 : w9.cell? ⟨gb136, 2, none⟩ = some (.slice none 0 0) := (blk_cell BK136.out 2).trans rfl; have hfz10_0 := blk_frozen BK136.out 0; have hfz10_1 := blk_frozen BK136.out 1; have hfz10_2 := blk_frozen BK136.out 2) | ((with_reducible refine gate_callee (f := 33) rfl ?_); refine goesL_ (some 5) rfl rfl Tryd.func33 (by kernel_rfl) rfl #[.int .i64 3, .agg #[.int .i64 1, .int .i64 0, .slice Ao8 y133.length co8]] rfl (by (try simp only [List.map_toArray, List.map_cons, List.map_nil]); first | done | rfl | (simp only [List.length_drop, List.length_take]; rfl)) ?_; (with_reducible refine (rule_Check.calls k 3 1 0 _ _ y133 t137 _ ?side1 ?side2 A1.out).mono ?_); (case side1 => refine (Kd.R_reads' (e := 3) (base := w.heap.size) (ok := fun k_ => True) (n := y133.length) (c := co8) ?_).2.2; exact (by (with_reducible repeat (first | apply Kd.R_alloc | apply Kd.R_drewN | apply Kd.R_drew)); exact (Kd.R_mono (Kd.R_far (p := ⟨gb136, 2, none⟩) (Kd.R_far (p := ⟨gb136, 1, none⟩) (Kd.R_far (p := ⟨gb136, 0, none⟩) (Kd.R_types HO135.out BK136.out (by decide)) (fun _ hk => hk.2) (.int .i64 1)) (fun _ hk => hk.2) (.int .i64 0)) (fun _ hk => hk.2) (.slice Ao8 y133.length co8)) (fun _ h_ => h_.1)))); (case side2 => exact (Kd.R_reads' HO135.out).2.1); rintro e w11 ⟨rfl, hb⟩; refine ⟨_, rfl, ?_⟩; have n0_ := Aside0.mk (Kd.R_below (by (with_reducible repeat (first | apply Kd.R_alloc | apply Kd.R_drewN | apply Kd.R_drew)); exact (Kd.R_mono (Kd.R_far (p := ⟨gb136, 2, none⟩) (Kd.R_far (p := ⟨gb136, 1, none⟩) (Kd.R_far (p := ⟨gb136, 0, none⟩) (Kd.R_types HO135.out BK136.out (by decide)) (fun _ hk => hk.2) (.int .i64 1)) (fun _ hk => hk.2) (.int .i64 0)) (fun _ hk => hk.2) (.slice Ao8 y133.length co8)) (fun _ h_ => h_.1))) hb); have n1_ := Aside0.mk (blk_below (g := gb136) (o := .cells #[.int .i64 1, .int .i64 0, .slice Ao8 y133.length co8] 53 (0, 0)) (by (with_reducible repeat (first | refine blk_drewN ?_ _ | refine blk_drew ?_ | refine blk_alloc ?_ _)); refine blk_put (cs := #[.int .i64 1, .int .i64 0, .slice none 0 0]) ?_ 2 _ rfl; (with_reducible repeat (first | refine blk_drewN ?_ _ | refine blk_drew ?_ | refine blk_alloc ?_ _)); refine blk_put (cs := #[.int .i64 1, .int .i64 0, .slice none 0 0]) ?_ 1 _ rfl; (with_reducible repeat (first | refine blk_drewN ?_ _ | refine blk_drew ?_ | refine blk_alloc ?_ _)); refine blk_put (cs := #[.int .i64 0, .int .i64 0, .slice none 0 0]) ?_ 0 _ rfl; (with_reducible repeat (first | refine blk_drewN ?_ _ | refine blk_drew ?_ | refine blk_alloc ?_ _)); exact BK136.out) hb); have n2_ := Aside0.mk (below_step (by repeat (first | (with_reducible first | exact HB.out | apply below_alloc | apply pw_below_drewN | apply below_drew1 | refine below_set ?_ GE136.out) | exact HB.out)) hb); clear HO135; clear BK136; clear HB; have HO135 := n0_; have BK136 := n1_; have HB := n2_; clear n0_ n1_ n2_; (try clear hb); (try clear hb2); (try clear hk); (try clear hi); have hcz12_0 : w11.cell? ⟨gb136, 0, none⟩ = some (.int .i64 1) := (blk_cell BK136.out 0).trans rfl; have hcz12_1 : w11.cell? ⟨gb136, 1, none⟩ = some (.int .i64 0) := (blk_cell BK136.out 1).trans rfl; have hcz12_2 : w11.cell? ⟨gb136, 2, none⟩ = some (.slice Ao8 y133.length co8) := (blk_cell BK136.out 2).trans rfl; have hfz12_0 := blk_frozen BK136.out 0; have hfz12_1 := blk_frozen BK136.out 1; have hfz12_2 := blk_frozen BK136.out 2) | ((with_reducible refine gate_dst (N := 9) rfl ?_); (try (refine gate_guard (by rfl) ?_; dsimp only)); refine Kd.R_lit (Kd.int .i64) _ 3 ?hg (N := 9) ?hd (xs := ([5, 7, 6] : List Int)) (inner := [.int .i64 5, .int .i64 7, .int .i64 6]) (ok := fun _ => True) (okp := fun _ => True) ?hr ?hp (fun _ hk => hk) trivial (Below.refl _ _) (Nat.le_refl _) (by simp) ?_; (case hd => rfl); (case hg => rfl); (case hr => first | (go_simp; done) | (go_simp; rfl)); (case hp => exact (Reps.one (show Kd.M (Kd.int .i64) _ _ _ 5 [.int .i64 5] from rfl) (Reps.one (show Kd.M (Kd.int .i64) _ _ _ 7 [.int .i64 7] from rfl) (Reps.one (show Kd.M (Kd.int .i64) _ _ _ 6 [.int .i64 6] from rfl) (Reps.none _ _))))); intro v139 w13 ho14 hb hg_ hnew_; clear hg_ hnew_; (first | rw [← Ny138.out] at ho14 | (simp only [Int.reduceToNat] at ho14; rw [← Ny138.out] at ho14)); have n0_ := Aside0.mk (Kd.R_elder' (by (with_reducible repeat (first | apply Kd.R_alloc | apply Kd.R_drewN | apply Kd.R_drew)); exact HO135.out) (Kd.R_base ho14) hb); have n1_ := Aside0.mk (Kd.R_lower (Kd.R_new' ho14 (Kd.R_lt (by (with_reducible repeat (first | apply Kd.R_alloc | apply Kd.R_drewN | apply Kd.R_drew)); exact HO135.out))) (below_size (by repeat (first | (with_reducible first | exact HB.out | apply below_alloc | apply pw_below_drewN | apply below_drew1 | refine below_set ?_ GE136.out) | exact HB.out)))); have n2_ := Aside0.mk (blk_below (g := gb136) (o := .cells #[.int .i64 1, .int .i64 0, .slice Ao8 y133.length co8] 53 (0, 0)) (by (with_reducible repeat (first | refine blk_drewN ?_ _ | refine blk_drew ?_ | refine blk_alloc ?_ _)); exact BK136.out) hb); have n3_ := Aside0.mk (below_step (by repeat (first | (with_reducible first | exact HB.out | apply below_alloc | apply pw_below_drewN | apply below_drew1 | refine below_set ?_ GE136.out) | exact HB.out)) hb); clear HO135; clear BK136; clear HB; have HO135 := n0_; have HO140 := n1_; have BK136 := n2_; have HB := n3_; clear n0_ n1_ n2_ n3_; clear hb ho14; obtain ⟨Ao15, co15, eo15⟩ := Kd.R_slice HO140.out; subst eo15) | (go_at_call 23; (with_reducible refine (rule_Holds.calls k 1 0 _ _ y133 _ _ y138 true _ ?side1 ?side2 ?side3 ?side4 A3.out).mono ?_); (case side1 => repeat (first | exact (Kd.R_reads' HO135.out).2.2 | (with_reducible refine Kd.C_alloc ?_ _) | (with_reducible refine Kd.C_drewN ?_ _) | (with_reducible refine Kd.C_drew ?_))); (case side2 => exact (Kd.R_reads' HO135.out).2.1); (case side3 => repeat (first | exact (Kd.R_reads' HO140.out).2.2 | (with_reducible refine Kd.C_alloc ?_ _) | (with_reducible refine Kd.C_drewN ?_ _) | (with_reducible refine Kd.C_drew ?_))); (case side4 => exact (Kd.R_reads' HO140.out).2.1); rintro e w16 ⟨rfl, hb⟩; have n0_ := Aside0.mk (Kd.R_below (by (with_reducible repeat (first | apply Kd.R_alloc | apply Kd.R_drewN | apply Kd.R_drew)); exact HO135.out) hb); have n1_ := Aside0.mk (Kd.R_below (by (with_reducible repeat (first | apply Kd.R_alloc | apply Kd.R_drewN | apply Kd.R_drew)); exact HO140.out) hb); have n2_ := Aside0.mk (blk_below (g := gb136) (o := .cells #[.int .i64 1, .int .i64 0, .slice Ao8 y133.length co8] 53 (0, 0)) (by (with_reducible repeat (first | refine blk_drewN ?_ _ | refine blk_drew ?_ | refine blk_alloc ?_ _)); exact BK136.out) hb); have n3_ := Aside0.mk (below_step (by repeat (first | (with_reducible first | exact HB.out | apply below_alloc | apply pw_below_drewN | apply below_drew1 | refine below_set ?_ GE136.out) | exact HB.out)) hb); clear HO135; clear HO140; clear BK136; clear HB; have HO135 := n0_; have HO140 := n1_; have BK136 := n2_; have HB := n3_; clear n0_ n1_ n2_ n3_; (try clear hb); (try clear hb2); (try clear hk); (try clear hi); have hcz17_0 : w16.cell? ⟨gb136, 0, none⟩ = some (.int .i64 1) := (blk_cell BK136.out 0).trans rfl; have hcz17_1 : w16.cell? ⟨gb136, 1, none⟩ = some (.int .i64 0) := (blk_cell BK136.out 1).trans rfl; have hcz17_2 : w16.cell? ⟨gb136, 2, none⟩ = some (.slice Ao8 y133.length co8) := (blk_cell BK136.out 2).trans rfl; have hfz17_0 := blk_frozen BK136.out 0; have hfz17_1 := blk_frozen BK136.out 1; have hfz17_2 := blk_frozen BK136.out 2) | ((with_reducible refine gate_dst (N := 14) rfl ?_); (try (refine gate_guard (by rfl) ?_; dsimp only)); refine Kd.R_lit (Kd.int .i64) _ 3 ?hg (N := 14) ?hd (xs := ([5, 7, 5] : List Int)) (inner := [.int .i64 5, .int .i64 7, .int .i64 5]) (ok := fun _ => True) (okp := fun _ => True) ?hr ?hp (fun _ hk => hk) trivial (Below.refl _ _) (Nat.le_refl _) (by simp) ?_; (case hd => rfl); (case hg => rfl); (case hr => first | (go_simp; done) | (go_simp; rfl)); (case hp => exact (Reps.one (show Kd.M (Kd.int .i64) _ _ _ 5 [.int .i64 5] from rfl) (Reps.one (show Kd.M (Kd.int .i64) _ _ _ 7 [.int .i64 7] from rfl) (Reps.one (show Kd.M (Kd.int .i64) _ _ _ 5 [.int .i64 5] from rfl) (Reps.none _ _))))); intro v143 w18 ho19 hb hg_ hnew_; clear hg_ hnew_; (first | rw [← Ny142.out] at ho19 | (simp only [Int.reduceToNat] at ho19; rw [← Ny142.out] at ho19)); have n0_ := Aside0.mk (Kd.R_elder' (by (with_reducible repeat (first | apply Kd.R_alloc | apply Kd.R_drewN | apply Kd.R_drew)); exact HO135.out) (Kd.R_base ho19) hb); have n1_ := Aside0.mk (Kd.R_elder' (by (with_reducible repeat (first | apply Kd.R_alloc | apply Kd.R_drewN | apply Kd.R_drew)); exact HO140.out) (Kd.R_base ho19) hb); have n2_ := Aside0.mk (Kd.R_lower (Kd.R_new' (Kd.R_new' ho19 (Kd.R_lt (by (with_reducible repeat (first | apply Kd.R_alloc | apply Kd.R_drewN | apply Kd.R_drew)); exact HO135.out))) (Kd.R_lt (by (with_reducible repeat (first | apply Kd.R_alloc | apply Kd.R_drewN | apply Kd.R_drew)); exact HO140.out))) (below_size (by repeat (first | (with_reducible first | exact HB.out | apply below_alloc | apply pw_below_drewN | apply below_drew1 | refine below_set ?_ GE136.out) | exact HB.out)))); have n3_ := Aside0.mk (blk_below (g := gb136) (o := .cells #[.int .i64 1, .int .i64 0, .slice Ao8 y133.length co8] 53 (0, 0)) (by (with_reducible repeat (first | refine blk_drewN ?_ _ | refine blk_drew ?_ | refine blk_alloc ?_ _)); exact BK136.out) hb); have n4_ := Aside0.mk (below_step (by repeat (first | (with_reducible first | exact HB.out | apply below_alloc | apply pw_below_drewN | apply below_drew1 | refine below_set ?_ GE136.out) | exact HB.out)) hb); clear HO135; clear HO140; clear BK136; clear HB; have HO135 := n0_; have HO140 := n1_; have HO144 := n2_; have BK136 := n3_; have HB := n4_; clear n0_ n1_ n2_ n3_ n4_; clear hb ho19; obtain ⟨Ao20, co20, eo20⟩ := Kd.R_slice HO144.out; subst eo20) | (go_at_call 23; (with_reducible refine (rule_Holds.calls k 1 0 _ _ y133 _ _ y142 t145 _ ?side1 ?side2 ?side3 ?side4 A5.out).mono ?_); (case side1 => repeat (first | exact (Kd.R_reads' HO135.out).2.2 | (with_reducible refine Kd.C_alloc ?_ _) | (with_reducible refine Kd.C_drewN ?_ _) | (with_reducible refine Kd.C_drew ?_))); (case side2 => exact (Kd.R_reads' HO135.out).2.1); (case side3 => repeat (first | exact (Kd.R_reads' HO144.out).2.2 | (with_reducible refine Kd.C_alloc ?_ _) | (with_reducible refine Kd.C_drewN ?_ _) | (with_reducible refine Kd.C_drew ?_))); (case side4 => exact (Kd.R_reads' HO144.out).2.1); rintro e w21 ⟨rfl, hb⟩; have n0_ := Aside0.mk (Kd.R_below (by (with_reducible repeat (first | apply Kd.R_alloc | apply Kd.R_drewN | apply Kd.R_drew)); exact HO135.out) hb); have n1_ := Aside0.mk (Kd.R_below (by (with_reducible repeat (first | apply Kd.R_alloc | apply Kd.R_drewN | apply Kd.R_drew)); exact HO140.out) hb); have n2_ := Aside0.mk (Kd.R_below (by (with_reducible repeat (first | apply Kd.R_alloc | apply Kd.R_drewN | apply Kd.R_drew)); exact HO144.out) hb); have n3_ := Aside0.mk (blk_below (g := gb136) (o := .cells #[.int .i64 1, .int .i64 0, .slice Ao8 y133.length co8] 53 (0, 0)) (by (with_reducible repeat (first | refine blk_drewN ?_ _ | refine blk_drew ?_ | refine blk_alloc ?_ _)); exact BK136.out) hb); have n4_ := Aside0.mk (below_step (by repeat (first | (with_reducible first | exact HB.out | apply below_alloc | apply pw_below_drewN | apply below_drew1 | refine below_set ?_ GE136.out) | exact HB.out)) hb); clear HO135; clear HO140; clear HO144; clear BK136; clear HB; have HO135 := n0_; have HO140 := n1_; have HO144 := n2_; have BK136 := n3_; have HB := n4_; clear n0_ n1_ n2_ n3_ n4_; (try clear hb); (try clear hb2); (try clear hk); (try clear hi)))
      go_ret
      exact ⟨by first | rfl | (simp [errW_none, errW_some] <;> rfl) | (simp [*, errW_none, errW_some] <;> rfl), by repeat (first | (with_reducible first | exact HB.out | apply below_alloc | apply pw_below_drewN | apply below_drew1 | refine below_set ?_ GE136.out) | exact HB.out)⟩
    · replace c4 := Bool.eq_false_iff.mpr c4
      subst c4
      have H1 : (some false) = some r := by rw [if_neg (show ¬ (false = true) by decide)] at H; exact H
      clear H
      have H := H1
      clear H1
      obtain rfl := Option.some.inj H
      go_enter Tryd.func12, Tryd.ntmps12
      go_wp2_with (first | ((with_reducible refine gate_dst (N := 2) rfl ?_); (try (refine gate_guard (by rfl) ?_; dsimp only)); refine Kd.R_lit (Kd.int .i64) _ 3 ?hg (N := 2) ?hd (xs := ([0, 2] : List Int)) (inner := [.int .i64 0, .int .i64 2]) (ok := fun _ => True) (okp := fun _ => True) ?hr ?hp (fun _ hk => hk) trivial (Below.refl _ _) (Nat.le_refl _) (by simp) ?_; (case hd => rfl); (case hg => rfl); (case hr => first | (go_simp; done) | (go_simp; rfl)); (case hp => exact (Reps.one (show Kd.M (Kd.int .i64) _ _ _ 0 [.int .i64 0] from rfl) (Reps.one (show Kd.M (Kd.int .i64) _ _ _ 2 [.int .i64 2] from rfl) (Reps.none _ _)))); intro v134 w22 ho23 hb hg_ hnew_; clear hg_ hnew_; (first | rw [← Ny133.out] at ho23 | (simp only [Int.reduceToNat] at ho23; rw [← Ny133.out] at ho23)); have n0_ := Aside0.mk (Kd.R_lower ho23 (below_size (by repeat (first | (with_reducible first | exact HB.out | apply below_alloc | apply pw_below_drewN | apply below_drew1) | exact HB.out)))); have n1_ := Aside0.mk (below_step (by repeat (first | (with_reducible first | exact HB.out | apply below_alloc | apply pw_below_drewN | apply below_drew1) | exact HB.out)) hb); clear HB; have HO135 := n0_; have HB := n1_; clear n0_ n1_; clear hb ho23; obtain ⟨Ao24, co24, eo24⟩ := Kd.R_slice HO135.out; subst eo24) | ((with_reducible refine gate_dst (N := 1) rfl ?_); (try (refine gate_guard (by rfl) ?_; dsimp only)); refine box_event ?hg (N := 1) ?hd (cs := #[.int .i64 0, .int .i64 0, .slice none 0 0]) (t := 53) ?hr ?_; (case hd => rfl); (case hg => rfl); (case hr => first | (go_simp; done) | (go_simp; rfl)); intro gb136 hg w25 hbox hb; have n0_ := Aside0.mk (Kd.R_below (by (with_reducible repeat (first | apply Kd.R_alloc | apply Kd.R_drewN | apply Kd.R_drew)); exact HO135.out) hb); have n1_ := Aside0.mk (below_step (by repeat (first | (with_reducible first | exact HB.out | apply below_alloc | apply pw_below_drewN | apply below_drew1) | exact HB.out)) hb); have n2_ := Aside0.mk (hbox); have n3_ := Aside0.mk ((by rw [hg]; exact (below_size (by repeat (first | (with_reducible first | exact HB.out | apply below_alloc | apply pw_below_drewN | apply below_drew1) | exact HB.out))) : w.heap.size ≤ gb136)); have n4_ := Aside0.mk ((by rw [hg]; exact (below_size (by repeat (first | (with_reducible first | exact HB.out | apply below_alloc | apply pw_below_drewN | apply below_drew1) | exact HB.out))) : w.heap.size ≤ gb136)); clear HO135; clear HB; have HO135 := n0_; have HB := n1_; have BK136 := n2_; have GW136 := n3_; have GE136 := n4_; clear n0_ n1_ n2_ n3_ n4_; clear hb hbox hg; have hcz26_0 : w25.cell? ⟨gb136, 0, none⟩ = some (.int .i64 0) := (blk_cell BK136.out 0).trans rfl; have hcz26_1 : w25.cell? ⟨gb136, 1, none⟩ = some (.int .i64 0) := (blk_cell BK136.out 1).trans rfl; have hcz26_2 : w25.cell? ⟨gb136, 2, none⟩ = some (.slice none 0 0) := (blk_cell BK136.out 2).trans rfl; have hfz26_0 := blk_frozen BK136.out 0; have hfz26_1 := blk_frozen BK136.out 1; have hfz26_2 := blk_frozen BK136.out 2) | ((with_reducible refine gate_callee (f := 33) rfl ?_); refine goesL_ (some 5) rfl rfl Tryd.func33 (by kernel_rfl) rfl #[.int .i64 3, .agg #[.int .i64 1, .int .i64 0, .slice Ao24 y133.length co24]] rfl (by (try simp only [List.map_toArray, List.map_cons, List.map_nil]); first | done | rfl | (simp only [List.length_drop, List.length_take]; rfl)) ?_; (with_reducible refine (rule_Check.calls k 3 1 0 _ _ y133 t137 _ ?side1 ?side2 A1.out).mono ?_); (case side1 => refine (Kd.R_reads' (e := 3) (base := w.heap.size) (ok := fun k_ => True) (n := y133.length) (c := co24) ?_).2.2; exact (by (with_reducible repeat (first | apply Kd.R_alloc | apply Kd.R_drewN | apply Kd.R_drew)); exact (Kd.R_mono (Kd.R_far (p := ⟨gb136, 2, none⟩) (Kd.R_far (p := ⟨gb136, 1, none⟩) (Kd.R_far (p := ⟨gb136, 0, none⟩) (Kd.R_types HO135.out BK136.out (by decide)) (fun _ hk => hk.2) (.int .i64 1)) (fun _ hk => hk.2) (.int .i64 0)) (fun _ hk => hk.2) (.slice Ao24 y133.length co24)) (fun _ h_ => h_.1)))); (case side2 => exact (Kd.R_reads' HO135.out).2.1); rintro e w27 ⟨rfl, hb⟩; refine ⟨_, rfl, ?_⟩; have n0_ := Aside0.mk (Kd.R_below (by (with_reducible repeat (first | apply Kd.R_alloc | apply Kd.R_drewN | apply Kd.R_drew)); exact (Kd.R_mono (Kd.R_far (p := ⟨gb136, 2, none⟩) (Kd.R_far (p := ⟨gb136, 1, none⟩) (Kd.R_far (p := ⟨gb136, 0, none⟩) (Kd.R_types HO135.out BK136.out (by decide)) (fun _ hk => hk.2) (.int .i64 1)) (fun _ hk => hk.2) (.int .i64 0)) (fun _ hk => hk.2) (.slice Ao24 y133.length co24)) (fun _ h_ => h_.1))) hb); have n1_ := Aside0.mk (blk_below (g := gb136) (o := .cells #[.int .i64 1, .int .i64 0, .slice Ao24 y133.length co24] 53 (0, 0)) (by (with_reducible repeat (first | refine blk_drewN ?_ _ | refine blk_drew ?_ | refine blk_alloc ?_ _)); refine blk_put (cs := #[.int .i64 1, .int .i64 0, .slice none 0 0]) ?_ 2 _ rfl; (with_reducible repeat (first | refine blk_drewN ?_ _ | refine blk_drew ?_ | refine blk_alloc ?_ _)); refine blk_put (cs := #[.int .i64 1, .int .i64 0, .slice none 0 0]) ?_ 1 _ rfl; (with_reducible repeat (first | refine blk_drewN ?_ _ | refine blk_drew ?_ | refine blk_alloc ?_ _)); refine blk_put (cs := #[.int .i64 0, .int .i64 0, .slice none 0 0]) ?_ 0 _ rfl; (with_reducible repeat (first | refine blk_drewN ?_ _ | refine blk_drew ?_ | refine blk_alloc ?_ _)); exact BK136.out) hb); have n2_ := Aside0.mk (below_step (by repeat (first | (with_reducible first | exact HB.out | apply below_alloc | apply pw_below_drewN | apply below_drew1 | refine below_set ?_ GE136.out) | exact HB.out)) hb); clear HO135; clear BK136; clear HB; have HO135 := n0_; have BK136 := n1_; have HB := n2_; clear n0_ n1_ n2_; (try clear hb); (try clear hb2); (try clear hk); (try clear hi); have hcz28_0 : w27.cell? ⟨gb136, 0, none⟩ = some (.int .i64 1) := (blk_cell BK136.out 0).trans rfl; have hcz28_1 : w27.cell? ⟨gb136, 1, none⟩ = some (.int .i64 0) := (blk_cell BK136.out 1).trans rfl; have hcz28_2 : w27.cell? ⟨gb136, 2, none⟩ = some (.slice Ao24 y133.length co24) := (blk_cell BK136.out 2).trans rfl; have hfz28_0 := blk_frozen BK136.out 0; have hfz28_1 := blk_frozen BK136.out 1; have hfz28_2 := blk_frozen BK136.out 2) | ((with_reducible refine gate_dst (N := 9) rfl ?_); (try (refine gate_guard (by rfl) ?_; dsimp only)); refine Kd.R_lit (Kd.int .i64) _ 3 ?hg (N := 9) ?hd (xs := ([5, 7, 6] : List Int)) (inner := [.int .i64 5, .int .i64 7, .int .i64 6]) (ok := fun _ => True) (okp := fun _ => True) ?hr ?hp (fun _ hk => hk) trivial (Below.refl _ _) (Nat.le_refl _) (by simp) ?_; (case hd => rfl); (case hg => rfl); (case hr => first | (go_simp; done) | (go_simp; rfl)); (case hp => exact (Reps.one (show Kd.M (Kd.int .i64) _ _ _ 5 [.int .i64 5] from rfl) (Reps.one (show Kd.M (Kd.int .i64) _ _ _ 7 [.int .i64 7] from rfl) (Reps.one (show Kd.M (Kd.int .i64) _ _ _ 6 [.int .i64 6] from rfl) (Reps.none _ _))))); intro v139 w29 ho30 hb hg_ hnew_; clear hg_ hnew_; (first | rw [← Ny138.out] at ho30 | (simp only [Int.reduceToNat] at ho30; rw [← Ny138.out] at ho30)); have n0_ := Aside0.mk (Kd.R_elder' (by (with_reducible repeat (first | apply Kd.R_alloc | apply Kd.R_drewN | apply Kd.R_drew)); exact HO135.out) (Kd.R_base ho30) hb); have n1_ := Aside0.mk (Kd.R_lower (Kd.R_new' ho30 (Kd.R_lt (by (with_reducible repeat (first | apply Kd.R_alloc | apply Kd.R_drewN | apply Kd.R_drew)); exact HO135.out))) (below_size (by repeat (first | (with_reducible first | exact HB.out | apply below_alloc | apply pw_below_drewN | apply below_drew1 | refine below_set ?_ GE136.out) | exact HB.out)))); have n2_ := Aside0.mk (blk_below (g := gb136) (o := .cells #[.int .i64 1, .int .i64 0, .slice Ao24 y133.length co24] 53 (0, 0)) (by (with_reducible repeat (first | refine blk_drewN ?_ _ | refine blk_drew ?_ | refine blk_alloc ?_ _)); exact BK136.out) hb); have n3_ := Aside0.mk (below_step (by repeat (first | (with_reducible first | exact HB.out | apply below_alloc | apply pw_below_drewN | apply below_drew1 | refine below_set ?_ GE136.out) | exact HB.out)) hb); clear HO135; clear BK136; clear HB; have HO135 := n0_; have HO140 := n1_; have BK136 := n2_; have HB := n3_; clear n0_ n1_ n2_ n3_; clear hb ho30; obtain ⟨Ao31, co31, eo31⟩ := Kd.R_slice HO140.out; subst eo31) | (go_at_call 23; (with_reducible refine (rule_Holds.calls k 1 0 _ _ y133 _ _ y138 false _ ?side1 ?side2 ?side3 ?side4 A3.out).mono ?_); (case side1 => repeat (first | exact (Kd.R_reads' HO135.out).2.2 | (with_reducible refine Kd.C_alloc ?_ _) | (with_reducible refine Kd.C_drewN ?_ _) | (with_reducible refine Kd.C_drew ?_))); (case side2 => exact (Kd.R_reads' HO135.out).2.1); (case side3 => repeat (first | exact (Kd.R_reads' HO140.out).2.2 | (with_reducible refine Kd.C_alloc ?_ _) | (with_reducible refine Kd.C_drewN ?_ _) | (with_reducible refine Kd.C_drew ?_))); (case side4 => exact (Kd.R_reads' HO140.out).2.1); rintro e w32 ⟨rfl, hb⟩; have n0_ := Aside0.mk (Kd.R_below (by (with_reducible repeat (first | apply Kd.R_alloc | apply Kd.R_drewN | apply Kd.R_drew)); exact HO135.out) hb); have n1_ := Aside0.mk (Kd.R_below (by (with_reducible repeat (first | apply Kd.R_alloc | apply Kd.R_drewN | apply Kd.R_drew)); exact HO140.out) hb); have n2_ := Aside0.mk (blk_below (g := gb136) (o := .cells #[.int .i64 1, .int .i64 0, .slice Ao24 y133.length co24] 53 (0, 0)) (by (with_reducible repeat (first | refine blk_drewN ?_ _ | refine blk_drew ?_ | refine blk_alloc ?_ _)); exact BK136.out) hb); have n3_ := Aside0.mk (below_step (by repeat (first | (with_reducible first | exact HB.out | apply below_alloc | apply pw_below_drewN | apply below_drew1 | refine below_set ?_ GE136.out) | exact HB.out)) hb); clear HO135; clear HO140; clear BK136; clear HB; have HO135 := n0_; have HO140 := n1_; have BK136 := n2_; have HB := n3_; clear n0_ n1_ n2_ n3_; (try clear hb); (try clear hb2); (try clear hk); (try clear hi)))
      go_ret
      exact ⟨by first | rfl | (simp [errW_none, errW_some] <;> rfl) | (simp [*, errW_none, errW_some] <;> rfl), by repeat (first | (with_reducible first | exact HB.out | apply below_alloc | apply pw_below_drewN | apply below_drew1 | refine below_set ?_ GE136.out) | exact HB.out)⟩
  · rw [if_neg c2] at H
    have c2b0 : (t137 == 0) = false := beq_eq_false_iff_ne.mpr c2
    have c2b1 : (t137 != 0) = true := bne_iff_ne.mpr c2
    obtain rfl := Option.some.inj H
    go_enter Tryd.func12, Tryd.ntmps12
    go_wp2_with (first | ((with_reducible refine gate_dst (N := 2) rfl ?_); (try (refine gate_guard (by rfl) ?_; dsimp only)); refine Kd.R_lit (Kd.int .i64) _ 3 ?hg (N := 2) ?hd (xs := ([0, 2] : List Int)) (inner := [.int .i64 0, .int .i64 2]) (ok := fun _ => True) (okp := fun _ => True) ?hr ?hp (fun _ hk => hk) trivial (Below.refl _ _) (Nat.le_refl _) (by simp) ?_; (case hd => rfl); (case hg => rfl); (case hr => first | (go_simp; done) | (go_simp; rfl)); (case hp => exact (Reps.one (show Kd.M (Kd.int .i64) _ _ _ 0 [.int .i64 0] from rfl) (Reps.one (show Kd.M (Kd.int .i64) _ _ _ 2 [.int .i64 2] from rfl) (Reps.none _ _)))); intro v134 w33 ho34 hb hg_ hnew_; clear hg_ hnew_; (first | rw [← Ny133.out] at ho34 | (simp only [Int.reduceToNat] at ho34; rw [← Ny133.out] at ho34)); have n0_ := Aside0.mk (Kd.R_lower ho34 (below_size (by repeat (first | (with_reducible first | exact HB.out | apply below_alloc | apply pw_below_drewN | apply below_drew1) | exact HB.out)))); have n1_ := Aside0.mk (below_step (by repeat (first | (with_reducible first | exact HB.out | apply below_alloc | apply pw_below_drewN | apply below_drew1) | exact HB.out)) hb); clear HB; have HO135 := n0_; have HB := n1_; clear n0_ n1_; clear hb ho34; obtain ⟨Ao35, co35, eo35⟩ := Kd.R_slice HO135.out; subst eo35) | ((with_reducible refine gate_dst (N := 1) rfl ?_); (try (refine gate_guard (by rfl) ?_; dsimp only)); refine box_event ?hg (N := 1) ?hd (cs := #[.int .i64 0, .int .i64 0, .slice none 0 0]) (t := 53) ?hr ?_; (case hd => rfl); (case hg => rfl); (case hr => first | (go_simp; done) | (go_simp; rfl)); intro gb136 hg w36 hbox hb; have n0_ := Aside0.mk (Kd.R_below (by (with_reducible repeat (first | apply Kd.R_alloc | apply Kd.R_drewN | apply Kd.R_drew)); exact HO135.out) hb); have n1_ := Aside0.mk (below_step (by repeat (first | (with_reducible first | exact HB.out | apply below_alloc | apply pw_below_drewN | apply below_drew1) | exact HB.out)) hb); have n2_ := Aside0.mk (hbox); have n3_ := Aside0.mk ((by rw [hg]; exact (below_size (by repeat (first | (with_reducible first | exact HB.out | apply below_alloc | apply pw_below_drewN | apply below_drew1) | exact HB.out))) : w.heap.size ≤ gb136)); have n4_ := Aside0.mk ((by rw [hg]; exact (below_size (by repeat (first | (with_reducible first | exact HB.out | apply below_alloc | apply pw_below_drewN | apply below_drew1) | exact HB.out))) : w.heap.size ≤ gb136)); clear HO135; clear HB; have HO135 := n0_; have HB := n1_; have BK136 := n2_; have GW136 := n3_; have GE136 := n4_; clear n0_ n1_ n2_ n3_ n4_; clear hb hbox hg; have hcz37_0 : w36.cell? ⟨gb136, 0, none⟩ = some (.int .i64 0) := (blk_cell BK136.out 0).trans rfl; have hcz37_1 : w36.cell? ⟨gb136, 1, none⟩ = some (.int .i64 0) := (blk_cell BK136.out 1).trans rfl; have hcz37_2 : w36.cell? ⟨gb136, 2, none⟩ = some (.slice none 0 0) := (blk_cell BK136.out 2).trans rfl; have hfz37_0 := blk_frozen BK136.out 0; have hfz37_1 := blk_frozen BK136.out 1; have hfz37_2 := blk_frozen BK136.out 2) | ((with_reducible refine gate_callee (f := 33) rfl ?_); refine goesL_ (some 5) rfl rfl Tryd.func33 (by kernel_rfl) rfl #[.int .i64 3, .agg #[.int .i64 1, .int .i64 0, .slice Ao35 y133.length co35]] rfl (by (try simp only [List.map_toArray, List.map_cons, List.map_nil]); first | done | rfl | (simp only [List.length_drop, List.length_take]; rfl)) ?_; (with_reducible refine (rule_Check.calls k 3 1 0 _ _ y133 t137 _ ?side1 ?side2 A1.out).mono ?_); (case side1 => refine (Kd.R_reads' (e := 3) (base := w.heap.size) (ok := fun k_ => True) (n := y133.length) (c := co35) ?_).2.2; exact (by (with_reducible repeat (first | apply Kd.R_alloc | apply Kd.R_drewN | apply Kd.R_drew)); exact (Kd.R_mono (Kd.R_far (p := ⟨gb136, 2, none⟩) (Kd.R_far (p := ⟨gb136, 1, none⟩) (Kd.R_far (p := ⟨gb136, 0, none⟩) (Kd.R_types HO135.out BK136.out (by decide)) (fun _ hk => hk.2) (.int .i64 1)) (fun _ hk => hk.2) (.int .i64 0)) (fun _ hk => hk.2) (.slice Ao35 y133.length co35)) (fun _ h_ => h_.1)))); (case side2 => exact (Kd.R_reads' HO135.out).2.1); rintro e w38 ⟨rfl, hb⟩; refine ⟨_, rfl, ?_⟩; have n0_ := Aside0.mk (Kd.R_below (by (with_reducible repeat (first | apply Kd.R_alloc | apply Kd.R_drewN | apply Kd.R_drew)); exact (Kd.R_mono (Kd.R_far (p := ⟨gb136, 2, none⟩) (Kd.R_far (p := ⟨gb136, 1, none⟩) (Kd.R_far (p := ⟨gb136, 0, none⟩) (Kd.R_types HO135.out BK136.out (by decide)) (fun _ hk => hk.2) (.int .i64 1)) (fun _ hk => hk.2) (.int .i64 0)) (fun _ hk => hk.2) (.slice Ao35 y133.length co35)) (fun _ h_ => h_.1))) hb); have n1_ := Aside0.mk (blk_below (g := gb136) (o := .cells #[.int .i64 1, .int .i64 0, .slice Ao35 y133.length co35] 53 (0, 0)) (by (with_reducible repeat (first | refine blk_drewN ?_ _ | refine blk_drew ?_ | refine blk_alloc ?_ _)); refine blk_put (cs := #[.int .i64 1, .int .i64 0, .slice none 0 0]) ?_ 2 _ rfl; (with_reducible repeat (first | refine blk_drewN ?_ _ | refine blk_drew ?_ | refine blk_alloc ?_ _)); refine blk_put (cs := #[.int .i64 1, .int .i64 0, .slice none 0 0]) ?_ 1 _ rfl; (with_reducible repeat (first | refine blk_drewN ?_ _ | refine blk_drew ?_ | refine blk_alloc ?_ _)); refine blk_put (cs := #[.int .i64 0, .int .i64 0, .slice none 0 0]) ?_ 0 _ rfl; (with_reducible repeat (first | refine blk_drewN ?_ _ | refine blk_drew ?_ | refine blk_alloc ?_ _)); exact BK136.out) hb); have n2_ := Aside0.mk (below_step (by repeat (first | (with_reducible first | exact HB.out | apply below_alloc | apply pw_below_drewN | apply below_drew1 | refine below_set ?_ GE136.out) | exact HB.out)) hb); clear HO135; clear BK136; clear HB; have HO135 := n0_; have BK136 := n1_; have HB := n2_; clear n0_ n1_ n2_; (try clear hb); (try clear hb2); (try clear hk); (try clear hi)))
    go_ret
    exact ⟨by first | rfl | (simp [errW_none, errW_some] <;> rfl) | (simp [*, errW_none, errW_some] <;> rfl), by repeat (first | (with_reducible first | exact HB.out | apply below_alloc | apply pw_below_drewN | apply below_drew1 | refine below_set ?_ GE136.out) | exact HB.out)⟩

-- NOT PRINTED

-- NOT PRINTED

-- NOT PRINTED

-- NOT PRINTED

-- NOT PRINTED

-- NOT PRINTED

-- NOT PRINTED

-- NOT PRINTED

-- NOT PRINTED

-- NOT PRINTED

-- NOT PRINTED

-- NOT PRINTED

-- NOT PRINTED

-- NOT PRINTED: function 47 (strconv_Itoa_47)

-- NOT PRINTED

-- NOT PRINTED

-- NOT PRINTED

-- NOT PRINTED

-- NOT PRINTED

-- NOT PRINTED

-- NOT PRINTED

-- NOT PRINTED: function 48 (strings_Join)

end Go.Proofs.YtbcdlfodgoiodaaDoor.PRtx
