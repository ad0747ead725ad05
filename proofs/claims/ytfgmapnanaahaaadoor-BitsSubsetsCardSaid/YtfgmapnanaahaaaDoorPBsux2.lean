/- A text written by my program wip/gen/p2.py out of the translation and of my foreign texts; not trusted: Lean checks it. -/
import Derived.Test.YtfgmapnanaahaaaDoorPBsux0
import Derived.Test.YtfgmapnanaahaaaDoorPBsux1
namespace Go.Proofs.YtfgmapnanaahaaaDoor.PBsu
open Go.RowKit Go.Proofs.YtfgmapnanaahaaaDoorW.PrintWords Go.Proofs.YtfgmapnanaahaaaDoorW.PrintLast Go.Proofs.YtfgmapnanaahaaaDoorW.PrintMore
attribute [local go_sem] max2_int min2_int max_two min_two max_three min_three max_four min_four   -- for this text's walks alone
set_option linter.unusedVariables false
set_option linter.unusedSimpArgs false

/-! ### bits_Set_uint8_Text: function 53 -/
section
open Go Go.Lib Go.Proofs.YtfgmapnanaahaaaDoorW.Rng Go.Proofs.YtfgmapnanaahaaaDoorW.BitsM Go.Proofs.YtfgmapnanaahaaaDoorW.Tab
attribute [local go_sem] Oper.semAt_some
theorem text8_info : (Tryd.prog.info? 9).map (fun i => (i.zero, i.size, i.bytes)) = some (some (.string ⟨#[]⟩), 1, 16) := by kernel_rfl
set_option maxRecDepth 100000 in
set_option maxHeartbeats 4000000 in
theorem bits_Set_uint8_Text.walk (a : Nat) (ha : a < 256) (w : World) (hT : TabW w) :
    Calls Tryd.prog 53 #[.agg #[.int .u8 a]] w fun e W' => e = .returned (.string (textF a)) ∧ Below w.heap.size w W' := by
  obtain ⟨i0, hi, hz0, hz1, hz2⟩ := info_parts text8_info
  have hHI := Aside0.mk (And.intro hi (And.intro hz0 (And.intro hz1 hz2)))
  have hTW := Aside0.mk hT
  clear hi hz0 hz1 hz2 hT
  refine calls_marks Tryd.func53 rfl ?_
  simp only [Tryd.ntmps53, List.size_toArray, List.length_cons, List.length_nil, Nat.reduceAdd, Nat.reduceSub, Array.replicate_succ, Array.replicate_zero, List.push_toArray, List.append_toArray, List.nil_append, List.cons_append]
  go_wp2_with (go_at_call 82; refine (all8_made a _).mono ?_; rintro e w' ⟨rfl, rfl⟩)
  have bL := (Boxed.new (w.alloc (.cells #[.int .u8 a] 58)) 95 (.slice none 0 0)).alloc (.cells #[.int .u8 a] 58)
  have bS := Boxed.new ((w.alloc (.cells #[.int .u8 a] 58)).alloc (.cells #[.slice none 0 0] 95)) 58 (.int .u8 a)
  rw [World.size_alloc, World.size_alloc] at bS
  rw [World.size_alloc] at bL
  have hB0 : Below w.heap.size w (((w.alloc (.cells #[.int .u8 a] 58)).alloc (.cells #[.slice none 0 0] 95)).alloc (.cells #[.int .u8 a] 58)) := (((Below.refl _ w).alloc (Nat.le_refl _) _).alloc (by simp) _).alloc (by simp; omega) _
  have hs0 : (((w.alloc (.cells #[.int .u8 a] 58)).alloc (.cells #[.slice none 0 0] 95)).alloc (.cells #[.int .u8 a] 58)).heap.size = w.heap.size + 3 := by simp
  generalize ((w.alloc (.cells #[.int .u8 a] 58)).alloc (.cells #[.slice none 0 0] 95)).alloc (.cells #[.int .u8 a] 58) = W0 at *
  have hg := tab_lt hTW.out
  refine wp_range (gf := 100) (lb := #[.pointer (some ⟨w.heap.size + 1 + 1, 0, none⟩)]) rfl (enters_of Tryd.func100 (by kernel_rfl) rfl)
    (all8_told a ha (w.heap.size + 1 + 1) W0 bS (tab_below hTW.out hB0)) (fun h k => h.trans k)
    (fun W l o o' hl h hc _ => KeptAt.put (tab_put hc) (by omega) h) (Below.refl _ _) (fun x vs W h => by rw [h]; rfl)
    (fun (pre : List Nat) W => (∃ v, Boxed W (w.heap.size + 1) 95 v ∧ W.ownsRow w.heap.size 9 1 v pre.length (pre.map (fun x : Nat => Value.string (dstr x))) ∧ True) ∧ (Boxed W (w.heap.size + 1 + 1) 58 (.int .u8 a) ∧ Below w.heap.size w W))
    (fun _ _ _ => False)
    (OwnFrom.and (Own.from (holdsRow_own w.heap.size (w.heap.size + 1) 95 9 1 (fun pre : List Nat => pre.length) (fun pre : List Nat => pre.map (fun x : Nat => Value.string (dstr x))) (fun _ _ => True)) _) (OwnFrom.and (Own.from (boxed_own _ _ (fun _ => _)) _) (ownFrom_below (Nat.le_refl _) (by omega))))
    (fun _ _ _ _ _ hs _ _ => hs)
    ⟨⟨_, bL, World.ownsRow_nil _ _ _ _, trivial⟩, bS, hB0⟩
    (fun x a' _ => a' = { tmps := #[.agg #[.int .u8 a], .pointer (some ⟨w.heap.size, 0, none⟩), .string ⟨#[]⟩, .pointer (some ⟨w.heap.size + 1, 0, none⟩), .int .i64 (x : Nat), .agg #[.int .u8 a], .func (.func 100) #[] #[.pointer (some ⟨w.heap.size + 1 + 1, 0, none⟩)], .int .i64 (x : Nat), undef, undef, undef, undef, undef, undef, undef, undef, undef], defers := [] })
    (fun _ _ _ _ _ _ hs _ _ => hs) ?assign ?body ?done ?stop
  case assign =>
    rintro l pre x vs W K hI rfl hK
    gi_wp2
    exact hK _ _ (KeepsFrom.refl _ _) (KeptAt.refl _ _ _) hI rfl
  case body =>
    rintro l pre x a' W hl _ ⟨⟨v, hv, hrow, _⟩, hS, hB⟩ rfl hpre
    have hc := hv.cell
    have hlen := pre_len hpre
    obtain ⟨hi, hz0, hz1, hz2⟩ := hHI.out
    have HB := Aside0.mk hB
    have HBS := Aside0.mk hS
    have hx64 : x < 100 := by
      have : x ∈ pl a 0 := hpre.subset (by simp)
      have := mem_pl.1 this
      omega
    clear hB hS bL bS hB0 hpre
    have hcd : W.drew.cell? ⟨w.heap.size + 1, 0, none⟩ = some v := hc
    gi_wp2
    refine start_in (n := 6) (S := fun w' => w'.cell? ⟨w.heap.size + 1, 0, none⟩ = some v) (ds := [5]) #[false, false, false, false, false, false] (by kernel_rfl) (fun _ _ h => h) (by kernel_rfl) rfl rfl hcd (fun hHeld => ?_)
    refine take_ (i := 0) (N := (some 8)) (v := ?_) (a' := ?_) #[true, false, false, false, false, false] rfl rfl (by kernel_rfl) (fun _ _ _ h => h) (Or.inl ⟨by rfl, ?_⟩) hHeld ?_ ?_
    rotate_left
    · intro w' s0
      go_simp
      with_reducible rfl
    rotate_left
    · simp only [Act.put, List.setIfInBounds_toArray, List.set_cons_zero, List.set_cons_succ, i64_w, i32_w]
      rfl
    refine pure_ (i := 1) (N := (some 9)) (v := ?_) (a' := ?_) #[true, true, false, false, false, false] rfl rfl (by kernel_rfl) (fun _ _ _ h => h) (Or.inl ⟨by rfl, ?_⟩) ?_ ?_
    rotate_left
    · intro w'
      go_simp
      with_reducible rfl
    rotate_left
    · simp only [Act.put, List.setIfInBounds_toArray, List.set_cons_zero, List.set_cons_succ, i64_w, i32_w]
      rfl
    refine one_ (i := 2) (N := (some 10)) #[true, true, true, false, false, false] rfl rfl (by kernel_rfl) (by decide) (fun K hK => ?_)
    refine goes_ Tryd.func77 (by kernel_rfl) rfl #[.int .i64 (x : Nat)] (by rfl) rfl rfl (by (try simp only [List.map_toArray, List.map_cons, List.map_nil]); first | done | rfl) ?_
    (with_reducible refine (Sh.strconv_Itoa_small x hx64 _).mono ?_)
    rintro e w2 ⟨rfl, rfl⟩
    refine ⟨_, rfl, ?_⟩
    refine hK.out _ _ (hcd) (fun hHeld => ?_)
    clear hK K
    refine norm_ (a' := ?_) ?_ ?_
    rotate_left
    · show Act.put _ (some 10) _ = _
      simp only [Act.put, List.setIfInBounds_toArray, List.set_cons_zero, List.set_cons_succ, i64_w, i32_w]
      rfl
    refine one_ (i := 3) (N := (some 11)) #[true, true, true, true, false, false] rfl rfl (by kernel_rfl) (by decide) (fun K hK => ?_)
    refine event_step (v := .slice (some ⟨W.heap.size, 0, none⟩) 1 1) (w1 := (W.drew).alloc (.cells #[.string (dstr x)] 9)) (by rfl) ?_ ?_
    · go_simp
      rfl
    have hca : ((W.drew).alloc (.cells #[.string (dstr x)] 9)).cell? ⟨w.heap.size + 1, 0, none⟩ = some v := (hv.alloc _).cell
    refine hK.out _ _ (hca) (fun hHeld => ?_)
    clear hK K
    refine norm_ (a' := ?_) ?_ ?_
    rotate_left
    · show Act.put _ (some 11) _ = _
      simp only [Act.put, List.setIfInBounds_toArray, List.set_cons_zero, List.set_cons_succ, i64_w, i32_w]
      rfl
    refine one_ (i := 4) (N := (some 12)) #[true, true, true, true, true, false] rfl rfl (by kernel_rfl) (by decide) (fun K hK => ?_)
    obtain ⟨v', w1, hrun, hown', hgrow, _⟩ := run_append_own (P := Tryd.prog) (w := (W.drew).alloc (.cells #[.string (dstr x)] 9)) w.heap.size 95 95 9 i0 (.string ⟨#[]⟩) 1 16 Tryd.underlying95 hi hz0 hz1 hz2 rfl (by decide) v pre.length _ (show (W.drew.alloc (.cells #[.string (dstr x)] 9)).ownsRow w.heap.size 9 1 v pre.length (pre.map (fun x : Nat => Value.string (dstr x))) from World.ownsRow.alloc (w := W.drew) (show W.drew.ownsRow w.heap.size 9 1 v pre.length (pre.map (fun x : Nat => Value.string (dstr x))) from hrow) _) ⟨W.heap.size, 0, none⟩ 1 1 [.string (dstr x)] rfl (cell_one_new _ _ _) (by simp [Value.oneCell']) (by unfold maxLen; omega) (by omega) (by have := HB.out.size; simp; omega)
    obtain ⟨g', cap', rfl⟩ := ownsRow_succ hown'
    have hD : Boxed W.drew (w.heap.size + 1) 95 v := hv
    have hDS : Boxed W.drew (w.heap.size + 1 + 1) 58 (.int .u8 a) := HBS.out
    have hrowD : W.drew.ownsRow w.heap.size 9 1 v pre.length (pre.map (fun x : Nat => Value.string (dstr x))) := hrow
    have HS1 := Aside0.mk ((hDS.alloc _).kept hgrow (hDS.not_row (by decide) hrowD))
    obtain ⟨hv1, hv2, hr2, hk2, hb2⟩ := hD.appended (by decide) hrowD HB.out.size (by omega) hown' hgrow
    refine event_step (v := .slice (some ⟨g', 0, none⟩) (pre.length + 1) cap') (w1 := w1) (by rfl) ?_ ?_
    · unfold execOp; simp [resolve, invoke, builtin, Act.eval, hrun, Result.andThen]
    have hc1 := hv1.cell; have hf1 := hv1.frozen; have HV2 := Aside0.mk hv2; have HR2 := Aside0.mk hr2; have HK2 := Aside0.mk ((KeepsOthers.drew W).trans hk2); have HB2 := Aside0.mk ((below_drew (Below.refl w.heap.size W)).trans hb2); clear hv2 hr2 hk2 hb2 hv1 hD hDS hrowD hrun hown' hgrow hc hcd hca
    refine hK.out _ _ hc1 (fun hHeld => ?_)
    clear hK K
    refine norm_ (a' := ?_) ?_ ?_
    rotate_left
    · show Act.put _ (some 12) _ = _
      simp only [Act.put, List.setIfInBounds_toArray, List.set_cons_zero, List.set_cons_succ, i64_w, i32_w]
      rfl
    refine last_ (i := 5) (N := none) #[true, true, true, true, true, true] rfl rfl (by kernel_rfl) (by decide) (fun K hK => ?_)
    refine skip_ (w1 := w1.setCell ⟨w.heap.size + 1, 0, none⟩ (.slice (some ⟨g', 0, none⟩) (pre.length + 1) cap')) (by rfl) rfl ?_ ?_
    · go_simp
    refine hK.out _ _ ?_
    clear hK K
    refine done_ (by kernel_rfl) ?_
    have hS2 := HS1.out.other (B' := w.heap.size + 1) (by omega) (.slice (some ⟨g', 0, none⟩) (pre.length + 1) cap')
    refine ⟨HK2.out.from _, ⟨hS2.trans (show _ = _ from HBS.out).symm, fun ht => tab_low hg ht HB2.out, HK2.out.size⟩, ⟨_, HV2.out, by rw [List.length_append, List.map_append]; exact HR2.out, trivial⟩, hS2, HB.out.trans HB2.out⟩
  case done =>
    rintro D W hD ⟨⟨v, hv, hrow, _⟩, hS, hB⟩ hK
    have hc := hv.cell
    have hlt : ∀ x ∈ pl a 0, x < 64 := fun x hx => (mem_pl.1 hx).2.1
    have hjl := join_len (pl a 0) hlt
    have hpl := pl_len a 0
    have HK := Aside0.mk hK
    have HB := Aside0.mk hB
    have HLT := Aside0.mk hlt
    clear hK hB hS bL bS hB0 hlt
    have JN : Calls Tryd.prog 78 #[v, .string ⟨#[44]⟩] W fun e w' => e = .returned (.string ⟨(Lib.join ((pl a 0).map decDigits) [44]).toArray⟩) ∧ Below W.heap.size W w' := by
      obtain ⟨hn, hz⟩ := hrow
      rcases hz with ⟨rfl, h0⟩ | ⟨g, cap, cur, rfl, hb, hgb, hc1, hc2, hc3, hc4⟩
      · have hp0 : pl a 0 = [] := List.eq_nil_of_length_eq_zero h0
        rw [hp0]
        exact (Sh.strings_Join_none none 0 ⟨#[44]⟩ W).mono fun e w' ⟨he, hw⟩ => ⟨he, by rw [hw]; exact Below.refl _ _⟩
      · rw [Nat.mul_one] at hc3 hc4
        have hml : ((pl a 0).map dstr).length = (pl a 0).length := List.length_map _
        have hmm : ((pl a 0).map dstr).map (·.data.toList) = (pl a 0).map decDigits := by rw [List.map_map]; rfl
        have J := Sh.strings_Join g 0 cap ((pl a 0).map dstr) ⟨#[44]⟩ W (fun j x hj => by
          have hjl : j < (pl a 0).length := by
            rcases Nat.lt_or_ge j (pl a 0).length with h | h
            · exact h
            · rw [List.getElem?_eq_none (by omega)] at hj; cases hj
          rw [Nat.zero_add]
          have h1 : (cur.toList.take (pl a 0).length)[j]? = some (.string x) := by
            rw [hc4, List.getElem?_map]
            rw [List.getElem?_map] at hj
            cases hp : (pl a 0)[j]? with
            | none => rw [hp] at hj; cases hj
            | some y => rw [hp] at hj; injection hj with hj; rw [← hj]; rfl
          rw [List.getElem?_take_of_lt hjl] at h1
          have h2 : cur[j]? = some (.string x) := by rw [← Array.getElem?_toList]; exact h1
          exact (cell_of_row W g j cur _ _ hgb).trans h2) (blk_lt hgb) (by omega) (by omega) (by rw [hmm]; show (Lib.join ((pl a 0).map decDigits) [44]).length ≤ _; omega)
        rw [hml, hmm] at J
        exact J
    have HJN := Aside0.mk JN
    clear JN hrow
    go_wp2_with (go_at_call 78; (with_reducible refine HJN.out.mono ?_); rintro e w2 ⟨rfl, hb2⟩; have hK2 := (hb2.block D (Array.getElem?_eq_some_iff.1 HK.out).1).trans HK.out; have HB2 := Aside0.mk hb2; clear hb2)
    refine ⟨by simp, .inl ⟨_, _, rfl, run_takeDeferred hK2, ?_⟩⟩
    refine ⟨_, results_tmp rfl _ _ _, ?_, (HB.out.trans (HB2.out.mono HB.out.size)).trans (belowK_b (w := w) (Nat.le_refl _) w2 D _ _ (by omega) hK2 rfl rfl)⟩
    show Ending.returned (.string _) = _
    congr 2
  case stop =>
    rintro D c pre W _ _ h _
    exact h.elim
def bits_Set_uint8_Text.f (a0 : Int) : Option ByteArray := if 0 ≤ a0 ∧ a0 < 256 then some (textF a0.toNat) else none
theorem bits_Set_uint8_Text.calls (a0 : Int) (r : ByteArray) (w : World) (h : bits_Set_uint8_Text.f a0 = some r) (HTAB_ : Aside0 (TabW w)) :
    Calls Tryd.prog 53 #[.agg #[.int .u8 a0]] w fun e w' => e = .returned (.string r) ∧ Below w.heap.size w w' := by
  unfold bits_Set_uint8_Text.f at h
  split at h
  next hb =>
    obtain ⟨x, rfl⟩ := Int.eq_ofNat_of_zero_le hb.1
    injection h with h
    subst h
    exact bits_Set_uint8_Text.walk x (by omega) w HTAB_.out
  next => cases h
end


/-! ### provostlaw01_wakes: function 14 -/
def provostlaw01_wakes.f  : Option (Bool) := (bits_Set_uint8_Of.f 0 150).bind fun t120 => ((bits_Set_uint8_Len.f t120).bind fun t122 => (if t122 = 4 then ((bits_Set_uint8_Has.f t120 7).bind fun t123 => (if t123 = true then ((bits_Set_uint8_Text.f t120).bind fun t124 => (if t124.toList = ([123, 49, 44, 50, 44, 52, 44, 55, 125] : List UInt8) then ((bits_Set_uint8_Width.f t120).bind fun t125 => (some (t125 == 8))) else (some false))) else (some false))) else (some false)))
set_option maxHeartbeats 8000000 in
set_option maxRecDepth 100000 in
theorem provostlaw01_wakes.calls  (r : Bool) (w : World) (h : provostlaw01_wakes.f  = some r) (HTAB_ : Aside0 (Go.Proofs.YtfgmapnanaahaaaDoorW.Tab.TabW w)) :
    Calls Tryd.prog 14 #[] w fun e w' => e = .returned (.bool r) ∧ Below w.heap.size w w' := by
  have hu58 := Tryd.underlying58
  have HB := Aside0.mk (Below.refl w.heap.size w)
  have H : ((bits_Set_uint8_Of.f 0 150).bind fun t120 => ((bits_Set_uint8_Len.f t120).bind fun t122 => (if t122 = 4 then ((bits_Set_uint8_Has.f t120 7).bind fun t123 => (if t123 = true then ((bits_Set_uint8_Text.f t120).bind fun t124 => (if t124.toList = ([123, 49, 44, 50, 44, 52, 44, 55, 125] : List UInt8) then ((bits_Set_uint8_Width.f t120).bind fun t125 => (some (t125 == 8))) else (some false))) else (some false))) else (some false)))) = some r := h
  clear h
  replace H := Option.bind_eq_some_iff.mp H
  obtain ⟨t120, A10, H⟩ := H
  replace H : ((bits_Set_uint8_Len.f t120).bind fun t122 => (if t122 = 4 then ((bits_Set_uint8_Has.f t120 7).bind fun t123 => (if t123 = true then ((bits_Set_uint8_Text.f t120).bind fun t124 => (if t124.toList = ([123, 49, 44, 50, 44, 52, 44, 55, 125] : List UInt8) then ((bits_Set_uint8_Width.f t120).bind fun t125 => (some (t125 == 8))) else (some false))) else (some false))) else (some false))) = some r := H
  have A1 := Aside0.mk A10
  clear A10
  replace H := Option.bind_eq_some_iff.mp H
  obtain ⟨t122, A20, H⟩ := H
  replace H : (if t122 = 4 then ((bits_Set_uint8_Has.f t120 7).bind fun t123 => (if t123 = true then ((bits_Set_uint8_Text.f t120).bind fun t124 => (if t124.toList = ([123, 49, 44, 50, 44, 52, 44, 55, 125] : List UInt8) then ((bits_Set_uint8_Width.f t120).bind fun t125 => (some (t125 == 8))) else (some false))) else (some false))) else (some false)) = some r := H
  have A2 := Aside0.mk A20
  clear A20
  by_cases c3 : t122 = 4
  · rw [if_pos c3] at H
    have c3b0 : (t122 == 4) = true := beq_iff_eq.mpr c3
    have c3b1 : (t122 != 4) = false := bne_eq_false_iff_eq.mpr c3
    clear c3
    replace H := Option.bind_eq_some_iff.mp H
    obtain ⟨t123, A40, H⟩ := H
    replace H : (if t123 = true then ((bits_Set_uint8_Text.f t120).bind fun t124 => (if t124.toList = ([123, 49, 44, 50, 44, 52, 44, 55, 125] : List UInt8) then ((bits_Set_uint8_Width.f t120).bind fun t125 => (some (t125 == 8))) else (some false))) else (some false)) = some r := H
    have A4 := Aside0.mk A40
    clear A40
    by_cases c5 : t123 = true
    · subst c5
      have H1 : ((bits_Set_uint8_Text.f t120).bind fun t124 => (if t124.toList = ([123, 49, 44, 50, 44, 52, 44, 55, 125] : List UInt8) then ((bits_Set_uint8_Width.f t120).bind fun t125 => (some (t125 == 8))) else (some false))) = some r := by rw [if_pos rfl] at H; exact H
      clear H
      have H := H1
      clear H1
      replace H := Option.bind_eq_some_iff.mp H
      obtain ⟨t124, A60, H⟩ := H
      replace H : (if t124.toList = ([123, 49, 44, 50, 44, 52, 44, 55, 125] : List UInt8) then ((bits_Set_uint8_Width.f t120).bind fun t125 => (some (t125 == 8))) else (some false)) = some r := H
      have A6 := Aside0.mk A60
      clear A60
      by_cases c7 : t124.toList = ([123, 49, 44, 50, 44, 52, 44, 55, 125] : List UInt8)
      · rw [if_pos c7] at H
        have c7b0 : (t124.toList == ([123, 49, 44, 50, 44, 52, 44, 55, 125] : List UInt8)) = true := beq_iff_eq.mpr c7
        have c7b1 : (t124.toList != ([123, 49, 44, 50, 44, 52, 44, 55, 125] : List UInt8)) = false := bne_eq_false_iff_eq.mpr c7
        clear c7
        replace H := Option.bind_eq_some_iff.mp H
        obtain ⟨t125, A80, H⟩ := H
        replace H : (some (t125 == 8)) = some r := H
        have A8 := Aside0.mk A80
        clear A80
        obtain rfl := Option.some.inj H
        go_enter Tryd.func14, Tryd.ntmps14
        go_wp2_with (first | ((with_reducible refine gate_dst (N := 1) rfl ?_); refine box_event ?hg (N := 1) ?hd (cs := #[.int .u8 0]) (t := 58) ?hr ?_; (case hd => rfl); (case hg => rfl); (case hr => first | (go_simp; done) | (go_simp; rfl)); intro gb119 hg w9 hbox hb; have n0_ := Aside0.mk (below_step (by repeat (first | (with_reducible first | exact HB.out | apply below_alloc | apply pw_below_drewN | apply below_drew1) | exact HB.out)) hb); have n1_ := Aside0.mk (hbox); have n2_ := Aside0.mk ((by rw [hg]; exact (below_size (by repeat (first | (with_reducible first | exact HB.out | apply below_alloc | apply pw_below_drewN | apply below_drew1) | exact HB.out))) : w.heap.size ≤ gb119)); have n3_ := Aside0.mk ((by rw [hg]; exact (below_size (by repeat (first | (with_reducible first | exact HB.out | apply below_alloc | apply pw_below_drewN | apply below_drew1) | exact HB.out))) : w.heap.size ≤ gb119)); clear HB; have HB := n0_; have BK119 := n1_; have GW119 := n2_; have GE119 := n3_; clear n0_ n1_ n2_ n3_; clear hb hbox hg; have hcz10_0 : w9.cell? ⟨gb119, 0, none⟩ = some (.int .u8 0) := (blk_cell BK119.out 0).trans rfl; have hfz10_0 := blk_frozen BK119.out 0) | ((with_reducible refine gate_callee (f := 32) rfl ?_); refine goesL_ (some 4) rfl rfl Tryd.func32 (by kernel_rfl) rfl #[.agg #[.int .u8 0], .int .u8 150] rfl (by (try simp only [List.map_toArray, List.map_cons, List.map_nil]); first | done | rfl | (simp only [List.length_drop, List.length_take]; rfl)) ?_; (with_reducible refine (bits_Set_uint8_Of.calls 0 150 t120 _ A1.out).mono ?_); rintro e w11 ⟨rfl, hb⟩; refine ⟨_, rfl, ?_⟩; have n0_ := Aside0.mk (blk_below (g := gb119) (o := .cells #[.int .u8 0] 58 (0, 0)) (by (with_reducible repeat (first | refine blk_drewN ?_ _ | refine blk_drew ?_ | refine blk_alloc ?_ _)); exact BK119.out) hb); have n1_ := Aside0.mk (below_step (by repeat (first | (with_reducible first | exact HB.out | apply below_alloc | apply pw_below_drewN | apply below_drew1 | refine below_set ?_ GE119.out) | exact HB.out)) hb); clear BK119; clear HB; have BK119 := n0_; have HB := n1_; clear n0_ n1_; (try clear hb); (try clear hb2); (try clear hk); (try clear hi)) | ((with_reducible refine gate_dst (N := 2) rfl ?_); refine box_event ?hg (N := 2) ?hd (cs := #[.int .u8 0]) (t := 58) ?hr ?_; (case hd => rfl); (case hg => rfl); (case hr => first | (go_simp; done) | (go_simp; rfl)); intro gb121 hg w12 hbox hb; have n0_ := Aside0.mk (blk_below (g := gb119) (o := .cells #[.int .u8 0] 58 (0, 0)) (by (with_reducible repeat (first | refine blk_drewN ?_ _ | refine blk_drew ?_ | refine blk_alloc ?_ _)); exact BK119.out) hb); have n1_ := Aside0.mk (below_step (by repeat (first | (with_reducible first | exact HB.out | apply below_alloc | apply pw_below_drewN | apply below_drew1 | refine below_set ?_ GE119.out) | exact HB.out)) hb); have n2_ := Aside0.mk (hbox); have n3_ := Aside0.mk ((by rw [hg]; exact (below_size (by repeat (first | (with_reducible first | exact HB.out | apply below_alloc | apply pw_below_drewN | apply below_drew1 | refine below_set ?_ GE119.out) | exact HB.out))) : w.heap.size ≤ gb121)); have n4_ := Aside0.mk ((by rw [hg]; exact (below_size (by repeat (first | (with_reducible first | exact HB.out | apply below_alloc | apply pw_below_drewN | apply below_drew1 | refine below_set ?_ GE119.out) | exact HB.out))) : w.heap.size ≤ gb121)); have n5_ := Aside0.mk ((by rw [hg]; exact Nat.ne_of_lt (blk_lt (g := gb119) (o := .cells #[.int .u8 0] 58 (0, 0)) (by (with_reducible repeat (first | refine blk_drewN ?_ _ | refine blk_drew ?_ | refine blk_alloc ?_ _)); exact BK119.out)) : gb119 ≠ gb121)); have n6_ := Aside0.mk ((by rw [hg]; exact Nat.ne_of_gt (blk_lt (g := gb119) (o := .cells #[.int .u8 0] 58 (0, 0)) (by (with_reducible repeat (first | refine blk_drewN ?_ _ | refine blk_drew ?_ | refine blk_alloc ?_ _)); exact BK119.out)) : gb121 ≠ gb119)); clear BK119; clear HB; have BK119 := n0_; have HB := n1_; have BK121 := n2_; have GW121 := n3_; have GE121 := n4_; have NB119_121 := n5_; have NB121_119 := n6_; clear n0_ n1_ n2_ n3_ n4_ n5_ n6_; clear hb hbox hg; have hnb13 := NB121_119.out; have hnc13 := NB119_121.out; have hcz14_0 : w12.cell? ⟨gb121, 0, none⟩ = some (.int .u8 0) := (blk_cell BK121.out 0).trans rfl; have hfz14_0 := blk_frozen BK121.out 0) | ((with_reducible refine gate_callee (f := 51) rfl ?_); refine goesL_ (some 6) rfl rfl Tryd.func51 (by kernel_rfl) rfl #[.agg #[.int .u8 t120]] rfl (by (try simp only [List.map_toArray, List.map_cons, List.map_nil]); first | done | rfl | (simp only [List.length_drop, List.length_take]; rfl)) ?_; (with_reducible refine (bits_Set_uint8_Len.calls t120 t122 _ A2.out).mono ?_); rintro e w15 ⟨rfl, hb⟩; refine ⟨_, rfl, ?_⟩; have n0_ := Aside0.mk (blk_below (g := gb119) (o := .cells #[.int .u8 0] 58 (0, 0)) (by (with_reducible repeat (first | refine blk_drewN ?_ _ | refine blk_drew ?_ | refine blk_alloc ?_ _)); refine blk_far ?_ NB119_121.out _; (with_reducible repeat (first | refine blk_drewN ?_ _ | refine blk_drew ?_ | refine blk_alloc ?_ _)); exact BK119.out) hb); have n1_ := Aside0.mk (blk_below (g := gb121) (o := .cells #[.int .u8 t120] 58 (0, 0)) (by (with_reducible repeat (first | refine blk_drewN ?_ _ | refine blk_drew ?_ | refine blk_alloc ?_ _)); refine blk_put (cs := #[.int .u8 0]) ?_ 0 _ rfl; (with_reducible repeat (first | refine blk_drewN ?_ _ | refine blk_drew ?_ | refine blk_alloc ?_ _)); exact BK121.out) hb); have n2_ := Aside0.mk (below_step (by repeat (first | (with_reducible first | exact HB.out | apply below_alloc | apply pw_below_drewN | apply below_drew1 | refine below_set ?_ GE119.out | refine below_set ?_ GE121.out) | exact HB.out)) hb); clear BK119; clear BK121; clear HB; have BK119 := n0_; have BK121 := n1_; have HB := n2_; clear n0_ n1_ n2_; (try clear hb); (try clear hb2); (try clear hk); (try clear hi); have hcz16_0 : w15.cell? ⟨gb121, 0, none⟩ = some (.int .u8 t120) := (blk_cell BK121.out 0).trans rfl; have hfz16_0 := blk_frozen BK121.out 0) | (go_at_call 52; (with_reducible refine (bits_Set_uint8_Has.calls t120 7 true _ A4.out).mono ?_); rintro e w17 ⟨rfl, hb⟩; have n0_ := Aside0.mk (blk_below (g := gb119) (o := .cells #[.int .u8 0] 58 (0, 0)) (by (with_reducible repeat (first | refine blk_drewN ?_ _ | refine blk_drew ?_ | refine blk_alloc ?_ _)); exact BK119.out) hb); have n1_ := Aside0.mk (blk_below (g := gb121) (o := .cells #[.int .u8 t120] 58 (0, 0)) (by (with_reducible repeat (first | refine blk_drewN ?_ _ | refine blk_drew ?_ | refine blk_alloc ?_ _)); exact BK121.out) hb); have n2_ := Aside0.mk (below_step (by repeat (first | (with_reducible first | exact HB.out | apply below_alloc | apply pw_below_drewN | apply below_drew1 | refine below_set ?_ GE119.out | refine below_set ?_ GE121.out) | exact HB.out)) hb); clear BK119; clear BK121; clear HB; have BK119 := n0_; have BK121 := n1_; have HB := n2_; clear n0_ n1_ n2_; (try clear hb); (try clear hb2); (try clear hk); (try clear hi); have hcz18_0 : w17.cell? ⟨gb121, 0, none⟩ = some (.int .u8 t120) := (blk_cell BK121.out 0).trans rfl; have hfz18_0 := blk_frozen BK121.out 0) | (go_at_call 53; (with_reducible refine (bits_Set_uint8_Text.calls t120 t124 _ A6.out ?tabs_).mono ?_); (case tabs_ => exact ⟨Go.Proofs.YtfgmapnanaahaaaDoorW.Tab.tab_below HTAB_.out (by repeat (first | (with_reducible first | exact HB.out | apply below_alloc | apply pw_below_drewN | apply below_drew1) | exact HB.out | exact Below.refl _ _))⟩); rintro e w19 ⟨rfl, hb⟩; have n0_ := Aside0.mk (blk_below (g := gb119) (o := .cells #[.int .u8 0] 58 (0, 0)) (by (with_reducible repeat (first | refine blk_drewN ?_ _ | refine blk_drew ?_ | refine blk_alloc ?_ _)); exact BK119.out) hb); have n1_ := Aside0.mk (blk_below (g := gb121) (o := .cells #[.int .u8 t120] 58 (0, 0)) (by (with_reducible repeat (first | refine blk_drewN ?_ _ | refine blk_drew ?_ | refine blk_alloc ?_ _)); exact BK121.out) hb); have n2_ := Aside0.mk (below_step (by repeat (first | (with_reducible first | exact HB.out | apply below_alloc | apply pw_below_drewN | apply below_drew1 | refine below_set ?_ GE119.out | refine below_set ?_ GE121.out) | exact HB.out)) hb); clear BK119; clear BK121; clear HB; have BK119 := n0_; have BK121 := n1_; have HB := n2_; clear n0_ n1_ n2_; (try clear hb); (try clear hb2); (try clear hk); (try clear hi); have hcz20_0 : w19.cell? ⟨gb121, 0, none⟩ = some (.int .u8 t120) := (blk_cell BK121.out 0).trans rfl; have hfz20_0 := blk_frozen BK121.out 0) | (go_at_call 54; (with_reducible refine (bits_Set_uint8_Width.calls t120 t125 _ A8.out).mono ?_); rintro e w21 ⟨rfl, hb⟩; have n0_ := Aside0.mk (blk_below (g := gb119) (o := .cells #[.int .u8 0] 58 (0, 0)) (by (with_reducible repeat (first | refine blk_drewN ?_ _ | refine blk_drew ?_ | refine blk_alloc ?_ _)); exact BK119.out) hb); have n1_ := Aside0.mk (blk_below (g := gb121) (o := .cells #[.int .u8 t120] 58 (0, 0)) (by (with_reducible repeat (first | refine blk_drewN ?_ _ | refine blk_drew ?_ | refine blk_alloc ?_ _)); exact BK121.out) hb); have n2_ := Aside0.mk (below_step (by repeat (first | (with_reducible first | exact HB.out | apply below_alloc | apply pw_below_drewN | apply below_drew1 | refine below_set ?_ GE119.out | refine below_set ?_ GE121.out) | exact HB.out)) hb); clear BK119; clear BK121; clear HB; have BK119 := n0_; have BK121 := n1_; have HB := n2_; clear n0_ n1_ n2_; (try clear hb); (try clear hb2); (try clear hk); (try clear hi)))
        go_ret
        exact ⟨by first | rfl | (simp [errW_none, errW_some] <;> rfl) | (simp [*, errW_none, errW_some] <;> rfl), by repeat (first | (with_reducible first | exact HB.out | apply below_alloc | apply pw_below_drewN | apply below_drew1 | refine below_set ?_ GE119.out | refine below_set ?_ GE121.out) | exact HB.out)⟩
      · rw [if_neg c7] at H
        have c7b0 : (t124.toList == ([123, 49, 44, 50, 44, 52, 44, 55, 125] : List UInt8)) = false := beq_eq_false_iff_ne.mpr c7
        have c7b1 : (t124.toList != ([123, 49, 44, 50, 44, 52, 44, 55, 125] : List UInt8)) = true := bne_iff_ne.mpr c7
        obtain rfl := Option.some.inj H
        go_enter Tryd.func14, Tryd.ntmps14
        go_wp2_with (first | ((with_reducible refine gate_dst (N := 1) rfl ?_); refine box_event ?hg (N := 1) ?hd (cs := #[.int .u8 0]) (t := 58) ?hr ?_; (case hd => rfl); (case hg => rfl); (case hr => first | (go_simp; done) | (go_simp; rfl)); intro gb119 hg w22 hbox hb; have n0_ := Aside0.mk (below_step (by repeat (first | (with_reducible first | exact HB.out | apply below_alloc | apply pw_below_drewN | apply below_drew1) | exact HB.out)) hb); have n1_ := Aside0.mk (hbox); have n2_ := Aside0.mk ((by rw [hg]; exact (below_size (by repeat (first | (with_reducible first | exact HB.out | apply below_alloc | apply pw_below_drewN | apply below_drew1) | exact HB.out))) : w.heap.size ≤ gb119)); have n3_ := Aside0.mk ((by rw [hg]; exact (below_size (by repeat (first | (with_reducible first | exact HB.out | apply below_alloc | apply pw_below_drewN | apply below_drew1) | exact HB.out))) : w.heap.size ≤ gb119)); clear HB; have HB := n0_; have BK119 := n1_; have GW119 := n2_; have GE119 := n3_; clear n0_ n1_ n2_ n3_; clear hb hbox hg; have hcz23_0 : w22.cell? ⟨gb119, 0, none⟩ = some (.int .u8 0) := (blk_cell BK119.out 0).trans rfl; have hfz23_0 := blk_frozen BK119.out 0) | ((with_reducible refine gate_callee (f := 32) rfl ?_); refine goesL_ (some 4) rfl rfl Tryd.func32 (by kernel_rfl) rfl #[.agg #[.int .u8 0], .int .u8 150] rfl (by (try simp only [List.map_toArray, List.map_cons, List.map_nil]); first | done | rfl | (simp only [List.length_drop, List.length_take]; rfl)) ?_; (with_reducible refine (bits_Set_uint8_Of.calls 0 150 t120 _ A1.out).mono ?_); rintro e w24 ⟨rfl, hb⟩; refine ⟨_, rfl, ?_⟩; have n0_ := Aside0.mk (blk_below (g := gb119) (o := .cells #[.int .u8 0] 58 (0, 0)) (by (with_reducible repeat (first | refine blk_drewN ?_ _ | refine blk_drew ?_ | refine blk_alloc ?_ _)); exact BK119.out) hb); have n1_ := Aside0.mk (below_step (by repeat (first | (with_reducible first | exact HB.out | apply below_alloc | apply pw_below_drewN | apply below_drew1 | refine below_set ?_ GE119.out) | exact HB.out)) hb); clear BK119; clear HB; have BK119 := n0_; have HB := n1_; clear n0_ n1_; (try clear hb); (try clear hb2); (try clear hk); (try clear hi)) | ((with_reducible refine gate_dst (N := 2) rfl ?_); refine box_event ?hg (N := 2) ?hd (cs := #[.int .u8 0]) (t := 58) ?hr ?_; (case hd => rfl); (case hg => rfl); (case hr => first | (go_simp; done) | (go_simp; rfl)); intro gb121 hg w25 hbox hb; have n0_ := Aside0.mk (blk_below (g := gb119) (o := .cells #[.int .u8 0] 58 (0, 0)) (by (with_reducible repeat (first | refine blk_drewN ?_ _ | refine blk_drew ?_ | refine blk_alloc ?_ _)); exact BK119.out) hb); have n1_ := Aside0.mk (below_step (by repeat (first | (with_reducible first | exact HB.out | apply below_alloc | apply pw_below_drewN | apply below_drew1 | refine below_set ?_ GE119.out) | exact HB.out)) hb); have n2_ := Aside0.mk (hbox); have n3_ := Aside0.mk ((by rw [hg]; exact (below_size (by repeat (first | (with_reducible first | exact HB.out | apply below_alloc | apply pw_below_drewN | apply below_drew1 | refine below_set ?_ GE119.out) | exact HB.out))) : w.heap.size ≤ gb121)); have n4_ := Aside0.mk ((by rw [hg]; exact (below_size (by repeat (first | (with_reducible first | exact HB.out | apply below_alloc | apply pw_below_drewN | apply below_drew1 | refine below_set ?_ GE119.out) | exact HB.out))) : w.heap.size ≤ gb121)); have n5_ := Aside0.mk ((by rw [hg]; exact Nat.ne_of_lt (blk_lt (g := gb119) (o := .cells #[.int .u8 0] 58 (0, 0)) (by (with_reducible repeat (first | refine blk_drewN ?_ _ | refine blk_drew ?_ | refine blk_alloc ?_ _)); exact BK119.out)) : gb119 ≠ gb121)); have n6_ := Aside0.mk ((by rw [hg]; exact Nat.ne_of_gt (blk_lt (g := gb119) (o := .cells #[.int .u8 0] 58 (0, 0)) (by (with_reducible repeat (first | refine blk_drewN ?_ _ | refine blk_drew ?_ | refine blk_alloc ?_ _)); exact BK119.out)) : gb121 ≠ gb119)); clear BK119; clear HB; have BK119 := n0_; have HB := n1_; have BK121 := n2_; have GW121 := n3_; have GE121 := n4_; have NB119_121 := n5_; have NB121_119 := n6_; clear n0_ n1_ n2_ n3_ n4_ n5_ n6_; clear hb hbox hg; have hnb26 := NB121_119.out; have hnc26 := NB119_121.out; have hcz27_0 : w25.cell? ⟨gb121, 0, none⟩ = some (.int .u8 0) := (blk_cell BK121.out 0).trans rfl; have hfz27_0 := blk_frozen BK121.out 0) | ((with_reducible refine gate_callee (f := 51) rfl ?_); refine goesL_ (some 6) rfl rfl Tryd.func51 (by kernel_rfl) rfl #[.agg #[.int .u8 t120]] rfl (by (try simp only [List.map_toArray, List.map_cons, List.map_nil]); first | done | rfl | (simp only [List.length_drop, List.length_take]; rfl)) ?_; (with_reducible refine (bits_Set_uint8_Len.calls t120 t122 _ A2.out).mono ?_); rintro e w28 ⟨rfl, hb⟩; refine ⟨_, rfl, ?_⟩; have n0_ := Aside0.mk (blk_below (g := gb119) (o := .cells #[.int .u8 0] 58 (0, 0)) (by (with_reducible repeat (first | refine blk_drewN ?_ _ | refine blk_drew ?_ | refine blk_alloc ?_ _)); refine blk_far ?_ NB119_121.out _; (with_reducible repeat (first | refine blk_drewN ?_ _ | refine blk_drew ?_ | refine blk_alloc ?_ _)); exact BK119.out) hb); have n1_ := Aside0.mk (blk_below (g := gb121) (o := .cells #[.int .u8 t120] 58 (0, 0)) (by (with_reducible repeat (first | refine blk_drewN ?_ _ | refine blk_drew ?_ | refine blk_alloc ?_ _)); refine blk_put (cs := #[.int .u8 0]) ?_ 0 _ rfl; (with_reducible repeat (first | refine blk_drewN ?_ _ | refine blk_drew ?_ | refine blk_alloc ?_ _)); exact BK121.out) hb); have n2_ := Aside0.mk (below_step (by repeat (first | (with_reducible first | exact HB.out | apply below_alloc | apply pw_below_drewN | apply below_drew1 | refine below_set ?_ GE119.out | refine below_set ?_ GE121.out) | exact HB.out)) hb); clear BK119; clear BK121; clear HB; have BK119 := n0_; have BK121 := n1_; have HB := n2_; clear n0_ n1_ n2_; (try clear hb); (try clear hb2); (try clear hk); (try clear hi); have hcz29_0 : w28.cell? ⟨gb121, 0, none⟩ = some (.int .u8 t120) := (blk_cell BK121.out 0).trans rfl; have hfz29_0 := blk_frozen BK121.out 0) | (go_at_call 52; (with_reducible refine (bits_Set_uint8_Has.calls t120 7 true _ A4.out).mono ?_); rintro e w30 ⟨rfl, hb⟩; have n0_ := Aside0.mk (blk_below (g := gb119) (o := .cells #[.int .u8 0] 58 (0, 0)) (by (with_reducible repeat (first | refine blk_drewN ?_ _ | refine blk_drew ?_ | refine blk_alloc ?_ _)); exact BK119.out) hb); have n1_ := Aside0.mk (blk_below (g := gb121) (o := .cells #[.int .u8 t120] 58 (0, 0)) (by (with_reducible repeat (first | refine blk_drewN ?_ _ | refine blk_drew ?_ | refine blk_alloc ?_ _)); exact BK121.out) hb); have n2_ := Aside0.mk (below_step (by repeat (first | (with_reducible first | exact HB.out | apply below_alloc | apply pw_below_drewN | apply below_drew1 | refine below_set ?_ GE119.out | refine below_set ?_ GE121.out) | exact HB.out)) hb); clear BK119; clear BK121; clear HB; have BK119 := n0_; have BK121 := n1_; have HB := n2_; clear n0_ n1_ n2_; (try clear hb); (try clear hb2); (try clear hk); (try clear hi); have hcz31_0 : w30.cell? ⟨gb121, 0, none⟩ = some (.int .u8 t120) := (blk_cell BK121.out 0).trans rfl; have hfz31_0 := blk_frozen BK121.out 0) | (go_at_call 53; (with_reducible refine (bits_Set_uint8_Text.calls t120 t124 _ A6.out ?tabs_).mono ?_); (case tabs_ => exact ⟨Go.Proofs.YtfgmapnanaahaaaDoorW.Tab.tab_below HTAB_.out (by repeat (first | (with_reducible first | exact HB.out | apply below_alloc | apply pw_below_drewN | apply below_drew1) | exact HB.out | exact Below.refl _ _))⟩); rintro e w32 ⟨rfl, hb⟩; have n0_ := Aside0.mk (blk_below (g := gb119) (o := .cells #[.int .u8 0] 58 (0, 0)) (by (with_reducible repeat (first | refine blk_drewN ?_ _ | refine blk_drew ?_ | refine blk_alloc ?_ _)); exact BK119.out) hb); have n1_ := Aside0.mk (blk_below (g := gb121) (o := .cells #[.int .u8 t120] 58 (0, 0)) (by (with_reducible repeat (first | refine blk_drewN ?_ _ | refine blk_drew ?_ | refine blk_alloc ?_ _)); exact BK121.out) hb); have n2_ := Aside0.mk (below_step (by repeat (first | (with_reducible first | exact HB.out | apply below_alloc | apply pw_below_drewN | apply below_drew1 | refine below_set ?_ GE119.out | refine below_set ?_ GE121.out) | exact HB.out)) hb); clear BK119; clear BK121; clear HB; have BK119 := n0_; have BK121 := n1_; have HB := n2_; clear n0_ n1_ n2_; (try clear hb); (try clear hb2); (try clear hk); (try clear hi)))
        go_ret
        exact ⟨by first | rfl | (simp [errW_none, errW_some] <;> rfl) | (simp [*, errW_none, errW_some] <;> rfl), by repeat (first | (with_reducible first | exact HB.out | apply below_alloc | apply pw_below_drewN | apply below_drew1 | refine below_set ?_ GE119.out | refine below_set ?_ GE121.out) | exact HB.out)⟩
    · replace c5 := Bool.eq_false_iff.mpr c5
      subst c5
      have H1 : (some false) = some r := by rw [if_neg (show ¬ (false = true) by decide)] at H; exact H
      clear H
      have H := H1
      clear H1
      obtain rfl := Option.some.inj H
      go_enter Tryd.func14, Tryd.ntmps14
      go_wp2_with (first | ((with_reducible refine gate_dst (N := 1) rfl ?_); refine box_event ?hg (N := 1) ?hd (cs := #[.int .u8 0]) (t := 58) ?hr ?_; (case hd => rfl); (case hg => rfl); (case hr => first | (go_simp; done) | (go_simp; rfl)); intro gb119 hg w33 hbox hb; have n0_ := Aside0.mk (below_step (by repeat (first | (with_reducible first | exact HB.out | apply below_alloc | apply pw_below_drewN | apply below_drew1) | exact HB.out)) hb); have n1_ := Aside0.mk (hbox); have n2_ := Aside0.mk ((by rw [hg]; exact (below_size (by repeat (first | (with_reducible first | exact HB.out | apply below_alloc | apply pw_below_drewN | apply below_drew1) | exact HB.out))) : w.heap.size ≤ gb119)); have n3_ := Aside0.mk ((by rw [hg]; exact (below_size (by repeat (first | (with_reducible first | exact HB.out | apply below_alloc | apply pw_below_drewN | apply below_drew1) | exact HB.out))) : w.heap.size ≤ gb119)); clear HB; have HB := n0_; have BK119 := n1_; have GW119 := n2_; have GE119 := n3_; clear n0_ n1_ n2_ n3_; clear hb hbox hg; have hcz34_0 : w33.cell? ⟨gb119, 0, none⟩ = some (.int .u8 0) := (blk_cell BK119.out 0).trans rfl; have hfz34_0 := blk_frozen BK119.out 0) | ((with_reducible refine gate_callee (f := 32) rfl ?_); refine goesL_ (some 4) rfl rfl Tryd.func32 (by kernel_rfl) rfl #[.agg #[.int .u8 0], .int .u8 150] rfl (by (try simp only [List.map_toArray, List.map_cons, List.map_nil]); first | done | rfl | (simp only [List.length_drop, List.length_take]; rfl)) ?_; (with_reducible refine (bits_Set_uint8_Of.calls 0 150 t120 _ A1.out).mono ?_); rintro e w35 ⟨rfl, hb⟩; refine ⟨_, rfl, ?_⟩; have n0_ := Aside0.mk (blk_below (g := gb119) (o := .cells #[.int .u8 0] 58 (0, 0)) (by (with_reducible repeat (first | refine blk_drewN ?_ _ | refine blk_drew ?_ | refine blk_alloc ?_ _)); exact BK119.out) hb); have n1_ := Aside0.mk (below_step (by repeat (first | (with_reducible first | exact HB.out | apply below_alloc | apply pw_below_drewN | apply below_drew1 | refine below_set ?_ GE119.out) | exact HB.out)) hb); clear BK119; clear HB; have BK119 := n0_; have HB := n1_; clear n0_ n1_; (try clear hb); (try clear hb2); (try clear hk); (try clear hi)) | ((with_reducible refine gate_dst (N := 2) rfl ?_); refine box_event ?hg (N := 2) ?hd (cs := #[.int .u8 0]) (t := 58) ?hr ?_; (case hd => rfl); (case hg => rfl); (case hr => first | (go_simp; done) | (go_simp; rfl)); intro gb121 hg w36 hbox hb; have n0_ := Aside0.mk (blk_below (g := gb119) (o := .cells #[.int .u8 0] 58 (0, 0)) (by (with_reducible repeat (first | refine blk_drewN ?_ _ | refine blk_drew ?_ | refine blk_alloc ?_ _)); exact BK119.out) hb); have n1_ := Aside0.mk (below_step (by repeat (first | (with_reducible first | exact HB.out | apply below_alloc | apply pw_below_drewN | apply below_drew1 | refine below_set ?_ GE119.out) | exact HB.out)) hb); have n2_ := Aside0.mk (hbox); have n3_ := Aside0.mk ((by rw [hg]; exact (below_size (by repeat (first | (with_reducible first | exact HB.out | apply below_alloc | apply pw_below_drewN | apply below_drew1 | refine below_set ?_ GE119.out) | exact HB.out))) : w.heap.size ≤ gb121)); have n4_ := Aside0.mk ((by rw [hg]; exact (below_size (by repeat (first | (with_reducible first | exact HB.out | apply below_alloc | apply pw_below_drewN | apply below_drew1 | refine below_set ?_ GE119.out) | exact HB.out))) : w.heap.size ≤ gb121)); have n5_ := Aside0.mk ((by rw [hg]; exact Nat.ne_of_lt (blk_lt (g := gb119) (o := .cells #[.int .u8 0] 58 (0, 0)) (by (with_reducible repeat (first | refine blk_drewN ?_ _ | refine blk_drew ?_ | refine blk_alloc ?_ _)); exact BK119.out)) : gb119 ≠ gb121)); have n6_ := Aside0.mk ((by rw [hg]; exact Nat.ne_of_gt (blk_lt (g := gb119) (o := .cells #[.int .u8 0] 58 (0, 0)) (by (with_reducible repeat (first | refine blk_drewN ?_ _ | refine blk_drew ?_ | refine blk_alloc ?_ _)); exact BK119.out)) : gb121 ≠ gb119)); clear BK119; clear HB; have BK119 := n0_; have HB := n1_; have BK121 := n2_; have GW121 := n3_; have GE121 := n4_; have NB119_121 := n5_; have NB121_119 := n6_; clear n0_ n1_ n2_ n3_ n4_ n5_ n6_; clear hb hbox hg; have hnb37 := NB121_119.out; have hnc37 := NB119_121.out; have hcz38_0 : w36.cell? ⟨gb121, 0, none⟩ = some (.int .u8 0) := (blk_cell BK121.out 0).trans rfl; have hfz38_0 := blk_frozen BK121.out 0) | ((with_reducible refine gate_callee (f := 51) rfl ?_); refine goesL_ (some 6) rfl rfl Tryd.func51 (by kernel_rfl) rfl #[.agg #[.int .u8 t120]] rfl (by (try simp only [List.map_toArray, List.map_cons, List.map_nil]); first | done | rfl | (simp only [List.length_drop, List.length_take]; rfl)) ?_; (with_reducible refine (bits_Set_uint8_Len.calls t120 t122 _ A2.out).mono ?_); rintro e w39 ⟨rfl, hb⟩; refine ⟨_, rfl, ?_⟩; have n0_ := Aside0.mk (blk_below (g := gb119) (o := .cells #[.int .u8 0] 58 (0, 0)) (by (with_reducible repeat (first | refine blk_drewN ?_ _ | refine blk_drew ?_ | refine blk_alloc ?_ _)); refine blk_far ?_ NB119_121.out _; (with_reducible repeat (first | refine blk_drewN ?_ _ | refine blk_drew ?_ | refine blk_alloc ?_ _)); exact BK119.out) hb); have n1_ := Aside0.mk (blk_below (g := gb121) (o := .cells #[.int .u8 t120] 58 (0, 0)) (by (with_reducible repeat (first | refine blk_drewN ?_ _ | refine blk_drew ?_ | refine blk_alloc ?_ _)); refine blk_put (cs := #[.int .u8 0]) ?_ 0 _ rfl; (with_reducible repeat (first | refine blk_drewN ?_ _ | refine blk_drew ?_ | refine blk_alloc ?_ _)); exact BK121.out) hb); have n2_ := Aside0.mk (below_step (by repeat (first | (with_reducible first | exact HB.out | apply below_alloc | apply pw_below_drewN | apply below_drew1 | refine below_set ?_ GE119.out | refine below_set ?_ GE121.out) | exact HB.out)) hb); clear BK119; clear BK121; clear HB; have BK119 := n0_; have BK121 := n1_; have HB := n2_; clear n0_ n1_ n2_; (try clear hb); (try clear hb2); (try clear hk); (try clear hi); have hcz40_0 : w39.cell? ⟨gb121, 0, none⟩ = some (.int .u8 t120) := (blk_cell BK121.out 0).trans rfl; have hfz40_0 := blk_frozen BK121.out 0) | (go_at_call 52; (with_reducible refine (bits_Set_uint8_Has.calls t120 7 false _ A4.out).mono ?_); rintro e w41 ⟨rfl, hb⟩; have n0_ := Aside0.mk (blk_below (g := gb119) (o := .cells #[.int .u8 0] 58 (0, 0)) (by (with_reducible repeat (first | refine blk_drewN ?_ _ | refine blk_drew ?_ | refine blk_alloc ?_ _)); exact BK119.out) hb); have n1_ := Aside0.mk (blk_below (g := gb121) (o := .cells #[.int .u8 t120] 58 (0, 0)) (by (with_reducible repeat (first | refine blk_drewN ?_ _ | refine blk_drew ?_ | refine blk_alloc ?_ _)); exact BK121.out) hb); have n2_ := Aside0.mk (below_step (by repeat (first | (with_reducible first | exact HB.out | apply below_alloc | apply pw_below_drewN | apply below_drew1 | refine below_set ?_ GE119.out | refine below_set ?_ GE121.out) | exact HB.out)) hb); clear BK119; clear BK121; clear HB; have BK119 := n0_; have BK121 := n1_; have HB := n2_; clear n0_ n1_ n2_; (try clear hb); (try clear hb2); (try clear hk); (try clear hi)))
      go_ret
      exact ⟨by first | rfl | (simp [errW_none, errW_some] <;> rfl) | (simp [*, errW_none, errW_some] <;> rfl), by repeat (first | (with_reducible first | exact HB.out | apply below_alloc | apply pw_below_drewN | apply below_drew1 | refine below_set ?_ GE119.out | refine below_set ?_ GE121.out) | exact HB.out)⟩
  · rw [if_neg c3] at H
    have c3b0 : (t122 == 4) = false := beq_eq_false_iff_ne.mpr c3
    have c3b1 : (t122 != 4) = true := bne_iff_ne.mpr c3
    obtain rfl := Option.some.inj H
    go_enter Tryd.func14, Tryd.ntmps14
    go_wp2_with (first | ((with_reducible refine gate_dst (N := 1) rfl ?_); refine box_event ?hg (N := 1) ?hd (cs := #[.int .u8 0]) (t := 58) ?hr ?_; (case hd => rfl); (case hg => rfl); (case hr => first | (go_simp; done) | (go_simp; rfl)); intro gb119 hg w42 hbox hb; have n0_ := Aside0.mk (below_step (by repeat (first | (with_reducible first | exact HB.out | apply below_alloc | apply pw_below_drewN | apply below_drew1) | exact HB.out)) hb); have n1_ := Aside0.mk (hbox); have n2_ := Aside0.mk ((by rw [hg]; exact (below_size (by repeat (first | (with_reducible first | exact HB.out | apply below_alloc | apply pw_below_drewN | apply below_drew1) | exact HB.out))) : w.heap.size ≤ gb119)); have n3_ := Aside0.mk ((by rw [hg]; exact (below_size (by repeat (first | (with_reducible first | exact HB.out | apply below_alloc | apply pw_below_drewN | apply below_drew1) | exact HB.out))) : w.heap.size ≤ gb119)); clear HB; have HB := n0_; have BK119 := n1_; have GW119 := n2_; have GE119 := n3_; clear n0_ n1_ n2_ n3_; clear hb hbox hg; have hcz43_0 : w42.cell? ⟨gb119, 0, none⟩ = some (.int .u8 0) := (blk_cell BK119.out 0).trans rfl; have hfz43_0 := blk_frozen BK119.out 0) | ((with_reducible refine gate_callee (f := 32) rfl ?_); refine goesL_ (some 4) rfl rfl Tryd.func32 (by kernel_rfl) rfl #[.agg #[.int .u8 0], .int .u8 150] rfl (by (try simp only [List.map_toArray, List.map_cons, List.map_nil]); first | done | rfl | (simp only [List.length_drop, List.length_take]; rfl)) ?_; (with_reducible refine (bits_Set_uint8_Of.calls 0 150 t120 _ A1.out).mono ?_); rintro e w44 ⟨rfl, hb⟩; refine ⟨_, rfl, ?_⟩; have n0_ := Aside0.mk (blk_below (g := gb119) (o := .cells #[.int .u8 0] 58 (0, 0)) (by (with_reducible repeat (first | refine blk_drewN ?_ _ | refine blk_drew ?_ | refine blk_alloc ?_ _)); exact BK119.out) hb); have n1_ := Aside0.mk (below_step (by repeat (first | (with_reducible first | exact HB.out | apply below_alloc | apply pw_below_drewN | apply below_drew1 | refine below_set ?_ GE119.out) | exact HB.out)) hb); clear BK119; clear HB; have BK119 := n0_; have HB := n1_; clear n0_ n1_; (try clear hb); (try clear hb2); (try clear hk); (try clear hi)) | ((with_reducible refine gate_dst (N := 2) rfl ?_); refine box_event ?hg (N := 2) ?hd (cs := #[.int .u8 0]) (t := 58) ?hr ?_; (case hd => rfl); (case hg => rfl); (case hr => first | (go_simp; done) | (go_simp; rfl)); intro gb121 hg w45 hbox hb; have n0_ := Aside0.mk (blk_below (g := gb119) (o := .cells #[.int .u8 0] 58 (0, 0)) (by (with_reducible repeat (first | refine blk_drewN ?_ _ | refine blk_drew ?_ | refine blk_alloc ?_ _)); exact BK119.out) hb); have n1_ := Aside0.mk (below_step (by repeat (first | (with_reducible first | exact HB.out | apply below_alloc | apply pw_below_drewN | apply below_drew1 | refine below_set ?_ GE119.out) | exact HB.out)) hb); have n2_ := Aside0.mk (hbox); have n3_ := Aside0.mk ((by rw [hg]; exact (below_size (by repeat (first | (with_reducible first | exact HB.out | apply below_alloc | apply pw_below_drewN | apply below_drew1 | refine below_set ?_ GE119.out) | exact HB.out))) : w.heap.size ≤ gb121)); have n4_ := Aside0.mk ((by rw [hg]; exact (below_size (by repeat (first | (with_reducible first | exact HB.out | apply below_alloc | apply pw_below_drewN | apply below_drew1 | refine below_set ?_ GE119.out) | exact HB.out))) : w.heap.size ≤ gb121)); have n5_ := Aside0.mk ((by rw [hg]; exact Nat.ne_of_lt (blk_lt (g := gb119) (o := .cells #[.int .u8 0] 58 (0, 0)) (by (with_reducible repeat (first | refine blk_drewN ?_ _ | refine blk_drew ?_ | refine blk_alloc ?_ _)); exact BK119.out)) : gb119 ≠ gb121)); have n6_ := Aside0.mk ((by rw [hg]; exact Nat.ne_of_gt (blk_lt (g := gb119) (o := .cells #[.int .u8 0] 58 (0, 0)) (by (with_reducible repeat (first | refine blk_drewN ?_ _ | refine blk_drew ?_ | refine blk_alloc ?_ _)); exact BK119.out)) : gb121 ≠ gb119)); clear BK119; clear HB; have BK119 := n0_; have HB := n1_; have BK121 := n2_; have GW121 := n3_; have GE121 := n4_; have NB119_121 := n5_; have NB121_119 := n6_; clear n0_ n1_ n2_ n3_ n4_ n5_ n6_; clear hb hbox hg; have hnb46 := NB121_119.out; have hnc46 := NB119_121.out; have hcz47_0 : w45.cell? ⟨gb121, 0, none⟩ = some (.int .u8 0) := (blk_cell BK121.out 0).trans rfl; have hfz47_0 := blk_frozen BK121.out 0) | ((with_reducible refine gate_callee (f := 51) rfl ?_); refine goesL_ (some 6) rfl rfl Tryd.func51 (by kernel_rfl) rfl #[.agg #[.int .u8 t120]] rfl (by (try simp only [List.map_toArray, List.map_cons, List.map_nil]); first | done | rfl | (simp only [List.length_drop, List.length_take]; rfl)) ?_; (with_reducible refine (bits_Set_uint8_Len.calls t120 t122 _ A2.out).mono ?_); rintro e w48 ⟨rfl, hb⟩; refine ⟨_, rfl, ?_⟩; have n0_ := Aside0.mk (blk_below (g := gb119) (o := .cells #[.int .u8 0] 58 (0, 0)) (by (with_reducible repeat (first | refine blk_drewN ?_ _ | refine blk_drew ?_ | refine blk_alloc ?_ _)); refine blk_far ?_ NB119_121.out _; (with_reducible repeat (first | refine blk_drewN ?_ _ | refine blk_drew ?_ | refine blk_alloc ?_ _)); exact BK119.out) hb); have n1_ := Aside0.mk (blk_below (g := gb121) (o := .cells #[.int .u8 t120] 58 (0, 0)) (by (with_reducible repeat (first | refine blk_drewN ?_ _ | refine blk_drew ?_ | refine blk_alloc ?_ _)); refine blk_put (cs := #[.int .u8 0]) ?_ 0 _ rfl; (with_reducible repeat (first | refine blk_drewN ?_ _ | refine blk_drew ?_ | refine blk_alloc ?_ _)); exact BK121.out) hb); have n2_ := Aside0.mk (below_step (by repeat (first | (with_reducible first | exact HB.out | apply below_alloc | apply pw_below_drewN | apply below_drew1 | refine below_set ?_ GE119.out | refine below_set ?_ GE121.out) | exact HB.out)) hb); clear BK119; clear BK121; clear HB; have BK119 := n0_; have BK121 := n1_; have HB := n2_; clear n0_ n1_ n2_; (try clear hb); (try clear hb2); (try clear hk); (try clear hi)))
    go_ret
    exact ⟨by first | rfl | (simp [errW_none, errW_some] <;> rfl) | (simp [*, errW_none, errW_some] <;> rfl), by repeat (first | (with_reducible first | exact HB.out | apply below_alloc | apply pw_below_drewN | apply below_drew1 | refine below_set ?_ GE119.out | refine below_set ?_ GE121.out) | exact HB.out)⟩

/-! ### bits_Set_uint64_Subsets_1: function 60 -/
section
open Go Go.Lib Go.Proofs.YtfgmapnanaahaaaDoorW.Rng Go.Proofs.YtfgmapnanaahaaaDoorW.BitsM Go.Proofs.YtfgmapnanaahaaaDoorW.Tab
attribute [local go_sem] Oper.semAt_some
/-- the count of a word's numbers below W -/
def subsCnt : Nat → Nat → Nat
  | 0, _ => 0
  | W + 1, a => a % 2 + subsCnt W (a / 2)
/-- the number of a subset among the subsets -/
def subsRk : Nat → Nat → Nat → Nat
  | 0, _, _ => 0
  | W + 1, a, t => if a % 2 = 1 then t % 2 + 2 * subsRk W (a / 2) (t / 2) else subsRk W (a / 2) (t / 2)
theorem subs_and2 (x y : Nat) : x &&& y = 2 * (x / 2 &&& y / 2) + x % 2 * (y % 2) := by
  have h1 : (x &&& y) / 2 = x / 2 &&& y / 2 := Nat.and_div_two
  have h4 : (x &&& y) % 2 = 1 ↔ x % 2 = 1 ∧ y % 2 = 1 := Nat.and_mod_two_eq_one
  by_cases hx : x % 2 = 1
  · by_cases hy : y % 2 = 1
    · have := h4.2 ⟨hx, hy⟩
      rw [hx, hy]; omega
    · have h5 : ¬ (x &&& y) % 2 = 1 := fun h => hy (h4.1 h).2
      rw [show y % 2 = 0 by omega, Nat.mul_zero]; omega
  · have h5 : ¬ (x &&& y) % 2 = 1 := fun h => hx (h4.1 h).1
    rw [show x % 2 = 0 by omega, Nat.zero_mul]; omega
theorem subs_two {a t : Nat} (h : t &&& a = t) : t / 2 &&& a / 2 = t / 2 ∧ t % 2 ≤ a % 2 := by
  have e := subs_and2 t a
  rw [h] at e
  have h3 : t % 2 < 2 := Nat.mod_lt _ (by decide)
  rcases Nat.mod_two_eq_zero_or_one a with ha | ha <;> rcases Nat.mod_two_eq_zero_or_one t with ht | ht <;> simp only [ha, ht] at e ⊢ <;> omega
theorem subs_le {a t : Nat} (h : t &&& a = t) : t ≤ a := by
  have := @Nat.and_le_right t a
  omega
theorem subs_low : ∀ W a t, t &&& a = t → a < 2 ^ W → (t + 2 ^ W - a - 1) &&& a = t
  | 0, a, t, h, ha => by
    have : a = 0 := by simpa using ha
    subst this
    rw [Nat.and_zero] at h ⊢
    exact h
  | W + 1, a, t, h, ha => by
    obtain ⟨h1, h2⟩ := subs_two h
    rw [Nat.pow_succ] at ha ⊢
    have ha' : a / 2 < 2 ^ W := by omega
    have hle := subs_le h1
    have ih := subs_low W (a / 2) (t / 2) h1 ha'
    generalize hp : 2 ^ W = p at *
    have hv : (t + p * 2 - a - 1) / 2 = t / 2 + p - a / 2 - 1 := by omega
    have hm : (t + p * 2 - a - 1) % 2 * (a % 2) = t % 2 := by
      rcases Nat.mod_two_eq_zero_or_one a with hx | hx
      · rw [hx, Nat.mul_zero]; omega
      · rw [hx, Nat.mul_one]; omega
    rw [subs_and2, hv, ih, hm]
    omega
theorem subs_next : ∀ W a t, t &&& a = t → t ≠ a → a < 2 ^ W →
    ((t + 2 ^ W - a) &&& a) &&& a = ((t + 2 ^ W - a) &&& a) ∧ t < ((t + 2 ^ W - a) &&& a) ∧ subsRk W a ((t + 2 ^ W - a) &&& a) = subsRk W a t + 1
  | 0, a, t, h, hne, ha => by
    have : a = 0 := by simpa using ha
    subst this
    rw [Nat.and_zero] at h
    exact absurd h.symm hne
  | W + 1, a, t, h, hne, ha => by
    refine ⟨by rw [Nat.and_assoc, Nat.and_self], ?_⟩
    obtain ⟨h1, h2⟩ := subs_two h
    rw [Nat.pow_succ] at ha ⊢
    have ha' : a / 2 < 2 ^ W := by omega
    have hle := subs_le h1
    have lo := subs_low W (a / 2) (t / 2) h1 ha'
    have ih := subs_next W (a / 2) (t / 2) h1
    rw [subsRk, subsRk]
    rcases Nat.mod_two_eq_zero_or_one a with hx | hx
    · have ht : t % 2 = 0 := by omega
      obtain ⟨_, i2, i3⟩ := ih (by omega) ha'
      generalize hp : 2 ^ W = p at *
      have hv : (t + p * 2 - a) / 2 = t / 2 + p - a / 2 := by omega
      have e : (t + p * 2 - a) &&& a = 2 * ((t / 2 + p - a / 2) &&& a / 2) := by rw [subs_and2, hv, hx, Nat.mul_zero, Nat.add_zero]
      rw [e, if_neg (by omega), if_neg (by omega), Nat.mul_div_cancel_left _ (by decide : 0 < 2)]
      exact ⟨by omega, i3⟩
    · rw [if_pos hx, if_pos hx]
      rcases Nat.mod_two_eq_zero_or_one t with ht | ht
      · generalize hp : 2 ^ W = p at *
        have hv : (t + p * 2 - a) / 2 = t / 2 + p - a / 2 - 1 := by omega
        have hm : (t + p * 2 - a) % 2 = 1 := by omega
        have e : (t + p * 2 - a) &&& a = t + 1 := by rw [subs_and2, hv, lo, hm, hx]; omega
        rw [e]
        refine ⟨by omega, ?_⟩
        rw [show (t + 1) / 2 = t / 2 by omega, show (t + 1) % 2 = 1 by omega, ht]
        omega
      · obtain ⟨_, i2, i3⟩ := ih (by omega) ha'
        generalize hp : 2 ^ W = p at *
        have hv : (t + p * 2 - a) / 2 = t / 2 + p - a / 2 := by omega
        have hm : (t + p * 2 - a) % 2 = 0 := by omega
        have e : (t + p * 2 - a) &&& a = 2 * ((t / 2 + p - a / 2) &&& a / 2) := by rw [subs_and2, hv, hm, Nat.zero_mul, Nat.add_zero]
        rw [e, Nat.mul_div_cancel_left _ (by decide : 0 < 2), i3, Nat.mul_mod_right]
        exact ⟨by omega, by omega⟩
theorem subs_rk0 : ∀ W a, subsRk W a 0 = 0
  | 0, _ => rfl
  | W + 1, a => by rw [subsRk, Nat.zero_div, subs_rk0 W]; simp
theorem subs_rklt : ∀ W a t, subsRk W a t < 2 ^ subsCnt W a
  | 0, _, _ => by simp [subsRk, subsCnt]
  | W + 1, a, t => by
    have ih := subs_rklt W (a / 2) (t / 2)
    rw [subsRk, subsCnt]
    rcases Nat.mod_two_eq_zero_or_one a with hx | hx
    · rw [if_neg (by omega), hx, Nat.zero_add]; exact ih
    · rw [if_pos hx, hx, Nat.add_comm 1, Nat.pow_succ]; omega
theorem subs_rkfull : ∀ W a, subsRk W a a + 1 = 2 ^ subsCnt W a
  | 0, _ => by simp [subsRk, subsCnt]
  | W + 1, a => by
    have ih := subs_rkfull W (a / 2)
    rw [subsRk, subsCnt]
    rcases Nat.mod_two_eq_zero_or_one a with hx | hx
    · rw [if_neg (by omega), hx, Nat.zero_add]; exact ih
    · rw [if_pos hx, hx, Nat.add_comm 1 (subsCnt _ _), Nat.pow_succ, ← ih]; omega
/-- the next subset -/
def subsNx (a t : Nat) : Nat := (t + 2 ^ 64 - a) &&& a
theorem subsNx_next {a t : Nat} (h : t &&& a = t) (hne : t ≠ a) (ha : a < 18446744073709551616) :
    subsNx a t &&& a = subsNx a t ∧ t < subsNx a t ∧ subsRk 64 a (subsNx a t) = subsRk 64 a t + 1 := subs_next 64 a t h hne ha
theorem subsNx_val {a t : Nat} (h : t &&& a = t) (hne : t ≠ a) (ha : a < 18446744073709551616) :
    Go.bits .and .u64 (IntKind.u64.wrap ((t : Int) - (a : Int))) (a : Int) = ((subsNx a t : Nat) : Int) := by
  have hle := subs_le h
  have h64 : (2 : Nat) ^ 64 = 18446744073709551616 := rfl
  have hsub : IntKind.u64.wrap ((t : Int) - (a : Int)) = ((t + 2 ^ 64 - a : Nat) : Int) := by rw [IntKind.wrap_u64, h64]; omega
  rw [hsub, u64_and_nat _ a (by rw [h64]; omega) ha]
  rfl
/-- the subsets from t on -/
def subsL (a : Nat) : Nat → Nat → List Nat
  | 0, _ => []
  | F + 1, t => t :: if t = a then [] else subsL a F (subsNx a t)
theorem subsL_pre {a : Nat} (ha : a < 18446744073709551616) : ∀ (F t : Nat) (pre : List Nat) (x : Nat), t &&& a = t → pre ++ [x] <+: subsL a F t →
    x &&& a = x ∧ subsRk 64 a x = subsRk 64 a t + pre.length ∧ (pre = [] → x = t) ∧ (∀ q y, pre = q ++ [y] → y < x)
  | 0, t, pre, x, ht, h => by
    have := h.length_le
    simp [subsL] at this
  | F + 1, t, pre, x, ht, h => by
    rw [subsL] at h
    cases pre with
    | nil =>
      rw [List.nil_append, List.cons_prefix_cons] at h
      obtain ⟨rfl, _⟩ := h
      exact ⟨ht, rfl, fun _ => rfl, fun q y e => by simp at e⟩
    | cons p pre =>
      rw [List.cons_append, List.cons_prefix_cons] at h
      obtain ⟨rfl, h⟩ := h
      by_cases hta : p = a
      · rw [if_pos hta] at h
        have := h.length_le
        simp at this
      · rw [if_neg hta] at h
        obtain ⟨n1, n2, n3⟩ := subsNx_next ht hta ha
        obtain ⟨i1, i2, i3, i4⟩ := subsL_pre ha F _ pre x n1 h
        refine ⟨i1, by rw [i2, n3, List.length_cons]; omega, fun e => (by simp at e), fun q y e => ?_⟩
        cases q with
        | nil =>
          simp at e
          obtain ⟨rfl, rfl⟩ := e
          rw [i3 rfl]; exact n2
        | cons z q =>
          rw [List.cons_append] at e
          injection e with _ e
          exact i4 q y e
theorem subsL_end {a : Nat} (ha : a < 18446744073709551616) : ∀ (F t : Nat), t &&& a = t → a < t + F →
    subsRk 64 a t + (subsL a F t).length = 2 ^ subsCnt 64 a ∧ ∃ q, subsL a F t = q ++ [a]
  | 0, t, ht, h => by
    have := subs_le ht
    omega
  | F + 1, t, ht, h => by
    rw [subsL]
    by_cases hta : t = a
    · subst hta
      rw [if_pos rfl]
      exact ⟨subs_rkfull 64 t, [], rfl⟩
    · rw [if_neg hta]
      obtain ⟨n1, n2, n3⟩ := subsNx_next ht hta ha
      obtain ⟨i1, q, i2⟩ := subsL_end ha F _ n1 (by omega)
      refine ⟨by rw [← i1, n3, List.length_cons]; omega, t :: q, by rw [i2]; rfl⟩
/-- how far the walk still goes -/
def subsLeft (a : Nat) (v : Value) : Nat := a + 1 - (RowKit.intOf v).toNat
theorem subsLeft_lt {a t t2 : Nat} (h : t < t2) (hle : t ≤ a) : subsLeft a (.int .u64 (t2 : Nat)) < subsLeft a (.int .u64 (t : Nat)) := by
  unfold subsLeft
  simp only [RowKit.intOf, Int.toNat_natCast]
  omega
set_option maxRecDepth 100000 in
set_option maxHeartbeats 2000000 in
/-- The iterator tells the word's subsets, rising. -/
theorem subs64_told (a : Nat) (ha : a < 18446744073709551616) (B : Nat) (w : World) (hB : w.heap[B]? = some (.cells #[.int .u64 a] 26 (0, 0))) :
    YieldsL Tryd.prog 60 #[.pointer (some ⟨B, 0, none⟩)] (fun (x : Nat) vs _ => vs = #[.agg #[.int .u64 x]]) (KeptAt TabW B) (subsL a (a + 1) 0) w := by
  intro l J Jx W hW hJ hJx hY h0
  have hBW := (hW.block B (blk_lt hB)).trans hB
  clear hW hB
  refine callsIn_of_wp Tryd.func60 rfl trivial ?_ rfl
  simp only [Tryd.ntmps60, List.size_toArray, List.length_cons, List.length_nil, Nat.reduceAdd, Nat.reduceSub, Array.replicate_succ, Array.replicate_zero, List.push_toArray, List.append_toArray, List.nil_append, List.cons_append]
  have hc : W.cell? ⟨B, 0, none⟩ = some (.int .u64 a) := (blk_cell hBW 0).trans rfl
  gi_wp2
  gi_loopw [3] (fun v wr => ∃ (t F : Nat) (pre : List Nat), v = .int .u64 t ∧ a < t + F ∧ t &&& a = t ∧ subsL a (a + 1) 0 = pre ++ subsL a F t ∧ J pre wr ∧ Aside0 (wr.heap[B]? = some (.cells #[.int .u64 a] 26 (0, 0)))) (fun v _ => subsLeft a v)
  case atStart => exact ⟨0, a + 1, [], rfl, by omega, Nat.zero_and a, (List.nil_append _).symm, h0, ⟨hBW⟩⟩
  case round =>
    clear hc hBW h0
    obtain ⟨t, F, pre, rfl, hF, hs, hp, hJp, hb⟩ := hrel
    have hle := subs_le hs
    obtain ⟨F, rfl⟩ : ∃ G, F = G + 1 := ⟨F - 1, by omega⟩
    rw [show subsL a (F + 1) t = t :: (if t = a then [] else subsL a F (subsNx a t)) from rfl] at hp
    have hpre : pre ++ [t] <+: subsL a (a + 1) 0 := ⟨if t = a then [] else subsL a F (subsNx a t), by rw [hp]; simp⟩
    obtain ⟨fn, tmps, assign, body, hy, hR⟩ := hY pre t #[.agg #[.int .u64 t]] wr hJp hpre rfl
    have HP := Aside0.mk hp
    have HPRE := Aside0.mk hpre
    have HF := Aside0.mk hF
    have HS := Aside0.mk hs
    clear hp hpre hF hs hY
    gi_wp2
    refine hR.mono ?_
    rintro e W3 (⟨rfl, hJ3, hk3⟩ | ⟨rfl, hJx3⟩)
    · have hB3 := hk3.1.trans hb.out
      have hc3 : W3.cell? ⟨B, 0, none⟩ = some (.int .u64 a) := (blk_cell hB3 0).trans rfl
      have HB3 := Aside0.mk hB3
      clear hk3 hB3 hb hy hR hJp
      by_cases hta : t = a
      · have hne : ((t : Int) != (a : Int)) = false := by simp [hta]
        have hp := HP.out
        rw [if_pos hta] at hp
        have HPP := Aside0.mk hp
        clear hta hp HP
        gi_wp2
        go_end0
        exact ⟨⟨_, rfl⟩, .inl (by rw [HPP.out]; exact hJ3)⟩
      · have hne : ((t : Int) != (a : Int)) = true := by simp; omega
        have hp := HP.out
        rw [if_neg hta] at hp
        obtain ⟨n1, n2, _⟩ := subsNx_next HS.out hta ha
        have hnx := subsNx_val HS.out hta ha
        have hle2 := subs_le n1
        generalize subsNx a t = t2 at *
        have HPP := Aside0.mk hp
        have HN1 := Aside0.mk n1
        have HN2 : Aside0 (subsLeft a (.int .u64 (t2 : Nat)) < subsLeft a (.int .u64 (t : Nat))) := ⟨subsLeft_lt n2 hle⟩
        have HF2 : Aside0 (a < t2 + F) := ⟨by have := HF.out; omega⟩
        clear hta hp HP n1 n2 hle2 hle
        gi_wp2
        go_roundw
        case rel => exact ⟨t2, F, pre ++ [t], rfl, HF2.out, HN1.out, by rw [HPP.out]; simp, hJ3, HB3⟩
        case measure => exact HN2.out
    · clear hb hy hR hJp
      gi_wp2
      go_end0
      exact ⟨⟨_, rfl⟩, .inr ⟨pre ++ [t], HPRE.out, hJx3⟩⟩
end


/-! ### bits_Set_uint64_Subsets: function 19 -/
section
open Go
set_option maxHeartbeats 1000000 in
theorem subs64_made (a : Int) (w : World) : Calls Tryd.prog 19 #[.agg #[.int .u64 a]] w fun e w' => e = .returned (.func (.func 60) #[] #[.pointer (some ⟨w.heap.size, 0, none⟩)]) ∧ w' = w.alloc (.cells #[.int .u64 a] 26) := by
  go_enter Tryd.func19, Tryd.ntmps19
  go_wp2
  go_ret
  exact ⟨rfl, rfl⟩
end


/-! ### bits_Set_uint64_Sub: function 20 -/
def bits_Set_uint64_Sub.f (a0_0 : Int) (a1_0 : Int) : Option (Bool) := some ((Go.bits .andNot .u64 a0_0 a1_0) == 0)
set_option maxHeartbeats 8000000 in
set_option maxRecDepth 100000 in
theorem bits_Set_uint64_Sub.calls (a0_0 : Int) (a1_0 : Int) (r : Bool) (w : World) (h : bits_Set_uint64_Sub.f a0_0 a1_0 = some r) :
    Calls Tryd.prog 20 #[.agg #[.int .u64 a0_0], .agg #[.int .u64 a1_0]] w fun e w' => e = .returned (.bool r) ∧ Below w.heap.size w w' := by
  have hu26 := Tryd.underlying26
  have HB := Aside0.mk (Below.refl w.heap.size w)
  have H : (some ((Go.bits .andNot .u64 a0_0 a1_0) == 0)) = some r := h
  clear h
  obtain rfl := Option.some.inj H
  go_enter Tryd.func20, Tryd.ntmps20
  go_wp2_with (first | ((with_reducible refine gate_dst (N := 2) rfl ?_); refine box_event ?hg (N := 2) ?hd (cs := #[.int .u64 a0_0]) (t := 26) ?hr ?_; (case hd => rfl); (case hg => rfl); (case hr => first | (go_simp; done) | (go_simp; rfl)); intro gb126 hg w3 hbox hb; have n0_ := Aside0.mk (below_step (by repeat (first | (with_reducible first | exact HB.out | apply below_alloc | apply pw_below_drewN | apply below_drew1) | exact HB.out)) hb); have n1_ := Aside0.mk (hbox); have n2_ := Aside0.mk ((by rw [hg]; exact (below_size (by repeat (first | (with_reducible first | exact HB.out | apply below_alloc | apply pw_below_drewN | apply below_drew1) | exact HB.out))) : w.heap.size ≤ gb126)); have n3_ := Aside0.mk ((by rw [hg]; exact (below_size (by repeat (first | (with_reducible first | exact HB.out | apply below_alloc | apply pw_below_drewN | apply below_drew1) | exact HB.out))) : w.heap.size ≤ gb126)); clear HB; have HB := n0_; have BK126 := n1_; have GW126 := n2_; have GE126 := n3_; clear n0_ n1_ n2_ n3_; clear hb hbox hg) | ((with_reducible refine gate_dst (N := 3) rfl ?_); refine box_event ?hg (N := 3) ?hd (cs := #[.int .u64 a1_0]) (t := 26) ?hr ?_; (case hd => rfl); (case hg => rfl); (case hr => first | (go_simp; done) | (go_simp; rfl)); intro gb127 hg w4 hbox hb; have n0_ := Aside0.mk (blk_below (g := gb126) (o := .cells #[.int .u64 a0_0] 26 (0, 0)) (by (with_reducible repeat (first | refine blk_drewN ?_ _ | refine blk_drew ?_ | refine blk_alloc ?_ _)); exact BK126.out) hb); have n1_ := Aside0.mk (below_step (by repeat (first | (with_reducible first | exact HB.out | apply below_alloc | apply pw_below_drewN | apply below_drew1 | refine below_set ?_ GE126.out) | exact HB.out)) hb); have n2_ := Aside0.mk (hbox); have n3_ := Aside0.mk ((by rw [hg]; exact (below_size (by repeat (first | (with_reducible first | exact HB.out | apply below_alloc | apply pw_below_drewN | apply below_drew1 | refine below_set ?_ GE126.out) | exact HB.out))) : w.heap.size ≤ gb127)); have n4_ := Aside0.mk ((by rw [hg]; exact (below_size (by repeat (first | (with_reducible first | exact HB.out | apply below_alloc | apply pw_below_drewN | apply below_drew1 | refine below_set ?_ GE126.out) | exact HB.out))) : w.heap.size ≤ gb127)); have n5_ := Aside0.mk ((by rw [hg]; exact Nat.ne_of_lt (blk_lt (g := gb126) (o := .cells #[.int .u64 a0_0] 26 (0, 0)) (by (with_reducible repeat (first | refine blk_drewN ?_ _ | refine blk_drew ?_ | refine blk_alloc ?_ _)); exact BK126.out)) : gb126 ≠ gb127)); have n6_ := Aside0.mk ((by rw [hg]; exact Nat.ne_of_gt (blk_lt (g := gb126) (o := .cells #[.int .u64 a0_0] 26 (0, 0)) (by (with_reducible repeat (first | refine blk_drewN ?_ _ | refine blk_drew ?_ | refine blk_alloc ?_ _)); exact BK126.out)) : gb127 ≠ gb126)); clear BK126; clear HB; have BK126 := n0_; have HB := n1_; have BK127 := n2_; have GW127 := n3_; have GE127 := n4_; have NB126_127 := n5_; have NB127_126 := n6_; clear n0_ n1_ n2_ n3_ n4_ n5_ n6_; clear hb hbox hg; have hnb5 := NB126_127.out; have hnc5 := NB127_126.out; have hcz6_0 : w4.cell? ⟨gb126, 0, none⟩ = some (.int .u64 a0_0) := (blk_cell BK126.out 0).trans rfl; have hfz6_0 := blk_frozen BK126.out 0; have hcz7_0 : w4.cell? ⟨gb127, 0, none⟩ = some (.int .u64 a1_0) := (blk_cell BK127.out 0).trans rfl; have hfz7_0 := blk_frozen BK127.out 0))
  go_ret
  exact ⟨by first | rfl | (simp [errW_none, errW_some] <;> rfl) | (simp [*, errW_none, errW_some] <;> rfl), by repeat (first | (with_reducible first | exact HB.out | apply below_alloc | apply pw_below_drewN | apply below_drew1 | refine below_set ?_ GE126.out | refine below_set ?_ GE127.out) | exact HB.out)⟩

/-! ### bits_Set_uint64_Word: function 21 -/
def bits_Set_uint64_Word.f (a0_0 : Int) : Option (Int) := some a0_0
set_option maxHeartbeats 8000000 in
set_option maxRecDepth 100000 in
theorem bits_Set_uint64_Word.calls (a0_0 : Int) (r : Int) (w : World) (h : bits_Set_uint64_Word.f a0_0 = some r) :
    Calls Tryd.prog 21 #[.agg #[.int .u64 a0_0]] w fun e w' => e = .returned (.int .u64 r) ∧ Below w.heap.size w w' := by
  have hu26 := Tryd.underlying26
  have HB := Aside0.mk (Below.refl w.heap.size w)
  have H : (some a0_0) = some r := h
  clear h
  obtain rfl := Option.some.inj H
  go_enter Tryd.func21, Tryd.ntmps21
  go_wp2_with (first | ((with_reducible refine gate_dst (N := 1) rfl ?_); refine box_event ?hg (N := 1) ?hd (cs := #[.int .u64 a0_0]) (t := 26) ?hr ?_; (case hd => rfl); (case hg => rfl); (case hr => first | (go_simp; done) | (go_simp; rfl)); intro gb128 hg w2 hbox hb; have n0_ := Aside0.mk (below_step (by repeat (first | (with_reducible first | exact HB.out | apply below_alloc | apply pw_below_drewN | apply below_drew1) | exact HB.out)) hb); have n1_ := Aside0.mk (hbox); have n2_ := Aside0.mk ((by rw [hg]; exact (below_size (by repeat (first | (with_reducible first | exact HB.out | apply below_alloc | apply pw_below_drewN | apply below_drew1) | exact HB.out))) : w.heap.size ≤ gb128)); have n3_ := Aside0.mk ((by rw [hg]; exact (below_size (by repeat (first | (with_reducible first | exact HB.out | apply below_alloc | apply pw_below_drewN | apply below_drew1) | exact HB.out))) : w.heap.size ≤ gb128)); clear HB; have HB := n0_; have BK128 := n1_; have GW128 := n2_; have GE128 := n3_; clear n0_ n1_ n2_ n3_; clear hb hbox hg; have hcz3_0 : w2.cell? ⟨gb128, 0, none⟩ = some (.int .u64 a0_0) := (blk_cell BK128.out 0).trans rfl; have hfz3_0 := blk_frozen BK128.out 0))
  go_ret
  exact ⟨by first | rfl | (simp [errW_none, errW_some] <;> rfl) | (simp [*, errW_none, errW_some] <;> rfl), by repeat (first | (with_reducible first | exact HB.out | apply below_alloc | apply pw_below_drewN | apply below_drew1 | refine below_set ?_ GE128.out) | exact HB.out)⟩

/-! ### bits_Set_uint64_Len: function 22 -/
def bits_Set_uint64_Len.f (a0_0 : Int) : Option (Int) := (bits_OnesCount64.f a0_0).bind fun t130 => (some t130)
set_option maxHeartbeats 8000000 in
set_option maxRecDepth 100000 in
theorem bits_Set_uint64_Len.calls (a0_0 : Int) (r : Int) (w : World) (h : bits_Set_uint64_Len.f a0_0 = some r) :
    Calls Tryd.prog 22 #[.agg #[.int .u64 a0_0]] w fun e w' => e = .returned (.int .i64 r) ∧ Below w.heap.size w w' := by
  have hu26 := Tryd.underlying26
  have HB := Aside0.mk (Below.refl w.heap.size w)
  have H : ((bits_OnesCount64.f a0_0).bind fun t130 => (some t130)) = some r := h
  clear h
  replace H := Option.bind_eq_some_iff.mp H
  obtain ⟨t130, A20, H⟩ := H
  replace H : (some t130) = some r := H
  have A2 := Aside0.mk A20
  clear A20
  obtain rfl := Option.some.inj H
  go_enter Tryd.func22, Tryd.ntmps22
  go_wp2_with (first | ((with_reducible refine gate_dst (N := 1) rfl ?_); refine box_event ?hg (N := 1) ?hd (cs := #[.int .u64 a0_0]) (t := 26) ?hr ?_; (case hd => rfl); (case hg => rfl); (case hr => first | (go_simp; done) | (go_simp; rfl)); intro gb129 hg w3 hbox hb; have n0_ := Aside0.mk (below_step (by repeat (first | (with_reducible first | exact HB.out | apply below_alloc | apply pw_below_drewN | apply below_drew1) | exact HB.out)) hb); have n1_ := Aside0.mk (hbox); have n2_ := Aside0.mk ((by rw [hg]; exact (below_size (by repeat (first | (with_reducible first | exact HB.out | apply below_alloc | apply pw_below_drewN | apply below_drew1) | exact HB.out))) : w.heap.size ≤ gb129)); have n3_ := Aside0.mk ((by rw [hg]; exact (below_size (by repeat (first | (with_reducible first | exact HB.out | apply below_alloc | apply pw_below_drewN | apply below_drew1) | exact HB.out))) : w.heap.size ≤ gb129)); clear HB; have HB := n0_; have BK129 := n1_; have GW129 := n2_; have GE129 := n3_; clear n0_ n1_ n2_ n3_; clear hb hbox hg; have hcz4_0 : w3.cell? ⟨gb129, 0, none⟩ = some (.int .u64 a0_0) := (blk_cell BK129.out 0).trans rfl; have hfz4_0 := blk_frozen BK129.out 0) | ((with_reducible refine gate_callee (f := 61) rfl ?_); refine goesL_ (some 5) rfl rfl Tryd.func61 (by kernel_rfl) rfl #[.int .u64 a0_0] rfl (by (try simp only [List.map_toArray, List.map_cons, List.map_nil]); first | done | rfl | (simp only [List.length_drop, List.length_take]; rfl)) ?_; (with_reducible refine (bits_OnesCount64.calls a0_0 t130 _ A2.out).mono ?_); rintro e w' ⟨rfl, ⟨nd, rfl⟩⟩; refine ⟨_, rfl, ?_⟩))
  go_ret
  exact ⟨by first | rfl | (simp [errW_none, errW_some] <;> rfl) | (simp [*, errW_none, errW_some] <;> rfl), by repeat (first | (with_reducible first | exact HB.out | apply below_alloc | apply pw_below_drewN | apply below_drew1 | refine below_set ?_ GE129.out) | exact HB.out)⟩
section
open Go Go.Lib Go.Proofs.YtfgmapnanaahaaaDoorW.BitsM Go.Proofs.YtfgmapnanaahaaaDoorW.PrintMore
theorem len64_eq (a : Nat) (h : a < 18446744073709551616) : bits_Set_uint64_Len.f (a : Int) = some (((pl a 0).length : Nat) : Int) := by
  unfold bits_Set_uint64_Len.f
  rw [ones_eq a (by omega)]; rfl
end


end Go.Proofs.YtfgmapnanaahaaaDoor.PBsu
