/- A text written by my program wip/gen/p2.py out of the translation and of my foreign texts; not trusted: Lean checks it. -/
import Derived.Test.YtfgmapnanaahaaaDoorPBdnx0
import Derived.Test.YtfgmapnanaahaaaDoorPBdnx1
namespace Go.Proofs.YtfgmapnanaahaaaDoor.PBdn
open Go.RowKit Go.Proofs.YtfgmapnanaahaaaDoorW.PrintWords Go.Proofs.YtfgmapnanaahaaaDoorW.PrintLast Go.Proofs.YtfgmapnanaahaaaDoorW.PrintMore
attribute [local go_sem] max2_int min2_int max_two min_two max_three min_three max_four min_four   -- for this text's walks alone
set_option linter.unusedVariables false
set_option linter.unusedSimpArgs false

/-! ### bits_Set_uint8_All_1: function 100 -/
section
open Go Go.Lib Go.Proofs.YtfgmapnanaahaaaDoorW.Rng Go.Proofs.YtfgmapnanaahaaaDoorW.BitsM Go.Proofs.YtfgmapnanaahaaaDoorW.Tab
attribute [local go_sem] Oper.semAt_some
theorem left64_lt8 (a x : Nat) (hx : x < 64) : left64 (.int .i64 (nx a (x + 1))) < left64 (.int .i64 x) := by
  unfold left64 RowKit.intOf
  rcases nx_cases a (x + 1) with h | ⟨y, h, h1, h2, _⟩
  · rw [h]
    simp only []
    rw [if_pos (by omega), if_neg (by omega)]
    omega
  · rw [h]
    simp only []
    rw [if_neg (by omega), if_neg (by omega)]
    omega
set_option maxRecDepth 100000 in
set_option maxHeartbeats 2000000 in
/-- The iterator tells the word's numbers, rising. -/
theorem all8_told (a : Nat) (ha : a < 256) (B : Nat) (w : World) (hB : w.heap[B]? = some (.cells #[.int .u8 a] 58 (0, 0))) (hT : TabW w) :
    YieldsL Tryd.prog 100 #[.pointer (some ⟨B, 0, none⟩)] (fun (x : Nat) vs _ => vs = #[.int .i64 x]) (KeptAt TabW B) (pl a 0) w := by
  intro l J Jx W hW hJ hJx hY h0
  have hBW := (hW.block B (blk_lt hB)).trans hB
  have hTW := Aside0.mk (tab_below hT hW)
  clear hW hT hB
  refine callsIn_of_wp Tryd.func100 rfl trivial ?_ rfl
  simp only [Tryd.ntmps100, List.size_toArray, List.length_cons, List.length_nil, Nat.reduceAdd, Nat.reduceSub, Array.replicate_succ, Array.replicate_zero, List.push_toArray, List.append_toArray, List.nil_append, List.cons_append]
  have hc : W.cell? ⟨B, 0, none⟩ = some (.int .u8 a) := (blk_cell hBW 0).trans rfl
  have NX := fun (i : Int) (w : World) (ht : Aside0 (TabW w)) => bits_Set_uint8_Next.calls 1 a i _ w (next8_eq a ha i 0) ht
  have HNX := Aside0.mk NX
  clear NX
  have HBW := Aside0.mk hBW
  clear hBW
  gi_wp2_with (refine ⟨trivial, ?_⟩; gi_at_call 101; refine (callsIn_wide.2 (HNX.out 0 _ hTW)).mono ?_; rintro e W2 ⟨rfl, hb2⟩)
  have hB2 := (hb2.block B (blk_lt HBW.out)).trans HBW.out
  have hT2 := tab_below hTW.out hb2
  have hJ2 := hJ.below hb2 h0
  clear hc HBW hTW h0 hb2
  gi_loopw [3] (fun v wr => ∃ (i : Nat) (pre : List Nat), pl a 0 = pre ++ pl a i ∧ v = .int .i64 (nx a i) ∧ J pre wr ∧ Aside0 (wr.heap[B]? = some (.cells #[.int .u8 a] 58 (0, 0))) ∧ Aside0 (TabW wr)) (fun v _ => left64 v)
  case atStart => exact ⟨0, [], rfl, rfl, hJ2, ⟨hB2⟩, ⟨hT2⟩⟩
  case round =>
    obtain ⟨i, pre, hp, rfl, hJp, hb, ht⟩ := hrel
    clear hB2 hT2 hJ2
    cases hpl : pl a i with
    | nil =>
      have hn : nx a i = -1 := by unfold nx; rw [hpl]
      rw [hn]
      gi_wp2
      go_end0
      rw [hpl, List.append_nil] at hp
      exact ⟨⟨_, rfl⟩, .inl (by rw [hp]; exact hJp)⟩
    | cons x r =>
      obtain ⟨x1, x2, x3, x4, x5⟩ := pl_cons hpl
      have hn : nx a i = (x : Int) := by unfold nx; rw [hpl]
      rw [hn]
      rw [hpl] at hp
      have hpre : pre ++ [x] <+: pl a 0 := ⟨r, by rw [hp]; simp⟩
      obtain ⟨fn, tmps, assign, body, hy, hR⟩ := hY pre x #[.int .i64 x] wr hJp hpre rfl
      have HP := Aside0.mk hp
      have HX4 := Aside0.mk x4
      have HL : Aside0 (left64 (.int .i64 (nx a (x + 1))) < left64 (.int .i64 x)) := ⟨left64_lt8 a x x2⟩
      clear hp hn hpl x5 x4 x3
      gi_wp2
      refine hR.mono ?_
      rintro e W3 (⟨rfl, hJ3, hk3⟩ | ⟨rfl, hJx3⟩)
      · have hB3 := hk3.1.trans hb.out
        have hT3 := Aside0.mk (hk3.2.1 ht.out)
        have hc3 : W3.cell? ⟨B, 0, none⟩ = some (.int .u8 a) := (blk_cell hB3 0).trans rfl
        have HB3 := Aside0.mk hB3
        clear hk3 hB3 hb ht hy
        gi_wp2_with (refine ⟨trivial, ?_⟩; gi_at_call 101; refine (callsIn_wide.2 (HNX.out ((x : Int) + 1) _ hT3)).mono ?_; rintro e W4 ⟨rfl, hb4⟩)
        have hB4 := (hb4.block B (blk_lt HB3.out)).trans HB3.out
        have hT4 := tab_below hT3.out hb4
        have hJ4 := hJ.below hb4 hJ3
        go_roundw
        case rel => exact ⟨x + 1, pre ++ [x], by rw [HP.out, HX4.out]; simp, rfl, hJ4, ⟨hB4⟩, ⟨hT4⟩⟩
        case measure => exact HL.out
      · gi_wp2
        refine bodyPost_ret (results_none rfl _ _ _) rfl ?_
        exact ⟨⟨_, rfl⟩, .inr ⟨pre ++ [x], hpre, hJx3⟩⟩
end


/-! ### bits_Set_uint8_All: function 82 -/
section
open Go
set_option maxHeartbeats 1000000 in
theorem all8_made (a : Int) (w : World) : Calls Tryd.prog 82 #[.agg #[.int .u8 a]] w fun e w' => e = .returned (.func (.func 100) #[] #[.pointer (some ⟨w.heap.size, 0, none⟩)]) ∧ w' = w.alloc (.cells #[.int .u8 a] 58) := by
  go_enter Tryd.func82, Tryd.ntmps82
  go_wp2
  go_ret
  exact ⟨rfl, rfl⟩
end


/-! ### bits_Set_uint8_Text: function 53 -/
section
open Go Go.Lib Go.Proofs.YtfgmapnanaahaaaDoorW.Rng Go.Proofs.YtfgmapnanaahaaaDoorW.BitsM Go.Proofs.YtfgmapnanaahaaaDoorW.Tab
attribute [local go_sem] Oper.semAt_some
theorem text8_info : (Tryd.prog.info? 9).map (fun i => (i.zero, i.size, i.bytes)) = some (some (.string ⟨#[]⟩), 1, 16) := by kernel_rfl
set_option maxRecDepth 100000 in
set_option maxHeartbeats 4000000 in
theorem bits_Set_uint8_Text.walk (a : Nat) (ha : a < 256) (w : World) (hT : TabW w) :
    Calls Tryd.prog 53 #[.agg #[.int .u8 a]] w fun e W' => e = .returned (.string (textF a)) ∧ Below w.heap.size w W' := by
  obtain ⟨i0, hi, hz0, hz1, hz2⟩ := info_parts text8_info
  have hHI := Aside0.mk (And.intro hi (And.intro hz0 (And.intro hz1 hz2)))
  have hTW := Aside0.mk hT
  clear hi hz0 hz1 hz2 hT
  refine calls_marks Tryd.func53 rfl ?_
  simp only [Tryd.ntmps53, List.size_toArray, List.length_cons, List.length_nil, Nat.reduceAdd, Nat.reduceSub, Array.replicate_succ, Array.replicate_zero, List.push_toArray, List.append_toArray, List.nil_append, List.cons_append]
  go_wp2_with (go_at_call 82; refine (all8_made a _).mono ?_; rintro e w' ⟨rfl, rfl⟩)
  have bL := (Boxed.new (w.alloc (.cells #[.int .u8 a] 58)) 95 (.slice none 0 0)).alloc (.cells #[.int .u8 a] 58)
  have bS := Boxed.new ((w.alloc (.cells #[.int .u8 a] 58)).alloc (.cells #[.slice none 0 0] 95)) 58 (.int .u8 a)
  rw [World.size_alloc, World.size_alloc] at bS
  rw [World.size_alloc] at bL
  have hB0 : Below w.heap.size w (((w.alloc (.cells #[.int .u8 a] 58)).alloc (.cells #[.slice none 0 0] 95)).alloc (.cells #[.int .u8 a] 58)) := (((Below.refl _ w).alloc (Nat.le_refl _) _).alloc (by simp) _).alloc (by simp; omega) _
  have hs0 : (((w.alloc (.cells #[.int .u8 a] 58)).alloc (.cells #[.slice none 0 0] 95)).alloc (.cells #[.int .u8 a] 58)).heap.size = w.heap.size + 3 := by simp
  generalize ((w.alloc (.cells #[.int .u8 a] 58)).alloc (.cells #[.slice none 0 0] 95)).alloc (.cells #[.int .u8 a] 58) = W0 at *
  have hg := tab_lt hTW.out
  refine wp_range (gf := 100) (lb := #[.pointer (some ⟨w.heap.size + 1 + 1, 0, none⟩)]) rfl (enters_of Tryd.func100 (by kernel_rfl) rfl)
    (all8_told a ha (w.heap.size + 1 + 1) W0 bS (tab_below hTW.out hB0)) (fun h k => h.trans k)
    (fun W l o o' hl h hc _ => KeptAt.put (tab_put hc) (by omega) h) (Below.refl _ _) (fun x vs W h => by rw [h]; rfl)
    (fun (pre : List Nat) W => (∃ v, Boxed W (w.heap.size + 1) 95 v ∧ W.ownsRow w.heap.size 9 1 v pre.length (pre.map (fun x : Nat => Value.string (dstr x))) ∧ True) ∧ (Boxed W (w.heap.size + 1 + 1) 58 (.int .u8 a) ∧ Below w.heap.size w W))
    (fun _ _ _ => False)
    (OwnFrom.and (Own.from (holdsRow_own w.heap.size (w.heap.size + 1) 95 9 1 (fun pre : List Nat => pre.length) (fun pre : List Nat => pre.map (fun x : Nat => Value.string (dstr x))) (fun _ _ => True)) _) (OwnFrom.and (Own.from (boxed_own _ _ (fun _ => _)) _) (ownFrom_below (Nat.le_refl _) (by omega))))
    (fun _ _ _ _ _ hs _ _ => hs)
    ⟨⟨_, bL, World.ownsRow_nil _ _ _ _, trivial⟩, bS, hB0⟩
    (fun x a' _ => a' = { tmps := #[.agg #[.int .u8 a], .pointer (some ⟨w.heap.size, 0, none⟩), .string ⟨#[]⟩, .pointer (some ⟨w.heap.size + 1, 0, none⟩), .int .i64 (x : Nat), .agg #[.int .u8 a], .func (.func 100) #[] #[.pointer (some ⟨w.heap.size + 1 + 1, 0, none⟩)], .int .i64 (x : Nat), undef, undef, undef, undef, undef, undef, undef, undef, undef], defers := [] })
    (fun _ _ _ _ _ _ hs _ _ => hs) ?assign ?body ?done ?stop
  case assign =>
    rintro l pre x vs W K hI rfl hK
    gi_wp2
    exact hK _ _ (KeepsFrom.refl _ _) (KeptAt.refl _ _ _) hI rfl
  case body =>
    rintro l pre x a' W hl _ ⟨⟨v, hv, hrow, _⟩, hS, hB⟩ rfl hpre
    have hc := hv.cell
    have hlen := pre_len hpre
    obtain ⟨hi, hz0, hz1, hz2⟩ := hHI.out
    have HB := Aside0.mk hB
    have HBS := Aside0.mk hS
    have hx64 : x < 100 := by
      have : x ∈ pl a 0 := hpre.subset (by simp)
      have := mem_pl.1 this
      omega
    clear hB hS bL bS hB0 hpre
    have hcd : W.drew.cell? ⟨w.heap.size + 1, 0, none⟩ = some v := hc
    gi_wp2
    refine start_in (n := 6) (S := fun w' => w'.cell? ⟨w.heap.size + 1, 0, none⟩ = some v) (ds := [5]) #[false, false, false, false, false, false] (by kernel_rfl) (fun _ _ h => h) (by kernel_rfl) rfl rfl hcd (fun hHeld => ?_)
    refine take_ (i := 0) (N := (some 8)) (v := ?_) (a' := ?_) #[true, false, false, false, false, false] rfl rfl (by kernel_rfl) (fun _ _ _ h => h) (Or.inl ⟨by rfl, ?_⟩) hHeld ?_ ?_
    rotate_left
    · intro w' s0
      go_simp
      with_reducible rfl
    rotate_left
    · simp only [Act.put, List.setIfInBounds_toArray, List.set_cons_zero, List.set_cons_succ, i64_w, i32_w]
      rfl
    refine pure_ (i := 1) (N := (some 9)) (v := ?_) (a' := ?_) #[true, true, false, false, false, false] rfl rfl (by kernel_rfl) (fun _ _ _ h => h) (Or.inl ⟨by rfl, ?_⟩) ?_ ?_
    rotate_left
    · intro w'
      go_simp
      with_reducible rfl
    rotate_left
    · simp only [Act.put, List.setIfInBounds_toArray, List.set_cons_zero, List.set_cons_succ, i64_w, i32_w]
      rfl
    refine one_ (i := 2) (N := (some 10)) #[true, true, true, false, false, false] rfl rfl (by kernel_rfl) (by decide) (fun K hK => ?_)
    refine goes_ Tryd.func77 (by kernel_rfl) rfl #[.int .i64 (x : Nat)] (by rfl) rfl rfl (by (try simp only [List.map_toArray, List.map_cons, List.map_nil]); first | done | rfl) ?_
    (with_reducible refine (Sh.strconv_Itoa_small x hx64 _).mono ?_)
    rintro e w2 ⟨rfl, rfl⟩
    refine ⟨_, rfl, ?_⟩
    refine hK.out _ _ (hcd) (fun hHeld => ?_)
    clear hK K
    refine norm_ (a' := ?_) ?_ ?_
    rotate_left
    · show Act.put _ (some 10) _ = _
      simp only [Act.put, List.setIfInBounds_toArray, List.set_cons_zero, List.set_cons_succ, i64_w, i32_w]
      rfl
    refine one_ (i := 3) (N := (some 11)) #[true, true, true, true, false, false] rfl rfl (by kernel_rfl) (by decide) (fun K hK => ?_)
    refine event_step (v := .slice (some ⟨W.heap.size, 0, none⟩) 1 1) (w1 := (W.drew).alloc (.cells #[.string (dstr x)] 9)) (by rfl) ?_ ?_
    · go_simp
      rfl
    have hca : ((W.drew).alloc (.cells #[.string (dstr x)] 9)).cell? ⟨w.heap.size + 1, 0, none⟩ = some v := (hv.alloc _).cell
    refine hK.out _ _ (hca) (fun hHeld => ?_)
    clear hK K
    refine norm_ (a' := ?_) ?_ ?_
    rotate_left
    · show Act.put _ (some 11) _ = _
      simp only [Act.put, List.setIfInBounds_toArray, List.set_cons_zero, List.set_cons_succ, i64_w, i32_w]
      rfl
    refine one_ (i := 4) (N := (some 12)) #[true, true, true, true, true, false] rfl rfl (by kernel_rfl) (by decide) (fun K hK => ?_)
    obtain ⟨v', w1, hrun, hown', hgrow, _⟩ := run_append_own (P := Tryd.prog) (w := (W.drew).alloc (.cells #[.string (dstr x)] 9)) w.heap.size 95 95 9 i0 (.string ⟨#[]⟩) 1 16 Tryd.underlying95 hi hz0 hz1 hz2 rfl (by decide) v pre.length _ (show (W.drew.alloc (.cells #[.string (dstr x)] 9)).ownsRow w.heap.size 9 1 v pre.length (pre.map (fun x : Nat => Value.string (dstr x))) from World.ownsRow.alloc (w := W.drew) (show W.drew.ownsRow w.heap.size 9 1 v pre.length (pre.map (fun x : Nat => Value.string (dstr x))) from hrow) _) ⟨W.heap.size, 0, none⟩ 1 1 [.string (dstr x)] rfl (cell_one_new _ _ _) (by simp [Value.oneCell']) (by unfold maxLen; omega) (by omega) (by have := HB.out.size; simp; omega)
    obtain ⟨g', cap', rfl⟩ := ownsRow_succ hown'
    have hD : Boxed W.drew (w.heap.size + 1) 95 v := hv
    have hDS : Boxed W.drew (w.heap.size + 1 + 1) 58 (.int .u8 a) := HBS.out
    have hrowD : W.drew.ownsRow w.heap.size 9 1 v pre.length (pre.map (fun x : Nat => Value.string (dstr x))) := hrow
    have HS1 := Aside0.mk ((hDS.alloc _).kept hgrow (hDS.not_row (by decide) hrowD))
    obtain ⟨hv1, hv2, hr2, hk2, hb2⟩ := hD.appended (by decide) hrowD HB.out.size (by omega) hown' hgrow
    refine event_step (v := .slice (some ⟨g', 0, none⟩) (pre.length + 1) cap') (w1 := w1) (by rfl) ?_ ?_
    · unfold execOp; simp [resolve, invoke, builtin, Act.eval, hrun, Result.andThen]
    have hc1 := hv1.cell; have hf1 := hv1.frozen; have HV2 := Aside0.mk hv2; have HR2 := Aside0.mk hr2; have HK2 := Aside0.mk ((KeepsOthers.drew W).trans hk2); have HB2 := Aside0.mk ((below_drew (Below.refl w.heap.size W)).trans hb2); clear hv2 hr2 hk2 hb2 hv1 hD hDS hrowD hrun hown' hgrow hc hcd hca
    refine hK.out _ _ hc1 (fun hHeld => ?_)
    clear hK K
    refine norm_ (a' := ?_) ?_ ?_
    rotate_left
    · show Act.put _ (some 12) _ = _
      simp only [Act.put, List.setIfInBounds_toArray, List.set_cons_zero, List.set_cons_succ, i64_w, i32_w]
      rfl
    refine last_ (i := 5) (N := none) #[true, true, true, true, true, true] rfl rfl (by kernel_rfl) (by decide) (fun K hK => ?_)
    refine skip_ (w1 := w1.setCell ⟨w.heap.size + 1, 0, none⟩ (.slice (some ⟨g', 0, none⟩) (pre.length + 1) cap')) (by rfl) rfl ?_ ?_
    · go_simp
    refine hK.out _ _ ?_
    clear hK K
    refine done_ (by kernel_rfl) ?_
    have hS2 := HS1.out.other (B' := w.heap.size + 1) (by omega) (.slice (some ⟨g', 0, none⟩) (pre.length + 1) cap')
    refine ⟨HK2.out.from _, ⟨hS2.trans (show _ = _ from HBS.out).symm, fun ht => tab_low hg ht HB2.out, HK2.out.size⟩, ⟨_, HV2.out, by rw [List.length_append, List.map_append]; exact HR2.out, trivial⟩, hS2, HB.out.trans HB2.out⟩
  case done =>
    rintro D W hD ⟨⟨v, hv, hrow, _⟩, hS, hB⟩ hK
    have hc := hv.cell
    have hlt : ∀ x ∈ pl a 0, x < 64 := fun x hx => (mem_pl.1 hx).2.1
    have hjl := join_len (pl a 0) hlt
    have hpl := pl_len a 0
    have HK := Aside0.mk hK
    have HB := Aside0.mk hB
    have HLT := Aside0.mk hlt
    clear hK hB hS bL bS hB0 hlt
    have JN : Calls Tryd.prog 78 #[v, .string ⟨#[44]⟩] W fun e w' => e = .returned (.string ⟨(Lib.join ((pl a 0).map decDigits) [44]).toArray⟩) ∧ Below W.heap.size W w' := by
      obtain ⟨hn, hz⟩ := hrow
      rcases hz with ⟨rfl, h0⟩ | ⟨g, cap, cur, rfl, hb, hgb, hc1, hc2, hc3, hc4⟩
      · have hp0 : pl a 0 = [] := List.eq_nil_of_length_eq_zero h0
        rw [hp0]
        exact (Sh.strings_Join_none none 0 ⟨#[44]⟩ W).mono fun e w' ⟨he, hw⟩ => ⟨he, by rw [hw]; exact Below.refl _ _⟩
      · rw [Nat.mul_one] at hc3 hc4
        have hml : ((pl a 0).map dstr).length = (pl a 0).length := List.length_map _
        have hmm : ((pl a 0).map dstr).map (·.data.toList) = (pl a 0).map decDigits := by rw [List.map_map]; rfl
        have J := Sh.strings_Join g 0 cap ((pl a 0).map dstr) ⟨#[44]⟩ W (fun j x hj => by
          have hjl : j < (pl a 0).length := by
            rcases Nat.lt_or_ge j (pl a 0).length with h | h
            · exact h
            · rw [List.getElem?_eq_none (by omega)] at hj; cases hj
          rw [Nat.zero_add]
          have h1 : (cur.toList.take (pl a 0).length)[j]? = some (.string x) := by
            rw [hc4, List.getElem?_map]
            rw [List.getElem?_map] at hj
            cases hp : (pl a 0)[j]? with
            | none => rw [hp] at hj; cases hj
            | some y => rw [hp] at hj; injection hj with hj; rw [← hj]; rfl
          rw [List.getElem?_take_of_lt hjl] at h1
          have h2 : cur[j]? = some (.string x) := by rw [← Array.getElem?_toList]; exact h1
          exact (cell_of_row W g j cur _ _ hgb).trans h2) (blk_lt hgb) (by omega) (by omega) (by rw [hmm]; show (Lib.join ((pl a 0).map decDigits) [44]).length ≤ _; omega)
        rw [hml, hmm] at J
        exact J
    have HJN := Aside0.mk JN
    clear JN hrow
    go_wp2_with (go_at_call 78; (with_reducible refine HJN.out.mono ?_); rintro e w2 ⟨rfl, hb2⟩; have hK2 := (hb2.block D (Array.getElem?_eq_some_iff.1 HK.out).1).trans HK.out; have HB2 := Aside0.mk hb2; clear hb2)
    refine ⟨by simp, .inl ⟨_, _, rfl, run_takeDeferred hK2, ?_⟩⟩
    refine ⟨_, results_tmp rfl _ _ _, ?_, (HB.out.trans (HB2.out.mono HB.out.size)).trans (belowK_b (w := w) (Nat.le_refl _) w2 D _ _ (by omega) hK2 rfl rfl)⟩
    show Ending.returned (.string _) = _
    congr 2
  case stop =>
    rintro D c pre W _ _ h _
    exact h.elim
def bits_Set_uint8_Text.f (a0 : Int) : Option ByteArray := if 0 ≤ a0 ∧ a0 < 256 then some (textF a0.toNat) else none
theorem bits_Set_uint8_Text.calls (a0 : Int) (r : ByteArray) (w : World) (h : bits_Set_uint8_Text.f a0 = some r) (HTAB_ : Aside0 (TabW w)) :
    Calls Tryd.prog 53 #[.agg #[.int .u8 a0]] w fun e w' => e = .returned (.string r) ∧ Below w.heap.size w w' := by
  unfold bits_Set_uint8_Text.f at h
  split at h
  next hb =>
    obtain ⟨x, rfl⟩ := Int.eq_ofNat_of_zero_le hb.1
    injection h with h
    subst h
    exact bits_Set_uint8_Text.walk x (by omega) w HTAB_.out
  next => cases h
end


/-! ### provostlaw01_wakes: function 14 -/
def provostlaw01_wakes.f  : Option (Bool) := (bits_Set_uint8_Of.f 0 150).bind fun t122 => ((bits_Set_uint8_Len.f t122).bind fun t124 => (if t124 = 4 then ((bits_Set_uint8_Has.f t122 7).bind fun t125 => (if t125 = true then ((bits_Set_uint8_Text.f t122).bind fun t126 => (if t126.toList = ([123, 49, 44, 50, 44, 52, 44, 55, 125] : List UInt8) then ((bits_Set_uint8_Width.f t122).bind fun t127 => (some (t127 == 8))) else (some false))) else (some false))) else (some false)))
set_option maxHeartbeats 8000000 in
set_option maxRecDepth 100000 in
theorem provostlaw01_wakes.calls  (r : Bool) (w : World) (h : provostlaw01_wakes.f  = some r) (HTAB_ : Aside0 (Go.Proofs.YtfgmapnanaahaaaDoorW.Tab.TabW w)) :
    Calls Tryd.prog 14 #[] w fun e w' => e = .returned (.bool r) ∧ Below w.heap.size w w' := by
  have hu58 := Tryd.underlying58
  have HB := Aside0.mk (Below.refl w.heap.size w)
  have H : ((bits_Set_uint8_Of.f 0 150).bind fun t122 => ((bits_Set_uint8_Len.f t122).bind fun t124 => (if t124 = 4 then ((bits_Set_uint8_Has.f t122 7).bind fun t125 => (if t125 = true then ((bits_Set_uint8_Text.f t122).bind fun t126 => (if t126.toList = ([123, 49, 44, 50, 44, 52, 44, 55, 125] : List UInt8) then ((bits_Set_uint8_Width.f t122).bind fun t127 => (some (t127 == 8))) else (some false))) else (some false))) else (some false)))) = some r := h
  clear h
  replace H := Option.bind_eq_some_iff.mp H
  obtain ⟨t122, A10, H⟩ := H
  replace H : ((bits_Set_uint8_Len.f t122).bind fun t124 => (if t124 = 4 then ((bits_Set_uint8_Has.f t122 7).bind fun t125 => (if t125 = true then ((bits_Set_uint8_Text.f t122).bind fun t126 => (if t126.toList = ([123, 49, 44, 50, 44, 52, 44, 55, 125] : List UInt8) then ((bits_Set_uint8_Width.f t122).bind fun t127 => (some (t127 == 8))) else (some false))) else (some false))) else (some false))) = some r := H
  have A1 := Aside0.mk A10
  clear A10
  replace H := Option.bind_eq_some_iff.mp H
  obtain ⟨t124, A20, H⟩ := H
  replace H : (if t124 = 4 then ((bits_Set_uint8_Has.f t122 7).bind fun t125 => (if t125 = true then ((bits_Set_uint8_Text.f t122).bind fun t126 => (if t126.toList = ([123, 49, 44, 50, 44, 52, 44, 55, 125] : List UInt8) then ((bits_Set_uint8_Width.f t122).bind fun t127 => (some (t127 == 8))) else (some false))) else (some false))) else (some false)) = some r := H
  have A2 := Aside0.mk A20
  clear A20
  by_cases c3 : t124 = 4
  · rw [if_pos c3] at H
    have c3b0 : (t124 == 4) = true := beq_iff_eq.mpr c3
    have c3b1 : (t124 != 4) = false := bne_eq_false_iff_eq.mpr c3
    clear c3
    replace H := Option.bind_eq_some_iff.mp H
    obtain ⟨t125, A40, H⟩ := H
    replace H : (if t125 = true then ((bits_Set_uint8_Text.f t122).bind fun t126 => (if t126.toList = ([123, 49, 44, 50, 44, 52, 44, 55, 125] : List UInt8) then ((bits_Set_uint8_Width.f t122).bind fun t127 => (some (t127 == 8))) else (some false))) else (some false)) = some r := H
    have A4 := Aside0.mk A40
    clear A40
    by_cases c5 : t125 = true
    · subst c5
      have H1 : ((bits_Set_uint8_Text.f t122).bind fun t126 => (if t126.toList = ([123, 49, 44, 50, 44, 52, 44, 55, 125] : List UInt8) then ((bits_Set_uint8_Width.f t122).bind fun t127 => (some (t127 == 8))) else (some false))) = some r := by rw [if_pos rfl] at H; exact H
      clear H
      have H := H1
      clear H1
      replace H := Option.bind_eq_some_iff.mp H
      obtain ⟨t126, A60, H⟩ := H
      replace H : (if t126.toList = ([123, 49, 44, 50, 44, 52, 44, 55, 125] : List UInt8) then ((bits_Set_uint8_Width.f t122).bind fun t127 => (some (t127 == 8))) else (some false)) = some r := H
      have A6 := Aside0.mk A60
      clear A60
      by_cases c7 : t126.toList = ([123, 49, 44, 50, 44, 52, 44, 55, 125] : List UInt8)
      · rw [if_pos c7] at H
        have c7b0 : (t126.toList == ([123, 49, 44, 50, 44, 52, 44, 55, 125] : List UInt8)) = true := beq_iff_eq.mpr c7
        have c7b1 : (t126.toList != ([123, 49, 44, 50, 44, 52, 44, 55, 125] : List UInt8)) = false := bne_eq_false_iff_eq.mpr c7
        clear c7
        replace H := Option.bind_eq_some_iff.mp H
        obtain ⟨t127, A80, H⟩ := H
        replace H : (some (t127 == 8)) = some r := H
        have A8 := Aside0.mk A80
        clear A80
        obtain rfl := Option.some.inj H
        go_enter Tryd.func14, Tryd.ntmps14
        go_wp2_with (first | ((with_reducible refine gate_dst (N := 1) rfl ?_); refine box_event ?hg (N := 1) ?hd (cs := #[.int .u8 0]) (t := 58) ?hr ?_; (case hd => rfl); (case hg => rfl); (case hr => first | (go_simp; done) | (go_simp; rfl)); intro gb121 hg w9 hbox hb; have n0_ := Aside0.mk (below_step (by repeat (first | (with_reducible first | exact HB.out | apply below_alloc | apply pw_below_drewN | apply below_drew1) | exact HB.out)) hb); have n1_ := Aside0.mk (hbox); have n2_ := Aside0.mk ((by rw [hg]; exact (below_size (by repeat (first | (with_reducible first | exact HB.out | apply below_alloc | apply pw_below_drewN | apply below_drew1) | exact HB.out))) : w.heap.size ≤ gb121)); have n3_ := Aside0.mk ((by rw [hg]; exact (below_size (by repeat (first | (with_reducible first | exact HB.out | apply below_alloc | apply pw_below_drewN | apply below_drew1) | exact HB.out))) : w.heap.size ≤ gb121)); clear HB; have HB := n0_; have BK121 := n1_; have GW121 := n2_; have GE121 := n3_; clear n0_ n1_ n2_ n3_; clear hb hbox hg; have hcz10_0 : w9.cell? ⟨gb121, 0, none⟩ = some (.int .u8 0) := (blk_cell BK121.out 0).trans rfl; have hfz10_0 := blk_frozen BK121.out 0) | ((with_reducible refine gate_callee (f := 32) rfl ?_); refine goesL_ (some 4) rfl rfl Tryd.func32 (by kernel_rfl) rfl #[.agg #[.int .u8 0], .int .u8 150] rfl (by (try simp only [List.map_toArray, List.map_cons, List.map_nil]); first | done | rfl | (simp only [List.length_drop, List.length_take]; rfl)) ?_; (with_reducible refine (bits_Set_uint8_Of.calls 0 150 t122 _ A1.out).mono ?_); rintro e w11 ⟨rfl, hb⟩; refine ⟨_, rfl, ?_⟩; have n0_ := Aside0.mk (blk_below (g := gb121) (o := .cells #[.int .u8 0] 58 (0, 0)) (by (with_reducible repeat (first | refine blk_drewN ?_ _ | refine blk_drew ?_ | refine blk_alloc ?_ _)); exact BK121.out) hb); have n1_ := Aside0.mk (below_step (by repeat (first | (with_reducible first | exact HB.out | apply below_alloc | apply pw_below_drewN | apply below_drew1 | refine below_set ?_ GE121.out) | exact HB.out)) hb); clear BK121; clear HB; have BK121 := n0_; have HB := n1_; clear n0_ n1_; (try clear hb); (try clear hb2); (try clear hk); (try clear hi)) | ((with_reducible refine gate_dst (N := 2) rfl ?_); refine box_event ?hg (N := 2) ?hd (cs := #[.int .u8 0]) (t := 58) ?hr ?_; (case hd => rfl); (case hg => rfl); (case hr => first | (go_simp; done) | (go_simp; rfl)); intro gb123 hg w12 hbox hb; have n0_ := Aside0.mk (blk_below (g := gb121) (o := .cells #[.int .u8 0] 58 (0, 0)) (by (with_reducible repeat (first | refine blk_drewN ?_ _ | refine blk_drew ?_ | refine blk_alloc ?_ _)); exact BK121.out) hb); have n1_ := Aside0.mk (below_step (by repeat (first | (with_reducible first | exact HB.out | apply below_alloc | apply pw_below_drewN | apply below_drew1 | refine below_set ?_ GE121.out) | exact HB.out)) hb); have n2_ := Aside0.mk (hbox); have n3_ := Aside0.mk ((by rw [hg]; exact (below_size (by repeat (first | (with_reducible first | exact HB.out | apply below_alloc | apply pw_below_drewN | apply below_drew1 | refine below_set ?_ GE121.out) | exact HB.out))) : w.heap.size ≤ gb123)); have n4_ := Aside0.mk ((by rw [hg]; exact (below_size (by repeat (first | (with_reducible first | exact HB.out | apply below_alloc | apply pw_below_drewN | apply below_drew1 | refine below_set ?_ GE121.out) | exact HB.out))) : w.heap.size ≤ gb123)); have n5_ := Aside0.mk ((by rw [hg]; exact Nat.ne_of_lt (blk_lt (g := gb121) (o := .cells #[.int .u8 0] 58 (0, 0)) (by (with_reducible repeat (first | refine blk_drewN ?_ _ | refine blk_drew ?_ | refine blk_alloc ?_ _)); exact BK121.out)) : gb121 ≠ gb123)); have n6_ := Aside0.mk ((by rw [hg]; exact Nat.ne_of_gt (blk_lt (g := gb121) (o := .cells #[.int .u8 0] 58 (0, 0)) (by (with_reducible repeat (first | refine blk_drewN ?_ _ | refine blk_drew ?_ | refine blk_alloc ?_ _)); exact BK121.out)) : gb123 ≠ gb121)); clear BK121; clear HB; have BK121 := n0_; have HB := n1_; have BK123 := n2_; have GW123 := n3_; have GE123 := n4_; have NB121_123 := n5_; have NB123_121 := n6_; clear n0_ n1_ n2_ n3_ n4_ n5_ n6_; clear hb hbox hg; have hnb13 := NB123_121.out; have hnc13 := NB121_123.out; have hcz14_0 : w12.cell? ⟨gb123, 0, none⟩ = some (.int .u8 0) := (blk_cell BK123.out 0).trans rfl; have hfz14_0 := blk_frozen BK123.out 0) | ((with_reducible refine gate_callee (f := 51) rfl ?_); refine goesL_ (some 6) rfl rfl Tryd.func51 (by kernel_rfl) rfl #[.agg #[.int .u8 t122]] rfl (by (try simp only [List.map_toArray, List.map_cons, List.map_nil]); first | done | rfl | (simp only [List.length_drop, List.length_take]; rfl)) ?_; (with_reducible refine (bits_Set_uint8_Len.calls t122 t124 _ A2.out).mono ?_); rintro e w15 ⟨rfl, hb⟩; refine ⟨_, rfl, ?_⟩; have n0_ := Aside0.mk (blk_below (g := gb121) (o := .cells #[.int .u8 0] 58 (0, 0)) (by (with_reducible repeat (first | refine blk_drewN ?_ _ | refine blk_drew ?_ | refine blk_alloc ?_ _)); refine blk_far ?_ NB121_123.out _; (with_reducible repeat (first | refine blk_drewN ?_ _ | refine blk_drew ?_ | refine blk_alloc ?_ _)); exact BK121.out) hb); have n1_ := Aside0.mk (blk_below (g := gb123) (o := .cells #[.int .u8 t122] 58 (0, 0)) (by (with_reducible repeat (first | refine blk_drewN ?_ _ | refine blk_drew ?_ | refine blk_alloc ?_ _)); refine blk_put (cs := #[.int .u8 0]) ?_ 0 _ rfl; (with_reducible repeat (first | refine blk_drewN ?_ _ | refine blk_drew ?_ | refine blk_alloc ?_ _)); exact BK123.out) hb); have n2_ := Aside0.mk (below_step (by repeat (first | (with_reducible first | exact HB.out | apply below_alloc | apply pw_below_drewN | apply below_drew1 | refine below_set ?_ GE121.out | refine below_set ?_ GE123.out) | exact HB.out)) hb); clear BK121; clear BK123; clear HB; have BK121 := n0_; have BK123 := n1_; have HB := n2_; clear n0_ n1_ n2_; (try clear hb); (try clear hb2); (try clear hk); (try clear hi); have hcz16_0 : w15.cell? ⟨gb123, 0, none⟩ = some (.int .u8 t122) := (blk_cell BK123.out 0).trans rfl; have hfz16_0 := blk_frozen BK123.out 0) | (go_at_call 52; (with_reducible refine (bits_Set_uint8_Has.calls t122 7 true _ A4.out).mono ?_); rintro e w17 ⟨rfl, hb⟩; have n0_ := Aside0.mk (blk_below (g := gb121) (o := .cells #[.int .u8 0] 58 (0, 0)) (by (with_reducible repeat (first | refine blk_drewN ?_ _ | refine blk_drew ?_ | refine blk_alloc ?_ _)); exact BK121.out) hb); have n1_ := Aside0.mk (blk_below (g := gb123) (o := .cells #[.int .u8 t122] 58 (0, 0)) (by (with_reducible repeat (first | refine blk_drewN ?_ _ | refine blk_drew ?_ | refine blk_alloc ?_ _)); exact BK123.out) hb); have n2_ := Aside0.mk (below_step (by repeat (first | (with_reducible first | exact HB.out | apply below_alloc | apply pw_below_drewN | apply below_drew1 | refine below_set ?_ GE121.out | refine below_set ?_ GE123.out) | exact HB.out)) hb); clear BK121; clear BK123; clear HB; have BK121 := n0_; have BK123 := n1_; have HB := n2_; clear n0_ n1_ n2_; (try clear hb); (try clear hb2); (try clear hk); (try clear hi); have hcz18_0 : w17.cell? ⟨gb123, 0, none⟩ = some (.int .u8 t122) := (blk_cell BK123.out 0).trans rfl; have hfz18_0 := blk_frozen BK123.out 0) | (go_at_call 53; (with_reducible refine (bits_Set_uint8_Text.calls t122 t126 _ A6.out ?tabs_).mono ?_); (case tabs_ => exact ⟨Go.Proofs.YtfgmapnanaahaaaDoorW.Tab.tab_below HTAB_.out (by repeat (first | (with_reducible first | exact HB.out | apply below_alloc | apply pw_below_drewN | apply below_drew1) | exact HB.out | exact Below.refl _ _))⟩); rintro e w19 ⟨rfl, hb⟩; have n0_ := Aside0.mk (blk_below (g := gb121) (o := .cells #[.int .u8 0] 58 (0, 0)) (by (with_reducible repeat (first | refine blk_drewN ?_ _ | refine blk_drew ?_ | refine blk_alloc ?_ _)); exact BK121.out) hb); have n1_ := Aside0.mk (blk_below (g := gb123) (o := .cells #[.int .u8 t122] 58 (0, 0)) (by (with_reducible repeat (first | refine blk_drewN ?_ _ | refine blk_drew ?_ | refine blk_alloc ?_ _)); exact BK123.out) hb); have n2_ := Aside0.mk (below_step (by repeat (first | (with_reducible first | exact HB.out | apply below_alloc | apply pw_below_drewN | apply below_drew1 | refine below_set ?_ GE121.out | refine below_set ?_ GE123.out) | exact HB.out)) hb); clear BK121; clear BK123; clear HB; have BK121 := n0_; have BK123 := n1_; have HB := n2_; clear n0_ n1_ n2_; (try clear hb); (try clear hb2); (try clear hk); (try clear hi); have hcz20_0 : w19.cell? ⟨gb123, 0, none⟩ = some (.int .u8 t122) := (blk_cell BK123.out 0).trans rfl; have hfz20_0 := blk_frozen BK123.out 0) | (go_at_call 54; (with_reducible refine (bits_Set_uint8_Width.calls t122 t127 _ A8.out).mono ?_); rintro e w21 ⟨rfl, hb⟩; have n0_ := Aside0.mk (blk_below (g := gb121) (o := .cells #[.int .u8 0] 58 (0, 0)) (by (with_reducible repeat (first | refine blk_drewN ?_ _ | refine blk_drew ?_ | refine blk_alloc ?_ _)); exact BK121.out) hb); have n1_ := Aside0.mk (blk_below (g := gb123) (o := .cells #[.int .u8 t122] 58 (0, 0)) (by (with_reducible repeat (first | refine blk_drewN ?_ _ | refine blk_drew ?_ | refine blk_alloc ?_ _)); exact BK123.out) hb); have n2_ := Aside0.mk (below_step (by repeat (first | (with_reducible first | exact HB.out | apply below_alloc | apply pw_below_drewN | apply below_drew1 | refine below_set ?_ GE121.out | refine below_set ?_ GE123.out) | exact HB.out)) hb); clear BK121; clear BK123; clear HB; have BK121 := n0_; have BK123 := n1_; have HB := n2_; clear n0_ n1_ n2_; (try clear hb); (try clear hb2); (try clear hk); (try clear hi)))
        go_ret
        exact ⟨by first | rfl | (simp [errW_none, errW_some] <;> rfl) | (simp [*, errW_none, errW_some] <;> rfl), by repeat (first | (with_reducible first | exact HB.out | apply below_alloc | apply pw_below_drewN | apply below_drew1 | refine below_set ?_ GE121.out | refine below_set ?_ GE123.out) | exact HB.out)⟩
      · rw [if_neg c7] at H
        have c7b0 : (t126.toList == ([123, 49, 44, 50, 44, 52, 44, 55, 125] : List UInt8)) = false := beq_eq_false_iff_ne.mpr c7
        have c7b1 : (t126.toList != ([123, 49, 44, 50, 44, 52, 44, 55, 125] : List UInt8)) = true := bne_iff_ne.mpr c7
        obtain rfl := Option.some.inj H
        go_enter Tryd.func14, Tryd.ntmps14
        go_wp2_with (first | ((with_reducible refine gate_dst (N := 1) rfl ?_); refine box_event ?hg (N := 1) ?hd (cs := #[.int .u8 0]) (t := 58) ?hr ?_; (case hd => rfl); (case hg => rfl); (case hr => first | (go_simp; done) | (go_simp; rfl)); intro gb121 hg w22 hbox hb; have n0_ := Aside0.mk (below_step (by repeat (first | (with_reducible first | exact HB.out | apply below_alloc | apply pw_below_drewN | apply below_drew1) | exact HB.out)) hb); have n1_ := Aside0.mk (hbox); have n2_ := Aside0.mk ((by rw [hg]; exact (below_size (by repeat (first | (with_reducible first | exact HB.out | apply below_alloc | apply pw_below_drewN | apply below_drew1) | exact HB.out))) : w.heap.size ≤ gb121)); have n3_ := Aside0.mk ((by rw [hg]; exact (below_size (by repeat (first | (with_reducible first | exact HB.out | apply below_alloc | apply pw_below_drewN | apply below_drew1) | exact HB.out))) : w.heap.size ≤ gb121)); clear HB; have HB := n0_; have BK121 := n1_; have GW121 := n2_; have GE121 := n3_; clear n0_ n1_ n2_ n3_; clear hb hbox hg; have hcz23_0 : w22.cell? ⟨gb121, 0, none⟩ = some (.int .u8 0) := (blk_cell BK121.out 0).trans rfl; have hfz23_0 := blk_frozen BK121.out 0) | ((with_reducible refine gate_callee (f := 32) rfl ?_); refine goesL_ (some 4) rfl rfl Tryd.func32 (by kernel_rfl) rfl #[.agg #[.int .u8 0], .int .u8 150] rfl (by (try simp only [List.map_toArray, List.map_cons, List.map_nil]); first | done | rfl | (simp only [List.length_drop, List.length_take]; rfl)) ?_; (with_reducible refine (bits_Set_uint8_Of.calls 0 150 t122 _ A1.out).mono ?_); rintro e w24 ⟨rfl, hb⟩; refine ⟨_, rfl, ?_⟩; have n0_ := Aside0.mk (blk_below (g := gb121) (o := .cells #[.int .u8 0] 58 (0, 0)) (by (with_reducible repeat (first | refine blk_drewN ?_ _ | refine blk_drew ?_ | refine blk_alloc ?_ _)); exact BK121.out) hb); have n1_ := Aside0.mk (below_step (by repeat (first | (with_reducible first | exact HB.out | apply below_alloc | apply pw_below_drewN | apply below_drew1 | refine below_set ?_ GE121.out) | exact HB.out)) hb); clear BK121; clear HB; have BK121 := n0_; have HB := n1_; clear n0_ n1_; (try clear hb); (try clear hb2); (try clear hk); (try clear hi)) | ((with_reducible refine gate_dst (N := 2) rfl ?_); refine box_event ?hg (N := 2) ?hd (cs := #[.int .u8 0]) (t := 58) ?hr ?_; (case hd => rfl); (case hg => rfl); (case hr => first | (go_simp; done) | (go_simp; rfl)); intro gb123 hg w25 hbox hb; have n0_ := Aside0.mk (blk_below (g := gb121) (o := .cells #[.int .u8 0] 58 (0, 0)) (by (with_reducible repeat (first | refine blk_drewN ?_ _ | refine blk_drew ?_ | refine blk_alloc ?_ _)); exact BK121.out) hb); have n1_ := Aside0.mk (below_step (by repeat (first | (with_reducible first | exact HB.out | apply below_alloc | apply pw_below_drewN | apply below_drew1 | refine below_set ?_ GE121.out) | exact HB.out)) hb); have n2_ := Aside0.mk (hbox); have n3_ := Aside0.mk ((by rw [hg]; exact (below_size (by repeat (first | (with_reducible first | exact HB.out | apply below_alloc | apply pw_below_drewN | apply below_drew1 | refine below_set ?_ GE121.out) | exact HB.out))) : w.heap.size ≤ gb123)); have n4_ := Aside0.mk ((by rw [hg]; exact (below_size (by repeat (first | (with_reducible first | exact HB.out | apply below_alloc | apply pw_below_drewN | apply below_drew1 | refine below_set ?_ GE121.out) | exact HB.out))) : w.heap.size ≤ gb123)); have n5_ := Aside0.mk ((by rw [hg]; exact Nat.ne_of_lt (blk_lt (g := gb121) (o := .cells #[.int .u8 0] 58 (0, 0)) (by (with_reducible repeat (first | refine blk_drewN ?_ _ | refine blk_drew ?_ | refine blk_alloc ?_ _)); exact BK121.out)) : gb121 ≠ gb123)); have n6_ := Aside0.mk ((by rw [hg]; exact Nat.ne_of_gt (blk_lt (g := gb121) (o := .cells #[.int .u8 0] 58 (0, 0)) (by (with_reducible repeat (first | refine blk_drewN ?_ _ | refine blk_drew ?_ | refine blk_alloc ?_ _)); exact BK121.out)) : gb123 ≠ gb121)); clear BK121; clear HB; have BK121 := n0_; have HB := n1_; have BK123 := n2_; have GW123 := n3_; have GE123 := n4_; have NB121_123 := n5_; have NB123_121 := n6_; clear n0_ n1_ n2_ n3_ n4_ n5_ n6_; clear hb hbox hg; have hnb26 := NB123_121.out; have hnc26 := NB121_123.out; have hcz27_0 : w25.cell? ⟨gb123, 0, none⟩ = some (.int .u8 0) := (blk_cell BK123.out 0).trans rfl; have hfz27_0 := blk_frozen BK123.out 0) | ((with_reducible refine gate_callee (f := 51) rfl ?_); refine goesL_ (some 6) rfl rfl Tryd.func51 (by kernel_rfl) rfl #[.agg #[.int .u8 t122]] rfl (by (try simp only [List.map_toArray, List.map_cons, List.map_nil]); first | done | rfl | (simp only [List.length_drop, List.length_take]; rfl)) ?_; (with_reducible refine (bits_Set_uint8_Len.calls t122 t124 _ A2.out).mono ?_); rintro e w28 ⟨rfl, hb⟩; refine ⟨_, rfl, ?_⟩; have n0_ := Aside0.mk (blk_below (g := gb121) (o := .cells #[.int .u8 0] 58 (0, 0)) (by (with_reducible repeat (first | refine blk_drewN ?_ _ | refine blk_drew ?_ | refine blk_alloc ?_ _)); refine blk_far ?_ NB121_123.out _; (with_reducible repeat (first | refine blk_drewN ?_ _ | refine blk_drew ?_ | refine blk_alloc ?_ _)); exact BK121.out) hb); have n1_ := Aside0.mk (blk_below (g := gb123) (o := .cells #[.int .u8 t122] 58 (0, 0)) (by (with_reducible repeat (first | refine blk_drewN ?_ _ | refine blk_drew ?_ | refine blk_alloc ?_ _)); refine blk_put (cs := #[.int .u8 0]) ?_ 0 _ rfl; (with_reducible repeat (first | refine blk_drewN ?_ _ | refine blk_drew ?_ | refine blk_alloc ?_ _)); exact BK123.out) hb); have n2_ := Aside0.mk (below_step (by repeat (first | (with_reducible first | exact HB.out | apply below_alloc | apply pw_below_drewN | apply below_drew1 | refine below_set ?_ GE121.out | refine below_set ?_ GE123.out) | exact HB.out)) hb); clear BK121; clear BK123; clear HB; have BK121 := n0_; have BK123 := n1_; have HB := n2_; clear n0_ n1_ n2_; (try clear hb); (try clear hb2); (try clear hk); (try clear hi); have hcz29_0 : w28.cell? ⟨gb123, 0, none⟩ = some (.int .u8 t122) := (blk_cell BK123.out 0).trans rfl; have hfz29_0 := blk_frozen BK123.out 0) | (go_at_call 52; (with_reducible refine (bits_Set_uint8_Has.calls t122 7 true _ A4.out).mono ?_); rintro e w30 ⟨rfl, hb⟩; have n0_ := Aside0.mk (blk_below (g := gb121) (o := .cells #[.int .u8 0] 58 (0, 0)) (by (with_reducible repeat (first | refine blk_drewN ?_ _ | refine blk_drew ?_ | refine blk_alloc ?_ _)); exact BK121.out) hb); have n1_ := Aside0.mk (blk_below (g := gb123) (o := .cells #[.int .u8 t122] 58 (0, 0)) (by (with_reducible repeat (first | refine blk_drewN ?_ _ | refine blk_drew ?_ | refine blk_alloc ?_ _)); exact BK123.out) hb); have n2_ := Aside0.mk (below_step (by repeat (first | (with_reducible first | exact HB.out | apply below_alloc | apply pw_below_drewN | apply below_drew1 | refine below_set ?_ GE121.out | refine below_set ?_ GE123.out) | exact HB.out)) hb); clear BK121; clear BK123; clear HB; have BK121 := n0_; have BK123 := n1_; have HB := n2_; clear n0_ n1_ n2_; (try clear hb); (try clear hb2); (try clear hk); (try clear hi); have hcz31_0 : w30.cell? ⟨gb123, 0, none⟩ = some (.int .u8 t122) := (blk_cell BK123.out 0).trans rfl; have hfz31_0 := blk_frozen BK123.out 0) | (go_at_call 53; (with_reducible refine (bits_Set_uint8_Text.calls t122 t126 _ A6.out ?tabs_).mono ?_); (case tabs_ => exact ⟨Go.Proofs.YtfgmapnanaahaaaDoorW.Tab.tab_below HTAB_.out (by repeat (first | (with_reducible first | exact HB.out | apply below_alloc | apply pw_below_drewN | apply below_drew1) | exact HB.out | exact Below.refl _ _))⟩); rintro e w32 ⟨rfl, hb⟩; have n0_ := Aside0.mk (blk_below (g := gb121) (o := .cells #[.int .u8 0] 58 (0, 0)) (by (with_reducible repeat (first | refine blk_drewN ?_ _ | refine blk_drew ?_ | refine blk_alloc ?_ _)); exact BK121.out) hb); have n1_ := Aside0.mk (blk_below (g := gb123) (o := .cells #[.int .u8 t122] 58 (0, 0)) (by (with_reducible repeat (first | refine blk_drewN ?_ _ | refine blk_drew ?_ | refine blk_alloc ?_ _)); exact BK123.out) hb); have n2_ := Aside0.mk (below_step (by repeat (first | (with_reducible first | exact HB.out | apply below_alloc | apply pw_below_drewN | apply below_drew1 | refine below_set ?_ GE121.out | refine below_set ?_ GE123.out) | exact HB.out)) hb); clear BK121; clear BK123; clear HB; have BK121 := n0_; have BK123 := n1_; have HB := n2_; clear n0_ n1_ n2_; (try clear hb); (try clear hb2); (try clear hk); (try clear hi)))
        go_ret
        exact ⟨by first | rfl | (simp [errW_none, errW_some] <;> rfl) | (simp [*, errW_none, errW_some] <;> rfl), by repeat (first | (with_reducible first | exact HB.out | apply below_alloc | apply pw_below_drewN | apply below_drew1 | refine below_set ?_ GE121.out | refine below_set ?_ GE123.out) | exact HB.out)⟩
    · replace c5 := Bool.eq_false_iff.mpr c5
      subst c5
      have H1 : (some false) = some r := by rw [if_neg (show ¬ (false = true) by decide)] at H; exact H
      clear H
      have H := H1
      clear H1
      obtain rfl := Option.some.inj H
      go_enter Tryd.func14, Tryd.ntmps14
      go_wp2_with (first | ((with_reducible refine gate_dst (N := 1) rfl ?_); refine box_event ?hg (N := 1) ?hd (cs := #[.int .u8 0]) (t := 58) ?hr ?_; (case hd => rfl); (case hg => rfl); (case hr => first | (go_simp; done) | (go_simp; rfl)); intro gb121 hg w33 hbox hb; have n0_ := Aside0.mk (below_step (by repeat (first | (with_reducible first | exact HB.out | apply below_alloc | apply pw_below_drewN | apply below_drew1) | exact HB.out)) hb); have n1_ := Aside0.mk (hbox); have n2_ := Aside0.mk ((by rw [hg]; exact (below_size (by repeat (first | (with_reducible first | exact HB.out | apply below_alloc | apply pw_below_drewN | apply below_drew1) | exact HB.out))) : w.heap.size ≤ gb121)); have n3_ := Aside0.mk ((by rw [hg]; exact (below_size (by repeat (first | (with_reducible first | exact HB.out | apply below_alloc | apply pw_below_drewN | apply below_drew1) | exact HB.out))) : w.heap.size ≤ gb121)); clear HB; have HB := n0_; have BK121 := n1_; have GW121 := n2_; have GE121 := n3_; clear n0_ n1_ n2_ n3_; clear hb hbox hg; have hcz34_0 : w33.cell? ⟨gb121, 0, none⟩ = some (.int .u8 0) := (blk_cell BK121.out 0).trans rfl; have hfz34_0 := blk_frozen BK121.out 0) | ((with_reducible refine gate_callee (f := 32) rfl ?_); refine goesL_ (some 4) rfl rfl Tryd.func32 (by kernel_rfl) rfl #[.agg #[.int .u8 0], .int .u8 150] rfl (by (try simp only [List.map_toArray, List.map_cons, List.map_nil]); first | done | rfl | (simp only [List.length_drop, List.length_take]; rfl)) ?_; (with_reducible refine (bits_Set_uint8_Of.calls 0 150 t122 _ A1.out).mono ?_); rintro e w35 ⟨rfl, hb⟩; refine ⟨_, rfl, ?_⟩; have n0_ := Aside0.mk (blk_below (g := gb121) (o := .cells #[.int .u8 0] 58 (0, 0)) (by (with_reducible repeat (first | refine blk_drewN ?_ _ | refine blk_drew ?_ | refine blk_alloc ?_ _)); exact BK121.out) hb); have n1_ := Aside0.mk (below_step (by repeat (first | (with_reducible first | exact HB.out | apply below_alloc | apply pw_below_drewN | apply below_drew1 | refine below_set ?_ GE121.out) | exact HB.out)) hb); clear BK121; clear HB; have BK121 := n0_; have HB := n1_; clear n0_ n1_; (try clear hb); (try clear hb2); (try clear hk); (try clear hi)) | ((with_reducible refine gate_dst (N := 2) rfl ?_); refine box_event ?hg (N := 2) ?hd (cs := #[.int .u8 0]) (t := 58) ?hr ?_; (case hd => rfl); (case hg => rfl); (case hr => first | (go_simp; done) | (go_simp; rfl)); intro gb123 hg w36 hbox hb; have n0_ := Aside0.mk (blk_below (g := gb121) (o := .cells #[.int .u8 0] 58 (0, 0)) (by (with_reducible repeat (first | refine blk_drewN ?_ _ | refine blk_drew ?_ | refine blk_alloc ?_ _)); exact BK121.out) hb); have n1_ := Aside0.mk (below_step (by repeat (first | (with_reducible first | exact HB.out | apply below_alloc | apply pw_below_drewN | apply below_drew1 | refine below_set ?_ GE121.out) | exact HB.out)) hb); have n2_ := Aside0.mk (hbox); have n3_ := Aside0.mk ((by rw [hg]; exact (below_size (by repeat (first | (with_reducible first | exact HB.out | apply below_alloc | apply pw_below_drewN | apply below_drew1 | refine below_set ?_ GE121.out) | exact HB.out))) : w.heap.size ≤ gb123)); have n4_ := Aside0.mk ((by rw [hg]; exact (below_size (by repeat (first | (with_reducible first | exact HB.out | apply below_alloc | apply pw_below_drewN | apply below_drew1 | refine below_set ?_ GE121.out) | exact HB.out))) : w.heap.size ≤ gb123)); have n5_ := Aside0.mk ((by rw [hg]; exact Nat.ne_of_lt (blk_lt (g := gb121) (o := .cells #[.int .u8 0] 58 (0, 0)) (by (with_reducible repeat (first | refine blk_drewN ?_ _ | refine blk_drew ?_ | refine blk_alloc ?_ _)); exact BK121.out)) : gb121 ≠ gb123)); have n6_ := Aside0.mk ((by rw [hg]; exact Nat.ne_of_gt (blk_lt (g := gb121) (o := .cells #[.int .u8 0] 58 (0, 0)) (by (with_reducible repeat (first | refine blk_drewN ?_ _ | refine blk_drew ?_ | refine blk_alloc ?_ _)); exact BK121.out)) : gb123 ≠ gb121)); clear BK121; clear HB; have BK121 := n0_; have HB := n1_; have BK123 := n2_; have GW123 := n3_; have GE123 := n4_; have NB121_123 := n5_; have NB123_121 := n6_; clear n0_ n1_ n2_ n3_ n4_ n5_ n6_; clear hb hbox hg; have hnb37 := NB123_121.out; have hnc37 := NB121_123.out; have hcz38_0 : w36.cell? ⟨gb123, 0, none⟩ = some (.int .u8 0) := (blk_cell BK123.out 0).trans rfl; have hfz38_0 := blk_frozen BK123.out 0) | ((with_reducible refine gate_callee (f := 51) rfl ?_); refine goesL_ (some 6) rfl rfl Tryd.func51 (by kernel_rfl) rfl #[.agg #[.int .u8 t122]] rfl (by (try simp only [List.map_toArray, List.map_cons, List.map_nil]); first | done | rfl | (simp only [List.length_drop, List.length_take]; rfl)) ?_; (with_reducible refine (bits_Set_uint8_Len.calls t122 t124 _ A2.out).mono ?_); rintro e w39 ⟨rfl, hb⟩; refine ⟨_, rfl, ?_⟩; have n0_ := Aside0.mk (blk_below (g := gb121) (o := .cells #[.int .u8 0] 58 (0, 0)) (by (with_reducible repeat (first | refine blk_drewN ?_ _ | refine blk_drew ?_ | refine blk_alloc ?_ _)); refine blk_far ?_ NB121_123.out _; (with_reducible repeat (first | refine blk_drewN ?_ _ | refine blk_drew ?_ | refine blk_alloc ?_ _)); exact BK121.out) hb); have n1_ := Aside0.mk (blk_below (g := gb123) (o := .cells #[.int .u8 t122] 58 (0, 0)) (by (with_reducible repeat (first | refine blk_drewN ?_ _ | refine blk_drew ?_ | refine blk_alloc ?_ _)); refine blk_put (cs := #[.int .u8 0]) ?_ 0 _ rfl; (with_reducible repeat (first | refine blk_drewN ?_ _ | refine blk_drew ?_ | refine blk_alloc ?_ _)); exact BK123.out) hb); have n2_ := Aside0.mk (below_step (by repeat (first | (with_reducible first | exact HB.out | apply below_alloc | apply pw_below_drewN | apply below_drew1 | refine below_set ?_ GE121.out | refine below_set ?_ GE123.out) | exact HB.out)) hb); clear BK121; clear BK123; clear HB; have BK121 := n0_; have BK123 := n1_; have HB := n2_; clear n0_ n1_ n2_; (try clear hb); (try clear hb2); (try clear hk); (try clear hi); have hcz40_0 : w39.cell? ⟨gb123, 0, none⟩ = some (.int .u8 t122) := (blk_cell BK123.out 0).trans rfl; have hfz40_0 := blk_frozen BK123.out 0) | (go_at_call 52; (with_reducible refine (bits_Set_uint8_Has.calls t122 7 false _ A4.out).mono ?_); rintro e w41 ⟨rfl, hb⟩; have n0_ := Aside0.mk (blk_below (g := gb121) (o := .cells #[.int .u8 0] 58 (0, 0)) (by (with_reducible repeat (first | refine blk_drewN ?_ _ | refine blk_drew ?_ | refine blk_alloc ?_ _)); exact BK121.out) hb); have n1_ := Aside0.mk (blk_below (g := gb123) (o := .cells #[.int .u8 t122] 58 (0, 0)) (by (with_reducible repeat (first | refine blk_drewN ?_ _ | refine blk_drew ?_ | refine blk_alloc ?_ _)); exact BK123.out) hb); have n2_ := Aside0.mk (below_step (by repeat (first | (with_reducible first | exact HB.out | apply below_alloc | apply pw_below_drewN | apply below_drew1 | refine below_set ?_ GE121.out | refine below_set ?_ GE123.out) | exact HB.out)) hb); clear BK121; clear BK123; clear HB; have BK121 := n0_; have BK123 := n1_; have HB := n2_; clear n0_ n1_ n2_; (try clear hb); (try clear hb2); (try clear hk); (try clear hi)))
      go_ret
      exact ⟨by first | rfl | (simp [errW_none, errW_some] <;> rfl) | (simp [*, errW_none, errW_some] <;> rfl), by repeat (first | (with_reducible first | exact HB.out | apply below_alloc | apply pw_below_drewN | apply below_drew1 | refine below_set ?_ GE121.out | refine below_set ?_ GE123.out) | exact HB.out)⟩
  · rw [if_neg c3] at H
    have c3b0 : (t124 == 4) = false := beq_eq_false_iff_ne.mpr c3
    have c3b1 : (t124 != 4) = true := bne_iff_ne.mpr c3
    obtain rfl := Option.some.inj H
    go_enter Tryd.func14, Tryd.ntmps14
    go_wp2_with (first | ((with_reducible refine gate_dst (N := 1) rfl ?_); refine box_event ?hg (N := 1) ?hd (cs := #[.int .u8 0]) (t := 58) ?hr ?_; (case hd => rfl); (case hg => rfl); (case hr => first | (go_simp; done) | (go_simp; rfl)); intro gb121 hg w42 hbox hb; have n0_ := Aside0.mk (below_step (by repeat (first | (with_reducible first | exact HB.out | apply below_alloc | apply pw_below_drewN | apply below_drew1) | exact HB.out)) hb); have n1_ := Aside0.mk (hbox); have n2_ := Aside0.mk ((by rw [hg]; exact (below_size (by repeat (first | (with_reducible first | exact HB.out | apply below_alloc | apply pw_below_drewN | apply below_drew1) | exact HB.out))) : w.heap.size ≤ gb121)); have n3_ := Aside0.mk ((by rw [hg]; exact (below_size (by repeat (first | (with_reducible first | exact HB.out | apply below_alloc | apply pw_below_drewN | apply below_drew1) | exact HB.out))) : w.heap.size ≤ gb121)); clear HB; have HB := n0_; have BK121 := n1_; have GW121 := n2_; have GE121 := n3_; clear n0_ n1_ n2_ n3_; clear hb hbox hg; have hcz43_0 : w42.cell? ⟨gb121, 0, none⟩ = some (.int .u8 0) := (blk_cell BK121.out 0).trans rfl; have hfz43_0 := blk_frozen BK121.out 0) | ((with_reducible refine gate_callee (f := 32) rfl ?_); refine goesL_ (some 4) rfl rfl Tryd.func32 (by kernel_rfl) rfl #[.agg #[.int .u8 0], .int .u8 150] rfl (by (try simp only [List.map_toArray, List.map_cons, List.map_nil]); first | done | rfl | (simp only [List.length_drop, List.length_take]; rfl)) ?_; (with_reducible refine (bits_Set_uint8_Of.calls 0 150 t122 _ A1.out).mono ?_); rintro e w44 ⟨rfl, hb⟩; refine ⟨_, rfl, ?_⟩; have n0_ := Aside0.mk (blk_below (g := gb121) (o := .cells #[.int .u8 0] 58 (0, 0)) (by (with_reducible repeat (first | refine blk_drewN ?_ _ | refine blk_drew ?_ | refine blk_alloc ?_ _)); exact BK121.out) hb); have n1_ := Aside0.mk (below_step (by repeat (first | (with_reducible first | exact HB.out | apply below_alloc | apply pw_below_drewN | apply below_drew1 | refine below_set ?_ GE121.out) | exact HB.out)) hb); clear BK121; clear HB; have BK121 := n0_; have HB := n1_; clear n0_ n1_; (try clear hb); (try clear hb2); (try clear hk); (try clear hi)) | ((with_reducible refine gate_dst (N := 2) rfl ?_); refine box_event ?hg (N := 2) ?hd (cs := #[.int .u8 0]) (t := 58) ?hr ?_; (case hd => rfl); (case hg => rfl); (case hr => first | (go_simp; done) | (go_simp; rfl)); intro gb123 hg w45 hbox hb; have n0_ := Aside0.mk (blk_below (g := gb121) (o := .cells #[.int .u8 0] 58 (0, 0)) (by (with_reducible repeat (first | refine blk_drewN ?_ _ | refine blk_drew ?_ | refine blk_alloc ?_ _)); exact BK121.out) hb); have n1_ := Aside0.mk (below_step (by repeat (first | (with_reducible first | exact HB.out | apply below_alloc | apply pw_below_drewN | apply below_drew1 | refine below_set ?_ GE121.out) | exact HB.out)) hb); have n2_ := Aside0.mk (hbox); have n3_ := Aside0.mk ((by rw [hg]; exact (below_size (by repeat (first | (with_reducible first | exact HB.out | apply below_alloc | apply pw_below_drewN | apply below_drew1 | refine below_set ?_ GE121.out) | exact HB.out))) : w.heap.size ≤ gb123)); have n4_ := Aside0.mk ((by rw [hg]; exact (below_size (by repeat (first | (with_reducible first | exact HB.out | apply below_alloc | apply pw_below_drewN | apply below_drew1 | refine below_set ?_ GE121.out) | exact HB.out))) : w.heap.size ≤ gb123)); have n5_ := Aside0.mk ((by rw [hg]; exact Nat.ne_of_lt (blk_lt (g := gb121) (o := .cells #[.int .u8 0] 58 (0, 0)) (by (with_reducible repeat (first | refine blk_drewN ?_ _ | refine blk_drew ?_ | refine blk_alloc ?_ _)); exact BK121.out)) : gb121 ≠ gb123)); have n6_ := Aside0.mk ((by rw [hg]; exact Nat.ne_of_gt (blk_lt (g := gb121) (o := .cells #[.int .u8 0] 58 (0, 0)) (by (with_reducible repeat (first | refine blk_drewN ?_ _ | refine blk_drew ?_ | refine blk_alloc ?_ _)); exact BK121.out)) : gb123 ≠ gb121)); clear BK121; clear HB; have BK121 := n0_; have HB := n1_; have BK123 := n2_; have GW123 := n3_; have GE123 := n4_; have NB121_123 := n5_; have NB123_121 := n6_; clear n0_ n1_ n2_ n3_ n4_ n5_ n6_; clear hb hbox hg; have hnb46 := NB123_121.out; have hnc46 := NB121_123.out; have hcz47_0 : w45.cell? ⟨gb123, 0, none⟩ = some (.int .u8 0) := (blk_cell BK123.out 0).trans rfl; have hfz47_0 := blk_frozen BK123.out 0) | ((with_reducible refine gate_callee (f := 51) rfl ?_); refine goesL_ (some 6) rfl rfl Tryd.func51 (by kernel_rfl) rfl #[.agg #[.int .u8 t122]] rfl (by (try simp only [List.map_toArray, List.map_cons, List.map_nil]); first | done | rfl | (simp only [List.length_drop, List.length_take]; rfl)) ?_; (with_reducible refine (bits_Set_uint8_Len.calls t122 t124 _ A2.out).mono ?_); rintro e w48 ⟨rfl, hb⟩; refine ⟨_, rfl, ?_⟩; have n0_ := Aside0.mk (blk_below (g := gb121) (o := .cells #[.int .u8 0] 58 (0, 0)) (by (with_reducible repeat (first | refine blk_drewN ?_ _ | refine blk_drew ?_ | refine blk_alloc ?_ _)); refine blk_far ?_ NB121_123.out _; (with_reducible repeat (first | refine blk_drewN ?_ _ | refine blk_drew ?_ | refine blk_alloc ?_ _)); exact BK121.out) hb); have n1_ := Aside0.mk (blk_below (g := gb123) (o := .cells #[.int .u8 t122] 58 (0, 0)) (by (with_reducible repeat (first | refine blk_drewN ?_ _ | refine blk_drew ?_ | refine blk_alloc ?_ _)); refine blk_put (cs := #[.int .u8 0]) ?_ 0 _ rfl; (with_reducible repeat (first | refine blk_drewN ?_ _ | refine blk_drew ?_ | refine blk_alloc ?_ _)); exact BK123.out) hb); have n2_ := Aside0.mk (below_step (by repeat (first | (with_reducible first | exact HB.out | apply below_alloc | apply pw_below_drewN | apply below_drew1 | refine below_set ?_ GE121.out | refine below_set ?_ GE123.out) | exact HB.out)) hb); clear BK121; clear BK123; clear HB; have BK121 := n0_; have BK123 := n1_; have HB := n2_; clear n0_ n1_ n2_; (try clear hb); (try clear hb2); (try clear hk); (try clear hi)))
    go_ret
    exact ⟨by first | rfl | (simp [errW_none, errW_some] <;> rfl) | (simp [*, errW_none, errW_some] <;> rfl), by repeat (first | (with_reducible first | exact HB.out | apply below_alloc | apply pw_below_drewN | apply below_drew1 | refine below_set ?_ GE121.out | refine below_set ?_ GE123.out) | exact HB.out)⟩

/-! ### bits_Set_uint32_Of: function 30 -/
def bits_Set_uint32_Of.f (a0_0 : Int) (a1 : Int) : Option (Int) := some a1
set_option maxHeartbeats 8000000 in
set_option maxRecDepth 100000 in
theorem bits_Set_uint32_Of.calls (a0_0 : Int) (a1 : Int) (r : Int) (w : World) (h : bits_Set_uint32_Of.f a0_0 a1 = some r) :
    Calls Tryd.prog 30 #[.agg #[.int .u32 a0_0], .int .u32 a1] w fun e w' => e = .returned (.agg #[.int .u32 r]) ∧ Below w.heap.size w w' := by
  have hu55 := Tryd.underlying55
  have HB := Aside0.mk (Below.refl w.heap.size w)
  have H : (some a1) = some r := h
  clear h
  obtain rfl := Option.some.inj H
  go_enter Tryd.func30, Tryd.ntmps30
  go_wp2_with (first | ((with_reducible refine gate_dst (N := 2) rfl ?_); refine box_event ?hg (N := 2) ?hd (cs := #[.int .u32 a0_0]) (t := 55) ?hr ?_; (case hd => rfl); (case hg => rfl); (case hr => first | (go_simp; done) | (go_simp; rfl)); intro gb128 hg w3 hbox hb; have n0_ := Aside0.mk (below_step (by repeat (first | (with_reducible first | exact HB.out | apply below_alloc | apply pw_below_drewN | apply below_drew1) | exact HB.out)) hb); have n1_ := Aside0.mk (hbox); have n2_ := Aside0.mk ((by rw [hg]; exact (below_size (by repeat (first | (with_reducible first | exact HB.out | apply below_alloc | apply pw_below_drewN | apply below_drew1) | exact HB.out))) : w.heap.size ≤ gb128)); have n3_ := Aside0.mk ((by rw [hg]; exact (below_size (by repeat (first | (with_reducible first | exact HB.out | apply below_alloc | apply pw_below_drewN | apply below_drew1) | exact HB.out))) : w.heap.size ≤ gb128)); clear HB; have HB := n0_; have BK128 := n1_; have GW128 := n2_; have GE128 := n3_; clear n0_ n1_ n2_ n3_; clear hb hbox hg) | ((with_reducible refine gate_dst (N := 4) rfl ?_); refine box_event ?hg (N := 4) ?hd (cs := #[.int .u32 0]) (t := 55) ?hr ?_; (case hd => rfl); (case hg => rfl); (case hr => first | (go_simp; done) | (go_simp; rfl)); intro gb129 hg w4 hbox hb; have n0_ := Aside0.mk (blk_below (g := gb128) (o := .cells #[.int .u32 a0_0] 55 (0, 0)) (by (with_reducible repeat (first | refine blk_drewN ?_ _ | refine blk_drew ?_ | refine blk_alloc ?_ _)); exact BK128.out) hb); have n1_ := Aside0.mk (below_step (by repeat (first | (with_reducible first | exact HB.out | apply below_alloc | apply pw_below_drewN | apply below_drew1 | refine below_set ?_ GE128.out) | exact HB.out)) hb); have n2_ := Aside0.mk (hbox); have n3_ := Aside0.mk ((by rw [hg]; exact (below_size (by repeat (first | (with_reducible first | exact HB.out | apply below_alloc | apply pw_below_drewN | apply below_drew1 | refine below_set ?_ GE128.out) | exact HB.out))) : w.heap.size ≤ gb129)); have n4_ := Aside0.mk ((by rw [hg]; exact (below_size (by repeat (first | (with_reducible first | exact HB.out | apply below_alloc | apply pw_below_drewN | apply below_drew1 | refine below_set ?_ GE128.out) | exact HB.out))) : w.heap.size ≤ gb129)); have n5_ := Aside0.mk ((by rw [hg]; exact Nat.ne_of_lt (blk_lt (g := gb128) (o := .cells #[.int .u32 a0_0] 55 (0, 0)) (by (with_reducible repeat (first | refine blk_drewN ?_ _ | refine blk_drew ?_ | refine blk_alloc ?_ _)); exact BK128.out)) : gb128 ≠ gb129)); have n6_ := Aside0.mk ((by rw [hg]; exact Nat.ne_of_gt (blk_lt (g := gb128) (o := .cells #[.int .u32 a0_0] 55 (0, 0)) (by (with_reducible repeat (first | refine blk_drewN ?_ _ | refine blk_drew ?_ | refine blk_alloc ?_ _)); exact BK128.out)) : gb129 ≠ gb128)); clear BK128; clear HB; have BK128 := n0_; have HB := n1_; have BK129 := n2_; have GW129 := n3_; have GE129 := n4_; have NB128_129 := n5_; have NB129_128 := n6_; clear n0_ n1_ n2_ n3_ n4_ n5_ n6_; clear hb hbox hg; have hnb5 := NB129_128.out; have hnc5 := NB128_129.out; have hcz6_0 : w4.cell? ⟨gb129, 0, none⟩ = some (.int .u32 0) := (blk_cell BK129.out 0).trans rfl; have hfz6_0 := blk_frozen BK129.out 0))
  refine bodyPost_ret (results_cell_row rfl _ _ gb129 55 #[.int .u32 a1] (0, 0) _ rfl (by (with_reducible repeat (first | refine blk_drewN ?_ _ | refine blk_drew ?_ | refine blk_alloc ?_ _)); refine blk_put (cs := #[.int .u32 0]) ?_ 0 _ rfl; (with_reducible repeat (first | refine blk_drewN ?_ _ | refine blk_drew ?_ | refine blk_alloc ?_ _)); exact BK129.out) Tryd.underlying55 rfl (by kernel_rfl)) rfl ?_
  exact ⟨by first | rfl | (simp [errW_none, errW_some] <;> rfl) | (simp [*, errW_none, errW_some] <;> rfl), by repeat (first | (with_reducible first | exact HB.out | apply below_alloc | apply pw_below_drewN | apply below_drew1 | refine below_set ?_ GE128.out | refine below_set ?_ GE129.out) | exact HB.out)⟩

/-! ### bits_Set_uint32_Width: function 102 -/
def bits_Set_uint32_Width.f (a0_0 : Int) : Option (Int) := (bits_OnesCount64.f (IntKind.u64.wrap (Go.bits .xor .u32 4294967295 0))).bind fun t131 => (some t131)
set_option maxHeartbeats 8000000 in
set_option maxRecDepth 100000 in
theorem bits_Set_uint32_Width.calls (a0_0 : Int) (r : Int) (w : World) (h : bits_Set_uint32_Width.f a0_0 = some r) :
    Calls Tryd.prog 102 #[.agg #[.int .u32 a0_0]] w fun e w' => e = .returned (.int .i64 r) ∧ Below w.heap.size w w' := by
  have hu55 := Tryd.underlying55
  have HB := Aside0.mk (Below.refl w.heap.size w)
  have H : ((bits_OnesCount64.f (IntKind.u64.wrap (Go.bits .xor .u32 4294967295 0))).bind fun t131 => (some t131)) = some r := h
  clear h
  replace H := Option.bind_eq_some_iff.mp H
  obtain ⟨t131, A20, H⟩ := H
  replace H : (some t131) = some r := H
  have A2 := Aside0.mk A20
  clear A20
  obtain rfl := Option.some.inj H
  go_enter Tryd.func102, Tryd.ntmps102
  go_wp2_with (first | ((with_reducible refine gate_dst (N := 1) rfl ?_); refine box_event ?hg (N := 1) ?hd (cs := #[.int .u32 a0_0]) (t := 55) ?hr ?_; (case hd => rfl); (case hg => rfl); (case hr => first | (go_simp; done) | (go_simp; rfl)); intro gb130 hg w3 hbox hb; have n0_ := Aside0.mk (below_step (by repeat (first | (with_reducible first | exact HB.out | apply below_alloc | apply pw_below_drewN | apply below_drew1) | exact HB.out)) hb); have n1_ := Aside0.mk (hbox); have n2_ := Aside0.mk ((by rw [hg]; exact (below_size (by repeat (first | (with_reducible first | exact HB.out | apply below_alloc | apply pw_below_drewN | apply below_drew1) | exact HB.out))) : w.heap.size ≤ gb130)); have n3_ := Aside0.mk ((by rw [hg]; exact (below_size (by repeat (first | (with_reducible first | exact HB.out | apply below_alloc | apply pw_below_drewN | apply below_drew1) | exact HB.out))) : w.heap.size ≤ gb130)); clear HB; have HB := n0_; have BK130 := n1_; have GW130 := n2_; have GE130 := n3_; clear n0_ n1_ n2_ n3_; clear hb hbox hg) | ((with_reducible refine gate_callee (f := 61) rfl ?_); refine goesL_ (some 6) rfl rfl Tryd.func61 (by kernel_rfl) rfl #[.int .u64 (IntKind.u64.wrap (Go.bits .xor .u32 4294967295 0))] rfl (by (try simp only [List.map_toArray, List.map_cons, List.map_nil]); first | done | rfl | (simp only [List.length_drop, List.length_take]; rfl)) ?_; (with_reducible refine (bits_OnesCount64.calls (IntKind.u64.wrap (Go.bits .xor .u32 4294967295 0)) t131 _ A2.out).mono ?_); rintro e w' ⟨rfl, ⟨nd, rfl⟩⟩; refine ⟨_, rfl, ?_⟩))
  go_ret
  exact ⟨by first | rfl | (simp [errW_none, errW_some] <;> rfl) | (simp [*, errW_none, errW_some] <;> rfl), by repeat (first | (with_reducible first | exact HB.out | apply below_alloc | apply pw_below_drewN | apply below_drew1 | refine below_set ?_ GE130.out) | exact HB.out)⟩
section
open Go Go.Lib Go.Proofs.YtfgmapnanaahaaaDoorW.BitsM Go.Proofs.YtfgmapnanaahaaaDoorW.PrintMore
theorem width32_eq (x : Int) : bits_Set_uint32_Width.f x = some 32 := by
  unfold bits_Set_uint32_Width.f
  have c : IntKind.u64.wrap (Go.bits .xor .u32 4294967295 0) = ((4294967295 : Nat) : Int) := by decide +kernel
  have l : (pl 4294967295 0).length = 32 := by decide +kernel
  rw [c, ones_eq _ (by decide), l]; rfl
end


/-! ### bits_Set_uint32_within: function 89 -/
def bits_Set_uint32_within.f (a0_0 : Int) (a1 : Int) : Option (Bool) := if a1 ≥ 0 then ((bits_Set_uint32_Width.f a0_0).bind fun t133 => (some (decide (a1 < t133)))) else (some false)
set_option maxHeartbeats 8000000 in
set_option maxRecDepth 100000 in
theorem bits_Set_uint32_within.calls (a0_0 : Int) (a1 : Int) (r : Bool) (w : World) (h : bits_Set_uint32_within.f a0_0 a1 = some r) :
    Calls Tryd.prog 89 #[.agg #[.int .u32 a0_0], .int .i64 a1] w fun e w' => e = .returned (.bool r) ∧ Below w.heap.size w w' := by
  have hu55 := Tryd.underlying55
  have HB := Aside0.mk (Below.refl w.heap.size w)
  have H : (if a1 ≥ 0 then ((bits_Set_uint32_Width.f a0_0).bind fun t133 => (some (decide (a1 < t133)))) else (some false)) = some r := h
  clear h
  by_cases c3 : a1 ≥ 0
  · rw [if_pos c3] at H
    have c3b0 : decide (0 ≤ a1) = true := decide_eq_true c3
    clear c3
    replace H := Option.bind_eq_some_iff.mp H
    obtain ⟨t133, A40, H⟩ := H
    replace H : (some (decide (a1 < t133))) = some r := H
    have A4 := Aside0.mk A40
    clear A40
    obtain rfl := Option.some.inj H
    go_enter Tryd.func89, Tryd.ntmps89
    go_wp2_with (first | ((with_reducible refine gate_dst (N := 2) rfl ?_); refine box_event ?hg (N := 2) ?hd (cs := #[.int .u32 a0_0]) (t := 55) ?hr ?_; (case hd => rfl); (case hg => rfl); (case hr => first | (go_simp; done) | (go_simp; rfl)); intro gb132 hg w5 hbox hb; have n0_ := Aside0.mk (below_step (by repeat (first | (with_reducible first | exact HB.out | apply below_alloc | apply pw_below_drewN | apply below_drew1) | exact HB.out)) hb); have n1_ := Aside0.mk (hbox); have n2_ := Aside0.mk ((by rw [hg]; exact (below_size (by repeat (first | (with_reducible first | exact HB.out | apply below_alloc | apply pw_below_drewN | apply below_drew1) | exact HB.out))) : w.heap.size ≤ gb132)); have n3_ := Aside0.mk ((by rw [hg]; exact (below_size (by repeat (first | (with_reducible first | exact HB.out | apply below_alloc | apply pw_below_drewN | apply below_drew1) | exact HB.out))) : w.heap.size ≤ gb132)); clear HB; have HB := n0_; have BK132 := n1_; have GW132 := n2_; have GE132 := n3_; clear n0_ n1_ n2_ n3_; clear hb hbox hg; have hcz6_0 : w5.cell? ⟨gb132, 0, none⟩ = some (.int .u32 a0_0) := (blk_cell BK132.out 0).trans rfl; have hfz6_0 := blk_frozen BK132.out 0) | (go_at_call 102; (with_reducible refine (bits_Set_uint32_Width.calls a0_0 t133 _ A4.out).mono ?_); rintro e w7 ⟨rfl, hb⟩; have n0_ := Aside0.mk (blk_below (g := gb132) (o := .cells #[.int .u32 a0_0] 55 (0, 0)) (by (with_reducible repeat (first | refine blk_drewN ?_ _ | refine blk_drew ?_ | refine blk_alloc ?_ _)); exact BK132.out) hb); have n1_ := Aside0.mk (below_step (by repeat (first | (with_reducible first | exact HB.out | apply below_alloc | apply pw_below_drewN | apply below_drew1 | refine below_set ?_ GE132.out) | exact HB.out)) hb); clear BK132; clear HB; have BK132 := n0_; have HB := n1_; clear n0_ n1_; (try clear hb); (try clear hb2); (try clear hk); (try clear hi)))
    go_ret
    exact ⟨by first | rfl | (simp [errW_none, errW_some] <;> rfl) | (simp [*, errW_none, errW_some] <;> rfl), by repeat (first | (with_reducible first | exact HB.out | apply below_alloc | apply pw_below_drewN | apply below_drew1 | refine below_set ?_ GE132.out) | exact HB.out)⟩
  · rw [if_neg c3] at H
    have c3b0 : decide (0 ≤ a1) = false := decide_eq_false c3
    clear c3
    obtain rfl := Option.some.inj H
    go_enter Tryd.func89, Tryd.ntmps89
    go_wp2_with (first | ((with_reducible refine gate_dst (N := 2) rfl ?_); refine box_event ?hg (N := 2) ?hd (cs := #[.int .u32 a0_0]) (t := 55) ?hr ?_; (case hd => rfl); (case hg => rfl); (case hr => first | (go_simp; done) | (go_simp; rfl)); intro gb132 hg w8 hbox hb; have n0_ := Aside0.mk (below_step (by repeat (first | (with_reducible first | exact HB.out | apply below_alloc | apply pw_below_drewN | apply below_drew1) | exact HB.out)) hb); have n1_ := Aside0.mk (hbox); have n2_ := Aside0.mk ((by rw [hg]; exact (below_size (by repeat (first | (with_reducible first | exact HB.out | apply below_alloc | apply pw_below_drewN | apply below_drew1) | exact HB.out))) : w.heap.size ≤ gb132)); have n3_ := Aside0.mk ((by rw [hg]; exact (below_size (by repeat (first | (with_reducible first | exact HB.out | apply below_alloc | apply pw_below_drewN | apply below_drew1) | exact HB.out))) : w.heap.size ≤ gb132)); clear HB; have HB := n0_; have BK132 := n1_; have GW132 := n2_; have GE132 := n3_; clear n0_ n1_ n2_ n3_; clear hb hbox hg))
    go_ret
    exact ⟨by first | rfl | (simp [errW_none, errW_some] <;> rfl) | (simp [*, errW_none, errW_some] <;> rfl), by repeat (first | (with_reducible first | exact HB.out | apply below_alloc | apply pw_below_drewN | apply below_drew1 | refine below_set ?_ GE132.out) | exact HB.out)⟩
section
open Go Go.Lib Go.Proofs.YtfgmapnanaahaaaDoorW.BitsM Go.Proofs.YtfgmapnanaahaaaDoorW.PrintMore
theorem within32_eq (x i : Int) : bits_Set_uint32_within.f x i = some (decide (0 ≤ i) && decide (i < 32)) := by
  unfold bits_Set_uint32_within.f
  rw [width32_eq]
  by_cases h : i ≥ 0
  · rw [if_pos h, decide_eq_true (show 0 ≤ i from h), Bool.true_and]; rfl
  · rw [if_neg h, decide_eq_false (show ¬ 0 ≤ i from h), Bool.false_and]
end


/-! ### bits_Set_uint32_Without: function 67 -/
def bits_Set_uint32_Without.f (a0_0 : Int) (a1 : Int) : Option (Int) := (bits_Set_uint32_within.f a0_0 a1).bind fun t136 => (if t136 = true then (if 0 ≤ a1 then (some (Go.bits .andNot .u32 a0_0 (shl .u32 1 a1))) else (none)) else (some a0_0))
set_option maxHeartbeats 8000000 in
set_option maxRecDepth 100000 in
theorem bits_Set_uint32_Without.calls (a0_0 : Int) (a1 : Int) (r : Int) (w : World) (h : bits_Set_uint32_Without.f a0_0 a1 = some r) :
    Calls Tryd.prog 67 #[.agg #[.int .u32 a0_0], .int .i64 a1] w fun e w' => e = .returned (.agg #[.int .u32 r]) ∧ Below w.heap.size w w' := by
  have hu55 := Tryd.underlying55
  have HB := Aside0.mk (Below.refl w.heap.size w)
  have H : ((bits_Set_uint32_within.f a0_0 a1).bind fun t136 => (if t136 = true then (if 0 ≤ a1 then (some (Go.bits .andNot .u32 a0_0 (shl .u32 1 a1))) else (none)) else (some a0_0))) = some r := h
  clear h
  replace H := Option.bind_eq_some_iff.mp H
  obtain ⟨t136, A30, H⟩ := H
  replace H : (if t136 = true then (if 0 ≤ a1 then (some (Go.bits .andNot .u32 a0_0 (shl .u32 1 a1))) else (none)) else (some a0_0)) = some r := H
  have A3 := Aside0.mk A30
  clear A30
  by_cases c4 : t136 = true
  · subst c4
    have H1 : (if 0 ≤ a1 then (some (Go.bits .andNot .u32 a0_0 (shl .u32 1 a1))) else (none)) = some r := by rw [if_pos rfl] at H; exact H
    clear H
    have H := H1
    clear H1
    by_cases c5 : 0 ≤ a1
    · rw [if_pos c5] at H
      have c5b0 := eq_true c5
      have c5b1 : decide (0 ≤ a1) = true := decide_eq_true c5
      clear c5
      obtain ⟨ji6, hji6⟩ : ∃ j_ : Int, (shl .u32 1 a1) = j_ := ⟨_, rfl⟩
      replace H : (some (Go.bits .andNot .u32 a0_0 (ji6))) = some r := by first | (rw [hji6] at H; exact H) | (simp only [hji6] at H ⊢; exact H)
      (try rw [hji6] at A3)
      have hji6_ : (IntKind.u32.wrap (1 * 2 ^ min a1.toNat 32)) = ji6 := hji6
      have hji6z : a1 ≤ 32 → (IntKind.u32.wrap (1 * 2 ^ a1.toNat)) = ji6 := shl_small hji6
      have hji6u : (IntKind.u32.wrap (2 ^ min a1.toNat 32)) = ji6 := by have h_ := hji6_; rw [Int.one_mul] at h_; exact h_
      have hji6v : a1 ≤ 32 → (IntKind.u32.wrap (2 ^ a1.toNat)) = ji6 := fun hle_ => by have h_ := hji6z hle_; rw [Int.one_mul] at h_; exact h_
      obtain rfl := Option.some.inj H
      go_enter Tryd.func67, Tryd.ntmps67
      try go_wp2_with (first | ((with_reducible refine gate_dst (N := 2) rfl ?_); refine box_event ?hg (N := 2) ?hd (cs := #[.int .u32 a0_0]) (t := 55) ?hr ?_; (case hd => rfl); (case hg => rfl); (case hr => first | (go_simp; done) | (go_simp; rfl)); intro gb134 hg w7 hbox hb; have n0_ := Aside0.mk (below_step (by repeat (first | (with_reducible first | exact HB.out | apply below_alloc | apply pw_below_drewN | apply below_drew1) | exact HB.out)) hb); have n1_ := Aside0.mk (hbox); have n2_ := Aside0.mk ((by rw [hg]; exact (below_size (by repeat (first | (with_reducible first | exact HB.out | apply below_alloc | apply pw_below_drewN | apply below_drew1) | exact HB.out))) : w.heap.size ≤ gb134)); have n3_ := Aside0.mk ((by rw [hg]; exact (below_size (by repeat (first | (with_reducible first | exact HB.out | apply below_alloc | apply pw_below_drewN | apply below_drew1) | exact HB.out))) : w.heap.size ≤ gb134)); clear HB; have HB := n0_; have BK134 := n1_; have GW134 := n2_; have GE134 := n3_; clear n0_ n1_ n2_ n3_; clear hb hbox hg) | ((with_reducible refine gate_dst (N := 4) rfl ?_); refine box_event ?hg (N := 4) ?hd (cs := #[.int .u32 0]) (t := 55) ?hr ?_; (case hd => rfl); (case hg => rfl); (case hr => first | (go_simp; done) | (go_simp; rfl)); intro gb135 hg w8 hbox hb; have n0_ := Aside0.mk (blk_below (g := gb134) (o := .cells #[.int .u32 a0_0] 55 (0, 0)) (by (with_reducible repeat (first | refine blk_drewN ?_ _ | refine blk_drew ?_ | refine blk_alloc ?_ _)); exact BK134.out) hb); have n1_ := Aside0.mk (below_step (by repeat (first | (with_reducible first | exact HB.out | apply below_alloc | apply pw_below_drewN | apply below_drew1 | refine below_set ?_ GE134.out) | exact HB.out)) hb); have n2_ := Aside0.mk (hbox); have n3_ := Aside0.mk ((by rw [hg]; exact (below_size (by repeat (first | (with_reducible first | exact HB.out | apply below_alloc | apply pw_below_drewN | apply below_drew1 | refine below_set ?_ GE134.out) | exact HB.out))) : w.heap.size ≤ gb135)); have n4_ := Aside0.mk ((by rw [hg]; exact (below_size (by repeat (first | (with_reducible first | exact HB.out | apply below_alloc | apply pw_below_drewN | apply below_drew1 | refine below_set ?_ GE134.out) | exact HB.out))) : w.heap.size ≤ gb135)); have n5_ := Aside0.mk ((by rw [hg]; exact Nat.ne_of_lt (blk_lt (g := gb134) (o := .cells #[.int .u32 a0_0] 55 (0, 0)) (by (with_reducible repeat (first | refine blk_drewN ?_ _ | refine blk_drew ?_ | refine blk_alloc ?_ _)); exact BK134.out)) : gb134 ≠ gb135)); have n6_ := Aside0.mk ((by rw [hg]; exact Nat.ne_of_gt (blk_lt (g := gb134) (o := .cells #[.int .u32 a0_0] 55 (0, 0)) (by (with_reducible repeat (first | refine blk_drewN ?_ _ | refine blk_drew ?_ | refine blk_alloc ?_ _)); exact BK134.out)) : gb135 ≠ gb134)); clear BK134; clear HB; have BK134 := n0_; have HB := n1_; have BK135 := n2_; have GW135 := n3_; have GE135 := n4_; have NB134_135 := n5_; have NB135_134 := n6_; clear n0_ n1_ n2_ n3_ n4_ n5_ n6_; clear hb hbox hg; have hnb9 := NB134_135.out; have hnc9 := NB135_134.out; have hcz10_0 : w8.cell? ⟨gb134, 0, none⟩ = some (.int .u32 a0_0) := (blk_cell BK134.out 0).trans rfl; have hfz10_0 := blk_frozen BK134.out 0) | ((with_reducible refine gate_callee (f := 89) rfl ?_); refine goesL_ (some 7) rfl rfl Tryd.func89 (by kernel_rfl) rfl #[.agg #[.int .u32 a0_0], .int .i64 a1] rfl (by (try simp only [List.map_toArray, List.map_cons, List.map_nil]); first | done | rfl | (simp only [List.length_drop, List.length_take]; rfl)) ?_; (with_reducible refine (bits_Set_uint32_within.calls a0_0 a1 true _ A3.out).mono ?_); rintro e w11 ⟨rfl, hb⟩; refine ⟨_, rfl, ?_⟩; have n0_ := Aside0.mk (blk_below (g := gb134) (o := .cells #[.int .u32 a0_0] 55 (0, 0)) (by (with_reducible repeat (first | refine blk_drewN ?_ _ | refine blk_drew ?_ | refine blk_alloc ?_ _)); exact BK134.out) hb); have n1_ := Aside0.mk (blk_below (g := gb135) (o := .cells #[.int .u32 0] 55 (0, 0)) (by (with_reducible repeat (first | refine blk_drewN ?_ _ | refine blk_drew ?_ | refine blk_alloc ?_ _)); exact BK135.out) hb); have n2_ := Aside0.mk (below_step (by repeat (first | (with_reducible first | exact HB.out | apply below_alloc | apply pw_below_drewN | apply below_drew1 | refine below_set ?_ GE134.out | refine below_set ?_ GE135.out) | exact HB.out)) hb); clear BK134; clear BK135; clear HB; have BK134 := n0_; have BK135 := n1_; have HB := n2_; clear n0_ n1_ n2_; (try clear hb); (try clear hb2); (try clear hk); (try clear hi)))
      have n0_ := Aside0.mk (blk_drew BK134.out)
      have n1_ := Aside0.mk (blk_drew BK135.out)
      have n2_ := Aside0.mk (below_drew1 HB.out)
      clear BK134
      clear BK135
      clear HB
      have BK134 := n0_
      have BK135 := n1_
      have HB := n2_
      clear n0_ n1_ n2_
      refine start_ (n := 7) (S := fun w' => w'.cell? ⟨gb134, 0, none⟩ = some (.int .u32 a0_0)) (ds := [6]) #[false, false, false, false, false, false, false] (by kernel_rfl) rfl rfl ((blk_cell BK134.out 0).trans rfl) (fun hHeld => ?_)
      generalize w11.drew = w12 at BK134 BK135 HB hHeld ⊢
      refine pure_ (i := 0) (N := some 8) (v := ?_) (a' := ?_) #[true, false, false, false, false, false, false] rfl rfl (by kernel_rfl) (fun _ _ _ h => h) (Or.inl ⟨by rfl, ?_⟩) ?_ ?_
      rotate_left
      · intro w'
        go_simp
        with_reducible rfl
      rotate_left
      · simp only [Act.put, List.setIfInBounds_toArray, List.set_cons_zero, List.set_cons_succ, i64_w, i32_w]
        rfl
      refine pure_ (i := 2) (N := some 10) (v := ?_) (a' := ?_) #[true, false, true, false, false, false, false] rfl rfl (by kernel_rfl) (fun _ _ _ h => h) (Or.inl ⟨by rfl, ?_⟩) ?_ ?_
      rotate_left
      · intro w'
        go_simp
        with_reducible rfl
      rotate_left
      · simp only [Act.put, List.setIfInBounds_toArray, List.set_cons_zero, List.set_cons_succ, i64_w, i32_w]
        rfl
      refine pure_ (i := 3) (N := some 11) (v := ?_) (a' := ?_) #[true, false, true, true, false, false, false] rfl rfl (by kernel_rfl) (fun _ _ _ h => h) (Or.inl ⟨by rfl, ?_⟩) ?_ ?_
      rotate_left
      · intro w'
        go_simp
        with_reducible rfl
      rotate_left
      · simp only [Act.put, List.setIfInBounds_toArray, List.set_cons_zero, List.set_cons_succ, i64_w, i32_w]
        rfl
      refine take_ (i := 1) (N := some 9) (v := ?_) (a' := ?_) #[true, true, true, true, false, false, false] rfl rfl (by kernel_rfl) (fun _ _ _ h => h) (Or.inl ⟨by rfl, ?_⟩) hHeld ?_ ?_
      rotate_left
      · intro w' s0
        go_simp
        with_reducible rfl
      rotate_left
      · simp only [Act.put, List.setIfInBounds_toArray, List.set_cons_zero, List.set_cons_succ, i64_w, i32_w]
        rfl
      refine pure_ (i := 4) (N := some 12) (v := ?_) (a' := ?_) #[true, true, true, true, true, false, false] rfl rfl (by kernel_rfl) (fun _ _ _ h => h) (Or.inl ⟨by rfl, ?_⟩) ?_ ?_
      rotate_left
      · intro w'
        go_simp
        with_reducible rfl
      rotate_left
      · simp only [Act.put, List.setIfInBounds_toArray, List.set_cons_zero, List.set_cons_succ, i64_w, i32_w]
        rfl
      refine pure_ (i := 5) (N := some 13) (v := ?_) (a' := ?_) #[true, true, true, true, true, true, false] rfl rfl (by kernel_rfl) (fun _ _ _ h => h) (Or.inl ⟨by rfl, ?_⟩) ?_ ?_
      rotate_left
      · intro w'
        go_simp
        with_reducible rfl
      rotate_left
      · simp only [Act.put, List.setIfInBounds_toArray, List.set_cons_zero, List.set_cons_succ, i64_w, i32_w]
        rfl
      refine last_ (i := 6) (N := none) #[true, true, true, true, true, true, true] rfl rfl (by kernel_rfl) (by decide) (fun K hK => ?_)
      have hs13 : w12.cell? ⟨gb134, 0, none⟩ = some (.int .u32 a0_0) := (blk_cell BK134.out 0).trans rfl
      have hfs13 := blk_frozen BK134.out 0
      have hns13_1 := NB135_134.out
      have hms13_1 := NB134_135.out
      refine skip_ (w1 := ?_) (by rfl) rfl ?_ ?_
      rotate_left
      · go_simp
        rfl
      refine hK.out _ _ ?_
      clear hK K
      refine done_ (by kernel_rfl) ?_
      have hcz14_0 : w12.cell? ⟨gb134, 0, none⟩ = some (.int .u32 a0_0) := (blk_cell BK134.out 0).trans rfl
      have hfz14_0 := blk_frozen BK134.out 0
      have hcz15_0 : w12.cell? ⟨gb135, 0, none⟩ = some (.int .u32 0) := (blk_cell BK135.out 0).trans rfl
      have hfz15_0 := blk_frozen BK135.out 0
      try go_wp2
      refine bodyPost_ret (results_cell_row rfl _ _ gb135 55 #[.int .u32 (Go.bits .andNot .u32 a0_0 (ji6))] (0, 0) _ rfl (by (with_reducible repeat (first | refine blk_drewN ?_ _ | refine blk_drew ?_ | refine blk_alloc ?_ _)); refine blk_put (cs := #[.int .u32 0]) ?_ 0 _ rfl; (with_reducible repeat (first | refine blk_drewN ?_ _ | refine blk_drew ?_ | refine blk_alloc ?_ _)); refine blk_far ?_ NB135_134.out _; (with_reducible repeat (first | refine blk_drewN ?_ _ | refine blk_drew ?_ | refine blk_alloc ?_ _)); exact BK135.out) Tryd.underlying55 rfl (by kernel_rfl)) rfl ?_
      exact ⟨by first | rfl | (simp [errW_none, errW_some] <;> rfl) | (simp only [← hji6]; first | rfl | (simp [errW_none, errW_some] <;> rfl)) | (simp [*, errW_none, errW_some] <;> rfl), by repeat (first | (with_reducible first | exact HB.out | apply below_alloc | apply pw_below_drewN | apply below_drew1 | refine below_set ?_ GE134.out | refine below_set ?_ GE135.out) | exact HB.out)⟩
    · rw [if_neg c5] at H
      exact absurd H (by simp)
  · replace c4 := Bool.eq_false_iff.mpr c4
    subst c4
    have H1 : (some a0_0) = some r := by rw [if_neg (show ¬ (false = true) by decide)] at H; exact H
    clear H
    have H := H1
    clear H1
    obtain rfl := Option.some.inj H
    go_enter Tryd.func67, Tryd.ntmps67
    go_wp2_with (first | ((with_reducible refine gate_dst (N := 2) rfl ?_); refine box_event ?hg (N := 2) ?hd (cs := #[.int .u32 a0_0]) (t := 55) ?hr ?_; (case hd => rfl); (case hg => rfl); (case hr => first | (go_simp; done) | (go_simp; rfl)); intro gb134 hg w16 hbox hb; have n0_ := Aside0.mk (below_step (by repeat (first | (with_reducible first | exact HB.out | apply below_alloc | apply pw_below_drewN | apply below_drew1) | exact HB.out)) hb); have n1_ := Aside0.mk (hbox); have n2_ := Aside0.mk ((by rw [hg]; exact (below_size (by repeat (first | (with_reducible first | exact HB.out | apply below_alloc | apply pw_below_drewN | apply below_drew1) | exact HB.out))) : w.heap.size ≤ gb134)); have n3_ := Aside0.mk ((by rw [hg]; exact (below_size (by repeat (first | (with_reducible first | exact HB.out | apply below_alloc | apply pw_below_drewN | apply below_drew1) | exact HB.out))) : w.heap.size ≤ gb134)); clear HB; have HB := n0_; have BK134 := n1_; have GW134 := n2_; have GE134 := n3_; clear n0_ n1_ n2_ n3_; clear hb hbox hg) | ((with_reducible refine gate_dst (N := 4) rfl ?_); refine box_event ?hg (N := 4) ?hd (cs := #[.int .u32 0]) (t := 55) ?hr ?_; (case hd => rfl); (case hg => rfl); (case hr => first | (go_simp; done) | (go_simp; rfl)); intro gb135 hg w17 hbox hb; have n0_ := Aside0.mk (blk_below (g := gb134) (o := .cells #[.int .u32 a0_0] 55 (0, 0)) (by (with_reducible repeat (first | refine blk_drewN ?_ _ | refine blk_drew ?_ | refine blk_alloc ?_ _)); exact BK134.out) hb); have n1_ := Aside0.mk (below_step (by repeat (first | (with_reducible first | exact HB.out | apply below_alloc | apply pw_below_drewN | apply below_drew1 | refine below_set ?_ GE134.out) | exact HB.out)) hb); have n2_ := Aside0.mk (hbox); have n3_ := Aside0.mk ((by rw [hg]; exact (below_size (by repeat (first | (with_reducible first | exact HB.out | apply below_alloc | apply pw_below_drewN | apply below_drew1 | refine below_set ?_ GE134.out) | exact HB.out))) : w.heap.size ≤ gb135)); have n4_ := Aside0.mk ((by rw [hg]; exact (below_size (by repeat (first | (with_reducible first | exact HB.out | apply below_alloc | apply pw_below_drewN | apply below_drew1 | refine below_set ?_ GE134.out) | exact HB.out))) : w.heap.size ≤ gb135)); have n5_ := Aside0.mk ((by rw [hg]; exact Nat.ne_of_lt (blk_lt (g := gb134) (o := .cells #[.int .u32 a0_0] 55 (0, 0)) (by (with_reducible repeat (first | refine blk_drewN ?_ _ | refine blk_drew ?_ | refine blk_alloc ?_ _)); exact BK134.out)) : gb134 ≠ gb135)); have n6_ := Aside0.mk ((by rw [hg]; exact Nat.ne_of_gt (blk_lt (g := gb134) (o := .cells #[.int .u32 a0_0] 55 (0, 0)) (by (with_reducible repeat (first | refine blk_drewN ?_ _ | refine blk_drew ?_ | refine blk_alloc ?_ _)); exact BK134.out)) : gb135 ≠ gb134)); clear BK134; clear HB; have BK134 := n0_; have HB := n1_; have BK135 := n2_; have GW135 := n3_; have GE135 := n4_; have NB134_135 := n5_; have NB135_134 := n6_; clear n0_ n1_ n2_ n3_ n4_ n5_ n6_; clear hb hbox hg; have hnb18 := NB134_135.out; have hnc18 := NB135_134.out; have hcz19_0 : w17.cell? ⟨gb134, 0, none⟩ = some (.int .u32 a0_0) := (blk_cell BK134.out 0).trans rfl; have hfz19_0 := blk_frozen BK134.out 0) | ((with_reducible refine gate_callee (f := 89) rfl ?_); refine goesL_ (some 7) rfl rfl Tryd.func89 (by kernel_rfl) rfl #[.agg #[.int .u32 a0_0], .int .i64 a1] rfl (by (try simp only [List.map_toArray, List.map_cons, List.map_nil]); first | done | rfl | (simp only [List.length_drop, List.length_take]; rfl)) ?_; (with_reducible refine (bits_Set_uint32_within.calls a0_0 a1 false _ A3.out).mono ?_); rintro e w20 ⟨rfl, hb⟩; refine ⟨_, rfl, ?_⟩; have n0_ := Aside0.mk (blk_below (g := gb134) (o := .cells #[.int .u32 a0_0] 55 (0, 0)) (by (with_reducible repeat (first | refine blk_drewN ?_ _ | refine blk_drew ?_ | refine blk_alloc ?_ _)); exact BK134.out) hb); have n1_ := Aside0.mk (blk_below (g := gb135) (o := .cells #[.int .u32 0] 55 (0, 0)) (by (with_reducible repeat (first | refine blk_drewN ?_ _ | refine blk_drew ?_ | refine blk_alloc ?_ _)); exact BK135.out) hb); have n2_ := Aside0.mk (below_step (by repeat (first | (with_reducible first | exact HB.out | apply below_alloc | apply pw_below_drewN | apply below_drew1 | refine below_set ?_ GE134.out | refine below_set ?_ GE135.out) | exact HB.out)) hb); clear BK134; clear BK135; clear HB; have BK134 := n0_; have BK135 := n1_; have HB := n2_; clear n0_ n1_ n2_; (try clear hb); (try clear hb2); (try clear hk); (try clear hi); have hcz21_0 : w20.cell? ⟨gb134, 0, none⟩ = some (.int .u32 a0_0) := (blk_cell BK134.out 0).trans rfl; have hfz21_0 := blk_frozen BK134.out 0; have hcz22_0 : w20.cell? ⟨gb135, 0, none⟩ = some (.int .u32 0) := (blk_cell BK135.out 0).trans rfl; have hfz22_0 := blk_frozen BK135.out 0))
    refine bodyPost_ret (results_cell_row rfl _ _ gb135 55 #[.int .u32 a0_0] (0, 0) _ rfl (by (with_reducible repeat (first | refine blk_drewN ?_ _ | refine blk_drew ?_ | refine blk_alloc ?_ _)); refine blk_put (cs := #[.int .u32 0]) ?_ 0 _ rfl; (with_reducible repeat (first | refine blk_drewN ?_ _ | refine blk_drew ?_ | refine blk_alloc ?_ _)); exact BK135.out) Tryd.underlying55 rfl (by kernel_rfl)) rfl ?_
    exact ⟨by first | rfl | (simp [errW_none, errW_some] <;> rfl) | (simp [*, errW_none, errW_some] <;> rfl), by repeat (first | (with_reducible first | exact HB.out | apply below_alloc | apply pw_below_drewN | apply below_drew1 | refine below_set ?_ GE134.out | refine below_set ?_ GE135.out) | exact HB.out)⟩
section
open Go Go.Lib Go.Proofs.YtfgmapnanaahaaaDoorW.BitsM Go.Proofs.YtfgmapnanaahaaaDoorW.PrintMore
theorem without32_eq (a : Nat) (h : a < 4294967296) (x : Nat) (hx : x < 32) : bits_Set_uint32_Without.f (a : Int) (x : Int) = some ((a &&& (4294967295 - 2 ^ x) : Nat) : Int) := by
  unfold bits_Set_uint32_Without.f
  rw [within32_eq]
  simp only [Option.bind_some]
  rw [decide_eq_true (show (0 : Int) ≤ (x : Int) by omega), decide_eq_true (show (x : Int) < 32 by omega), Bool.true_and, if_pos rfl, if_pos (by omega)]
  have hp : 0 < 2 ^ x := Nat.two_pow_pos x
  have hl : 2 ^ x < 2 ^ 32 := Nat.pow_lt_pow_right (by decide) hx
  have hl2 : 2 ^ x < 4294967296 := hl
  have e : shl .u32 1 (x : Int) = ((2 ^ x : Nat) : Int) := by
    unfold shl
    rw [Int.toNat_natCast, Nat.min_eq_left (show x ≤ IntKind.u32.bits by show x ≤ 32; omega), Int.one_mul, show ((2 : Int) ^ x) = ((2 ^ x : Nat) : Int) by simp, IntKind.wrap_u32']
    omega
  rw [e, u32_andNot_nat a (2 ^ x) h hl2]
end


/-! ### bits_Set_uint32_High: function 68 -/
def bits_Set_uint32_High.f (a0_0 : Int) : Option (Int) := (bits_Len64.f (IntKind.u64.wrap (a0_0))).bind fun t138 => (some (wrap64 (t138 - 1)))
set_option maxHeartbeats 8000000 in
set_option maxRecDepth 100000 in
theorem bits_Set_uint32_High.calls (a0_0 : Int) (r : Int) (w : World) (h : bits_Set_uint32_High.f a0_0 = some r) :
    Calls Tryd.prog 68 #[.agg #[.int .u32 a0_0]] w fun e w' => e = .returned (.int .i64 r) ∧ Below w.heap.size w w' := by
  have hu55 := Tryd.underlying55
  have HB := Aside0.mk (Below.refl w.heap.size w)
  have H : ((bits_Len64.f (IntKind.u64.wrap (a0_0))).bind fun t138 => (some (wrap64 (t138 - 1)))) = some r := h
  clear h
  replace H := Option.bind_eq_some_iff.mp H
  obtain ⟨t138, A20, H⟩ := H
  replace H : (some (wrap64 (t138 - 1))) = some r := H
  have A2 := Aside0.mk A20
  clear A20
  obtain rfl := Option.some.inj H
  go_enter Tryd.func68, Tryd.ntmps68
  go_wp2_with (first | ((with_reducible refine gate_dst (N := 1) rfl ?_); refine box_event ?hg (N := 1) ?hd (cs := #[.int .u32 a0_0]) (t := 55) ?hr ?_; (case hd => rfl); (case hg => rfl); (case hr => first | (go_simp; done) | (go_simp; rfl)); intro gb137 hg w3 hbox hb; have n0_ := Aside0.mk (below_step (by repeat (first | (with_reducible first | exact HB.out | apply below_alloc | apply pw_below_drewN | apply below_drew1) | exact HB.out)) hb); have n1_ := Aside0.mk (hbox); have n2_ := Aside0.mk ((by rw [hg]; exact (below_size (by repeat (first | (with_reducible first | exact HB.out | apply below_alloc | apply pw_below_drewN | apply below_drew1) | exact HB.out))) : w.heap.size ≤ gb137)); have n3_ := Aside0.mk ((by rw [hg]; exact (below_size (by repeat (first | (with_reducible first | exact HB.out | apply below_alloc | apply pw_below_drewN | apply below_drew1) | exact HB.out))) : w.heap.size ≤ gb137)); clear HB; have HB := n0_; have BK137 := n1_; have GW137 := n2_; have GE137 := n3_; clear n0_ n1_ n2_ n3_; clear hb hbox hg; have hcz4_0 : w3.cell? ⟨gb137, 0, none⟩ = some (.int .u32 a0_0) := (blk_cell BK137.out 0).trans rfl; have hfz4_0 := blk_frozen BK137.out 0) | ((with_reducible refine gate_callee (f := 65) rfl ?_); refine goesL_ (some 6) rfl rfl Tryd.func65 (by kernel_rfl) rfl #[.int .u64 (IntKind.u64.wrap (a0_0))] rfl (by (try simp only [List.map_toArray, List.map_cons, List.map_nil]); first | done | rfl | (simp only [List.length_drop, List.length_take]; rfl)) ?_; (with_reducible refine (bits_Len64.calls (IntKind.u64.wrap (a0_0)) t138 _ A2.out).mono ?_); rintro e w' ⟨rfl, ⟨nd, rfl⟩⟩; refine ⟨_, rfl, ?_⟩))
  go_ret
  exact ⟨by first | rfl | (simp [errW_none, errW_some] <;> rfl) | (simp [*, errW_none, errW_some] <;> rfl), by repeat (first | (with_reducible first | exact HB.out | apply below_alloc | apply pw_below_drewN | apply below_drew1 | refine below_set ?_ GE137.out) | exact HB.out)⟩
section
open Go Go.Lib Go.Proofs.YtfgmapnanaahaaaDoorW.BitsM Go.Proofs.YtfgmapnanaahaaaDoorW.PrintMore
theorem high32_eq (a : Nat) (h : a < 4294967296) : bits_Set_uint32_High.f (a : Int) = some (lastOf (pl a 0)) := by
  unfold bits_Set_uint32_High.f bits_Len64.f
  have c : IntKind.u64.wrap (a : Int) = (a : Int) := by rw [IntKind.wrap_u64]; omega
  rw [c]
  rw [if_pos (by omega), Int.toNat_natCast]
  simp only [Option.bind_some]
  have hb := Lib.bitLen_le a 64 (by decide) (by omega)
  rw [high_last a (by omega)]
  congr 1
  unfold wrap64; omega
end


/-! ### bits_Set_uint32_Down_1: function 66 -/
section
open Go Go.Lib Go.Proofs.YtfgmapnanaahaaaDoorW.Rng Go.Proofs.YtfgmapnanaahaaaDoorW.BitsM Go.Proofs.YtfgmapnanaahaaaDoorW.Tab
attribute [local go_sem] Oper.semAt_some
/-- Cells from b0 on lie as they lay. -/
def KeptFrom (b0 : Nat) (W W' : World) : Prop := (∀ k c t, b0 ≤ k → W.heap[k]? = some (.cells c t (0, 0)) → W'.heap[k]? = some (.cells c t (0, 0))) ∧ W.heap.size ≤ W'.heap.size
theorem KeptFrom.refl (b0 : Nat) (W : World) : KeptFrom b0 W W := ⟨fun _ _ _ _ h => h, Nat.le_refl _⟩
theorem KeptFrom.trans {b0 : Nat} {X Y Z : World} (h : KeptFrom b0 X Y) (k : KeptFrom b0 Y Z) : KeptFrom b0 X Z := ⟨fun i c t hi hx => k.1 i c t hi (h.1 i c t hi hx), Nat.le_trans h.2 k.2⟩
theorem KeptFrom.put {b0 l : Nat} {W : World} {o o' : Obj} (h : W.heap[l]? = some o) (hc : o.isCells = false) : KeptFrom b0 W (W.putObj l o') := by
  refine ⟨fun k c t hk hx => ?_, by simp⟩
  have hne : k ≠ l := by
    rintro rfl
    rw [h] at hx
    injection hx with hx
    subst hx
    cases hc
  exact (World.putObj_heap_other hne).trans hx
theorem KeptFrom.setCell {b0 B : Nat} {W : World} (hp : B < b0) (v : Value) : KeptFrom b0 W (W.setCell ⟨B, 0, none⟩ v) :=
  ⟨fun k c t hk hx => ((grownBy_setCell' W B v).block k (Array.getElem?_eq_some_iff.1 hx).1 (fun e => by injection e; omega)).trans hx, (grownBy_setCell' W B v).size⟩
/-- the word less its greatest number -/
theorem pl_less (b : Nat) (hb : b < 4294967296) (h0 : b ≠ 0) : ∃ x : Nat, x < 32 ∧ lastOf (pl b 0) = (x : Int) ∧ pl b 0 = pl (b &&& (4294967295 - 2 ^ x)) 0 ++ [x] ∧ (b &&& (4294967295 - 2 ^ x)) < b := by
  obtain ⟨h1, h2, h3⟩ := lastOf_pfr b 64
  have hpl : pfr b 64 0 = pl b 0 := rfl
  rw [hpl] at h1 h2 h3
  have hbit : ∀ j, 32 ≤ j → b.testBit j = false := fun j hj => lt_of_bits (W := 32) hb hj
  by_cases hn : pl b 0 = []
  · exfalso
    apply h0
    apply Nat.eq_of_testBit_eq
    intro j
    rw [Nat.zero_testBit]
    by_cases hj : j < 64
    · cases hbj : b.testBit j with
      | false => rfl
      | true =>
        have := (mem_pl (a := b) (i := 0) (x := j)).2 ⟨Nat.zero_le _, hj, hbj⟩
        rw [hn] at this
        cases this
    · exact hbit j (by omega)
  · obtain ⟨l, x, hlx⟩ : ∃ l x, pl b 0 = l ++ [x] := ⟨_, _, (List.dropLast_concat_getLast hn).symm⟩
    have hxm : x ∈ pl b 0 := by rw [hlx]; simp
    obtain ⟨_, hx64, hxb⟩ := mem_pl.1 hxm
    have hx32 : x < 32 := by
      apply Classical.byContradiction
      intro hc
      rw [hbit x (by omega)] at hxb
      cases hxb
    have hlast : lastOf (pl b 0) = (x : Int) := by rw [hlx, lastOf_snoc]
    rw [hlast] at h3
    have hp : 0 < 2 ^ x := Nat.two_pow_pos x
    have hm : ∀ j, (4294967295 - 2 ^ x).testBit j = (decide (j < 32) && !decide (j = x)) := by
      intro j
      have e : (4294967295 - 2 ^ x) = 2 ^ 32 - (2 ^ x + 1) := by
        have : (2 : Nat) ^ 32 = 4294967296 := rfl
        omega
      rw [e, Nat.testBit_two_pow_sub_succ (Nat.pow_lt_pow_right (by decide) hx32), Nat.testBit_two_pow]
      by_cases hjx : x = j
      · subst hjx; simp
      · have hjx2 : ¬ j = x := fun e => hjx e.symm
        simp [hjx, hjx2]
    have hbits : ∀ j, (b &&& (4294967295 - 2 ^ x)).testBit j = (b.testBit j && !decide (j = x)) := by
      intro j
      rw [Nat.testBit_and, hm]
      by_cases hj : j < 32
      · simp [hj]
      · rw [hbit j (by omega)]; simp
    have hs := pl_split b x (by omega)
    have hs' := pl_split (b &&& (4294967295 - 2 ^ x)) x (by omega)
    have hc1 : pl b x = [x] := by
      rw [pl_of (Nat.le_refl _) hx64 hxb (fun j h h' => absurd h' (by omega))]
      rw [pl_nil (fun y hy hy' => h3 y (by omega) hy')]
    have hc2 : pl (b &&& (4294967295 - 2 ^ x)) x = [] := by
      refine pl_nil (fun y hy hy' => ?_)
      rw [hbits]
      by_cases hyx : y = x
      · simp [hyx]
      · rw [h3 y (by omega) hy']; rfl
    have hc3 : pfr (b &&& (4294967295 - 2 ^ x)) x 0 = pfr b x 0 := pfr_congr (fun j h h' => by
      rw [hbits]
      simp [show j ≠ x by omega])
    refine ⟨x, hx32, hlast, ?_, ?_⟩
    · rw [hs, hs', hc1, hc2, hc3, List.append_nil]
    · have hle : (b &&& (4294967295 - 2 ^ x)) ≤ b := Nat.and_le_left
      refine Nat.lt_of_le_of_ne hle (fun e => ?_)
      have := hbits x
      rw [e, hxb] at this
      simp at this
/-- how far the walk still goes: the word in the box -/
def left32 (v : Value) (w : World) : Nat := match v with | .pointer (some p) => (RowKit.intOf ((w.cell? p).getD undef)).toNat | _ => 0
set_option maxRecDepth 100000 in
set_option maxHeartbeats 2000000 in
/-- The iterator tells the word's numbers, falling. -/
theorem down32_told (a : Nat) (ha : a < 4294967296) (B : Nat) (w : World) (hB : w.heap[B]? = some (.cells #[.int .u32 a] 55 (0, 0))) :
    YieldsL Tryd.prog 66 #[.pointer (some ⟨B, 0, none⟩)] (fun (x : Nat) vs _ => vs = #[.int .i64 x]) (KeptFrom w.heap.size) (pl a 0).reverse w := by
  intro l J Jx W hW hJ hJx hY h0
  have hBW := (hW.block B (blk_lt hB)).trans hB
  have hsz := hW.size
  clear hW hB
  refine callsIn_of_wp Tryd.func66 rfl trivial ?_ rfl
  simp only [Tryd.ntmps66, List.size_toArray, List.length_cons, List.length_nil, Nat.reduceAdd, Nat.reduceSub, Array.replicate_succ, Array.replicate_zero, List.push_toArray, List.append_toArray, List.nil_append, List.cons_append]
  have hc : W.cell? ⟨B, 0, none⟩ = some (.int .u32 a) := (blk_cell hBW 0).trans rfl
  gi_wp2
  gi_loopw [3] (fun v wr => ∃ (b : Nat) (pre : List Nat) (g : Nat), v = .pointer (some ⟨g, 0, none⟩) ∧ w.heap.size ≤ g ∧ Boxed wr g 55 (.int .u32 b) ∧ b < 4294967296 ∧ (pl a 0).reverse = pre ++ (pl b 0).reverse ∧ J pre wr) (fun v wr => left32 v wr)
  case atStart => exact ⟨a, [], _, rfl, hsz, Boxed.new _ _ _, ha, rfl, hJ.alloc _ h0⟩
  case round =>
    obtain ⟨b, pre, g, rfl, hg, hbox, hb, hp, hJp⟩ := hrel
    have hcb := hbox.cell
    by_cases hb0 : b = 0
    · subst hb0
      gi_wp2
      go_end0
      have e0 : (pl 0 0).reverse = [] := by decide +kernel
      rw [e0, List.append_nil] at hp
      exact ⟨⟨_, rfl⟩, .inl (by rw [hp]; exact hJp)⟩
    · obtain ⟨x, hx, hl, hpx, hlt⟩ := pl_less b hb hb0
      have hne : decide ((b : Int) = 0) = false := decide_eq_false (by omega)
      have hne2 : ((b : Int) == 0) = false := by simp; omega
      have hrev : (pl b 0).reverse = x :: (pl (b &&& (4294967295 - 2 ^ x)) 0).reverse := by rw [hpx, List.reverse_append]; rfl
      rw [hrev] at hp
      have hpre : pre ++ [x] <+: (pl a 0).reverse := ⟨(pl (b &&& (4294967295 - 2 ^ x)) 0).reverse, by rw [hp]; simp⟩
      have HH := Aside0.mk (high32_eq b hb)
      have HP := Aside0.mk hp
      rw [hl] at HH
      have HY := Aside0.mk (fun W2 h => hY pre x #[.int .i64 x] W2 h hpre rfl)
      have HPRE := Aside0.mk hpre
      have HLT := Aside0.mk hlt
      clear hY hp hpre hlt hrev hpx hl
      gi_wp2_with (refine ⟨trivial, ?_⟩; gi_at_call 68; refine (callsIn_wide.2 (bits_Set_uint32_High.calls b x _ HH.out)).mono ?_; rintro e W2 ⟨rfl, hb2⟩; have hJ2 := hJ.below hb2 hJp; have hbox2 := (hb2.block g hbox.lt).trans hbox; obtain ⟨fn, tmps, assign, body, hy, hR⟩ := HY.out W2 hJ2)
      refine hR.mono ?_
      rintro e W3 (⟨rfl, hJ3, hk3⟩ | ⟨rfl, hJx3⟩)
      rotate_left
      · gi_wp2
        refine bodyPost_ret (results_none rfl _ _ _) rfl ?_
        exact ⟨⟨_, rfl⟩, .inr ⟨pre ++ [x], HPRE.out, hJx3⟩⟩
      have hbox3 := hk3.1 g _ _ hg hbox2
      have hc3 : W3.cell? ⟨g, 0, none⟩ = some (.int .u32 b) := (blk_cell hbox3 0).trans rfl
      have HWO := Aside0.mk (without32_eq b hb x hx)
      have HCB := Aside0.mk hcb
      have HSZ := Aside0.mk (Nat.le_trans (Nat.le_trans hg (Nat.le_of_lt hbox.lt)) (Nat.le_trans hb2.size hk3.2))
      clear hk3 hbox3 hbox2 hy hR hJ2 hb2 hc hBW h0 hcb hbox
      gi_wp2
      refine (wpIn_wide (n := 8)).2 ?_
      have hb4 : Boxed (W3.alloc (.cells #[.int .u32 b] 55)) W3.heap.size 55 (.int .u32 b) := Boxed.new _ _ _
      have hl4 : Below W3.heap.size W3 (W3.alloc (.cells #[.int .u32 b] 55)) := (Below.refl _ W3).alloc (Nat.le_refl _) _
      generalize W3.alloc (.cells #[.int .u32 b] 55) = W4 at *
      have hcd : W4.drew.cell? ⟨W3.heap.size, 0, none⟩ = some (.int .u32 b) := hb4.cell
      have HB4 := Aside0.mk hb4
      have HL4 := Aside0.mk (below_drew hl4)
      clear hb4 hl4 hc3
      -- REGION
      refine start_ (n := 5) (S := fun w' => w'.cell? ⟨W3.heap.size, 0, none⟩ = some (.int .u32 b)) (ds := [4]) #[false, false, false, false, false] (by kernel_rfl) rfl rfl (hcd) (fun hHeld => ?_)
      refine take_ (i := 0) (N := (some 8)) (v := ?_) (a' := ?_) #[true, false, false, false, false] rfl rfl (by kernel_rfl) (fun _ _ _ h => h) (Or.inl ⟨by rfl, ?_⟩) hHeld ?_ ?_
      rotate_left
      · intro w' s0
        go_simp
        with_reducible rfl
      rotate_left
      · simp only [Act.put, List.setIfInBounds_toArray, List.set_cons_zero, List.set_cons_succ, i64_w, i32_w]
        rfl
      refine take_ (i := 1) (N := (some 9)) (v := ?_) (a' := ?_) #[true, true, false, false, false] rfl rfl (by kernel_rfl) (fun _ _ _ h => h) (Or.inl ⟨by rfl, ?_⟩) hHeld ?_ ?_
      rotate_left
      · intro w' s0
        go_simp
        with_reducible rfl
      rotate_left
      · simp only [Act.put, List.setIfInBounds_toArray, List.set_cons_zero, List.set_cons_succ, i64_w, i32_w]
        rfl
      refine one_ (i := 2) (N := (some 10)) #[true, true, true, false, false] rfl rfl (by kernel_rfl) (by decide) (fun K hK => ?_)
      refine goes_ Tryd.func68 (by kernel_rfl) rfl #[.agg #[.int .u32 b]] (by rfl) rfl rfl (by (try simp only [List.map_toArray, List.map_cons, List.map_nil]); first | done | rfl) ?_
      (with_reducible refine (bits_Set_uint32_High.calls b x _ HH.out).mono ?_)
      rintro e w2 ⟨rfl, hb4⟩
      refine ⟨_, rfl, ?_⟩
      have hbox5 := (hb4.block _ (show W3.heap.size < W4.drew.heap.size from HB4.out.lt)).trans (show W4.drew.heap[W3.heap.size]? = _ from HB4.out)
      have hbl5 := HL4.out.trans (hb4.mono HL4.out.size)
      have HB5 := Aside0.mk (show Boxed w2 W3.heap.size 55 (.int .u32 b) from hbox5)
      have HL5 := Aside0.mk hbl5
      have hc5 := HB5.out.cell
      clear hbox5 hbl5 hb4 HB4 HL4 hcd
      refine hK.out _ _ (hc5) (fun hHeld => ?_)
      clear hK K
      refine norm_ (a' := ?_) ?_ ?_
      rotate_left
      · show Act.put _ (some 10) _ = _
        simp only [Act.put, List.setIfInBounds_toArray, List.set_cons_zero, List.set_cons_succ, i64_w, i32_w]
        rfl
      refine one_ (i := 3) (N := (some 11)) #[true, true, true, true, false] rfl rfl (by kernel_rfl) (by decide) (fun K hK => ?_)
      refine goes_ Tryd.func67 (by kernel_rfl) rfl #[.agg #[.int .u32 b], .int .i64 x] (by rfl) rfl rfl (by (try simp only [List.map_toArray, List.map_cons, List.map_nil]); first | done | rfl) ?_
      (with_reducible refine (bits_Set_uint32_Without.calls b x _ _ HWO.out).mono ?_)
      rintro e w3 ⟨rfl, hb6⟩
      refine ⟨_, rfl, ?_⟩
      have hbox6 := (hb6.block _ (show W3.heap.size < w2.heap.size from HB5.out.lt)).trans HB5.out
      have hbl6 := HL5.out.trans (hb6.mono HL5.out.size)
      have HB6 := Aside0.mk (show Boxed w3 W3.heap.size 55 (.int .u32 b) from hbox6)
      have HL6 := Aside0.mk hbl6
      have hc6 := HB6.out.cell
      have hf6 := HB6.out.frozen
      clear hbox6 hbl6 hb6 HB5 HL5 hc5
      refine hK.out _ _ (hc6) (fun hHeld => ?_)
      clear hK K
      refine norm_ (a' := ?_) ?_ ?_
      rotate_left
      · show Act.put _ (some 11) _ = _
        simp only [Act.put, List.setIfInBounds_toArray, List.set_cons_zero, List.set_cons_succ, i64_w, i32_w]
        rfl
      refine last_ (i := 4) (N := none) #[true, true, true, true, true] rfl rfl (by kernel_rfl) (by decide) (fun K hK => ?_)
      refine skip_ (w1 := w3.setCell ⟨W3.heap.size, 0, none⟩ (.int .u32 ((b &&& (4294967295 - 2 ^ x) : Nat) : Int))) (by rfl) rfl ?_ ?_
      · go_simp
      refine hK.out _ _ ?_
      clear hK K
      refine done_ (by kernel_rfl) ?_
      -- END
      have HS5 := Aside0.mk (HB6.out.set (.int .u32 ((b &&& (4294967295 - 2 ^ x) : Nat) : Int)))
      have hJ5 := hJ.below (HL6.out.setCell (p := ⟨W3.heap.size, 0, none⟩) (Nat.le_refl _) (.int .u32 ((b &&& (4294967295 - 2 ^ x) : Nat) : Int))) hJ3
      refine And.intro ⟨_, _, _, _, _, _, _, _, _, _, _, _, _, _, ⟨b &&& (4294967295 - 2 ^ x), pre ++ [x], W3.heap.size, rfl, HSZ.out, HS5.out, Nat.lt_trans HLT.out hb, by rw [HP.out]; simp, hJ5⟩, rfl⟩ ?_
      show left32 (.pointer (some ⟨W3.heap.size, 0, none⟩)) (w3.setCell ⟨W3.heap.size, 0, none⟩ (.int .u32 ((b &&& (4294967295 - 2 ^ x) : Nat) : Int))) < left32 (.pointer (some ⟨g, 0, none⟩)) wr
      unfold left32
      simp only [HS5.out.cell, HCB.out, Option.getD_some, RowKit.intOf, Int.toNat_natCast]
      exact HLT.out
end


/-! ### bits_Set_uint32_Down: function 31 -/
section
open Go
set_option maxHeartbeats 1000000 in
theorem down32_made (a : Int) (w : World) : Calls Tryd.prog 31 #[.agg #[.int .u32 a]] w fun e w' => e = .returned (.func (.func 66) #[] #[.pointer (some ⟨w.heap.size, 0, none⟩)]) ∧ w' = w.alloc (.cells #[.int .u32 a] 55) := by
  go_enter Tryd.func31, Tryd.ntmps31
  go_wp2
  go_ret
  exact ⟨rfl, rfl⟩
end


end Go.Proofs.YtfgmapnanaahaaaDoor.PBdn
