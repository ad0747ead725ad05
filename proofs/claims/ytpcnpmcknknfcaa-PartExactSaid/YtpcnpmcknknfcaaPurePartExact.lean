/- PartExact's pure statement. -/
import Derived.Test.YtpcnpmcknknfcaaPureRef2
import Derived.Test.YtpcnpmcknknfcaaPPexx2
import Derived.Test.YtpcnpmcknknfcaaPPexx6
import Derived.Test.YtpcnpmcknknfcaaPPexx10
import Derived.Test.YtpcnpmcknknfcaaPPexx15
import Derived.Test.YtpcnpmcknknfcaaPPexx16
namespace Go.Proofs.Ytpcnpmcknknfcaa.Pure
open Go.RowKit Go.Proofs.Ytpcnpmcknknfcaa.PPex Go.Proofs.YtpcnpmcknknfcaaW.PrintWords Go.Proofs.YtpcnpmcknknfcaaW.PrintLast Go.Proofs.YtpcnpmcknknfcaaW.PrintMore Go.Proofs.YtpcnpmcknknfcaaW.Mine
set_option linter.unusedVariables false
theorem wakes_ev : Ev (fun k => provostlaw02_wakes.f k) true := Ev.of provostlaw02_wakes.mono (k := 30) (by decide +kernel)
/-! the pattern ahead -/
theorem fill_len : ∀ m u, (fillS u m).length = m
  | 0, _ => rfl
  | m + 1, u => by simp [fillS, fill_len m]
theorem fill_legal : ∀ m u : Nat, legalF (u : Int) (fillS u m) = true
  | 0, _ => rfl
  | m + 1, u => by
    have h := fill_legal m (u + 1)
    simp only [fillS, legalF, Bool.and_eq_true, decide_eq_true_eq]
    refine ⟨by omega, ?_⟩
    rwa [show max (u : Int) ((u : Int) + 1) = ((u + 1 : Nat) : Int) by omega]
theorem fill_rk : ∀ m u : Nat, rkS u (fillS u m) + 1 = WN m u
  | 0, _ => rfl
  | m + 1, u => by
    have h := fill_rk m (u + 1)
    simp only [fillS, rkS, fill_len, Int.toNat_natCast, WN]
    rw [Nat.max_eq_right (by omega)]
    omega
theorem prev_none : ∀ (l : List Int) (u : Nat), legalF (u : Int) l = true → prevS u l = none → rkS u l = 0
  | [], u, _, _ => rfl
  | x :: r, u, h, hn => by
    obtain ⟨m, rfl, hm, hr⟩ := legal_cons h
    rw [prevS, Int.toNat_natCast] at hn
    cases e : prevS (max u (m + 1)) r with
    | some r' => rw [e] at hn; cases hn
    | none =>
      rw [e] at hn
      by_cases hx : (m : Int) = 0
      · obtain rfl : m = 0 := by omega
        have := prev_none r _ hr e
        simp only [rkS, Int.toNat_natCast]
        omega
      · simp only [if_neg hx] at hn; cases hn
theorem prev_some : ∀ (l : List Int) (u : Nat) (p : List Int), legalF (u : Int) l = true → prevS u l = some p → legalF (u : Int) p = true ∧ p.length = l.length ∧ rkS u p + 1 = rkS u l
  | [], u, p, _, hn => by cases hn
  | x :: r, u, p, h, hn => by
    obtain ⟨m, rfl, hm, hr⟩ := legal_cons h
    rw [prevS, Int.toNat_natCast] at hn
    cases e : prevS (max u (m + 1)) r with
    | some r' =>
      rw [e] at hn
      injection hn with hn
      subst hn
      obtain ⟨h1, h2, h3⟩ := prev_some r _ r' hr e
      refine ⟨?_, by simp [h2], ?_⟩
      · simp only [legalF, Bool.and_eq_true, decide_eq_true_eq] at h ⊢
        refine ⟨h.1, ?_⟩
        rwa [show max (u : Int) ((m : Int) + 1) = ((max u (m + 1) : Nat) : Int) by omega]
      · simp only [rkS, Int.toNat_natCast, h2]; omega
    | none =>
      rw [e] at hn
      have hz := prev_none r _ hr e
      by_cases hx : (m : Int) = 0
      · simp only [if_pos hx] at hn; cases hn
      · simp only [if_neg hx] at hn
        injection hn with hn
        subst hn
        obtain ⟨q, rfl⟩ : ∃ q, m = q + 1 := ⟨m - 1, by omega⟩
        have e1 : (((q + 1 : Nat) : Int) - 1) = (q : Int) := by omega
        have hf := fill_rk r.length u
        rw [Nat.max_eq_left hm, e1]
        refine ⟨?_, by simp [fill_len], ?_⟩
        · simp only [legalF, Bool.and_eq_true, decide_eq_true_eq]
          refine ⟨by omega, ?_⟩
          rw [show max (u : Int) ((q : Int) + 1) = (u : Int) by omega]
          exact fill_legal _ _
        · simp only [rkS, Int.toNat_natCast, fill_len]
          rw [Nat.max_eq_left hm]
          have : rkS (max u (q + 1 + 1)) r = 0 := hz
          rw [this, Nat.succ_mul]
          omega
/-! what the program tells of any row -/
theorem next_any (a : List Int) : part_Next.f a = some (if isPat a = true then optR (nextS 0 a) else ([], false)) := by
  unfold part_Next.f
  by_cases h : isPat a = true
  · have h' : (decide (a.length ≤ 25) && legalF 0 a) = true := h
    rw [if_pos h', if_pos h, next_all a ((isPat_iff a).1 h).2]
  · have h' : ¬ (decide (a.length ≤ 25) && legalF 0 a) = true := h
    rw [if_neg h', if_neg h]
theorem prev_any (a : List Int) : Ev (fun k => part_Prev.f k a) (if isPat a = true then optR (prevS 0 a) else ([], false)) := by
  by_cases h : isPat a = true
  · rw [if_pos h]
    exact prev_ev a ((isPat_iff a).1 h).1 ((isPat_iff a).1 h).2
  · rw [if_neg h]
    unfold part_Prev.f
    exact Ev.bind (lo_ev a) (ev_neg h (ev_some rfl))
theorem rank_any (a : List Int) : part_Rank.f a = some (if isPat a = true then (((rkS 0 a : Nat) : Int), 0) else (0, 3)) := by
  unfold part_Rank.f
  by_cases h : isPat a = true
  · have h' : (decide (a.length ≤ 25) && legalF 0 a) = true := h
    rw [if_pos h', if_pos h, acc_all a ((isPat_iff a).1 h).1 ((isPat_iff a).1 h).2]
  · have h' : ¬ (decide (a.length ≤ 25) && legalF 0 a) = true := h
    rw [if_neg h', if_neg h]
theorem meet_any (a b : List Int) : Ev (fun k => part_Meet.f k a b) (if pairF a b = true then (of_pat [] (meetL a b), 0) else ([], 3)) := by
  by_cases h : pairF a b = true
  · obtain ⟨h1, h2, h3, h4⟩ := (pair_iff a b).1 h
    rw [if_pos h]; exact meet_ev a b h4 h2 h3 h1
  · rw [if_neg h]
    unfold part_Meet.f
    exact Ev.bind (pair_ev a b) (ev_neg h (ev_some rfl))
theorem join_any (a b : List Int) : Ev (fun k => part_Join.f k a b) (if pairF a b = true then (joinP a b, 0) else ([], 3)) := by
  by_cases h : pairF a b = true
  · obtain ⟨h1, h2, h3, h4⟩ := (pair_iff a b).1 h
    rw [if_pos h]; exact join_ev a b h4 h2 h3 h1
  · rw [if_neg h]
    unfold part_Join.f
    exact Ev.bind (pair_ev a b) (ev_neg h (ev_some rfl))
def okIJ (n : Nat) (i j : Int) : Prop := 0 ≤ i ∧ 0 ≤ j ∧ i < (n : Int) ∧ j < (n : Int)
instance okIJ_dec (n : Nat) (i j : Int) : Decidable (okIJ n i j) := by unfold okIJ; exact inferInstance
theorem merge_bad (a : List Int) (i j : Int) (h : isPat a = true) (hij : ¬ okIJ a.length i j) : Ev (fun k => part_Merge.f k a i j) ([], 1) := by
  unfold okIJ at hij
  unfold part_Merge.f
  have yes : Ev (fun k => part_Merge.j0 k a i j true) ([], 1) := by
    refine ev_succ ?_
    simp only [part_Merge.j0]
    exact ev_pos (by trivial) (ev_some rfl)
  refine Ev.bind (lo_ev a) (ev_pos h ?_)
  by_cases h1 : i < 0
  · exact ev_pos h1 yes
  · refine ev_neg h1 ?_
    by_cases h2 : j < 0
    · exact ev_pos h2 yes
    · refine ev_neg h2 ?_
      by_cases h3 : i ≥ (a.length : Int)
      · exact ev_pos h3 yes
      · refine ev_neg h3 ?_
        rw [decide_eq_true (p := j ≥ (a.length : Int)) (by omega)]
        exact yes
theorem merge_not (a : List Int) (i j : Int) (h : ¬ isPat a = true) : Ev (fun k => part_Merge.f k a i j) ([], 3) := by
  unfold part_Merge.f
  exact Ev.bind (lo_ev a) (ev_neg h (ev_some rfl))
/-! counts -/
def iota (n : Nat) : List Int := (List.range n).map fun (i : Nat) => (i : Int)
theorem iota_succ (n : Nat) : iota (n + 1) = iota n ++ [(n : Int)] := by unfold iota; rw [List.range_succ, List.map_append]; rfl
theorem iota_len (n : Nat) : (iota n).length = n := by simp [iota]
theorem fits_yes (n : Nat) (h : n ≤ 25) : part_fits.f (n : Int) = some true := by unfold part_fits.f; simp; omega
theorem fits_no (n : Int) (h : n < 0 ∨ 25 < n) : part_fits.f n = some false := by unfold part_fits.f; split <;> simp <;> omega
theorem first_yes (n : Nat) (h : n ≤ 25) : part_First.f (n : Int) = some (List.replicate n 0, 0) := by
  unfold part_First.f
  rw [fits_yes n h]
  simp only [Option.bind_some]
  rw [if_pos trivial, if_pos (by omega), Int.toNat_natCast, if_pos (by omega)]
theorem first_no (n : Int) (h : n < 0 ∨ 25 < n) : part_First.f n = some ([], 1) := by
  unfold part_First.f
  rw [fits_no n h]
  rfl
theorem last_yes (n : Nat) (h : n ≤ 25) : Ev (fun k => part_Last.f k (n : Int)) (iota n, 0) := by
  have key : ∀ d i : Nat, n - i = d → i ≤ n → Ev (fun k => part_Last.l0 k (iota i ++ List.replicate (n - i) 0) 0 (n : Int) (i : Int)) (iota n, 0) := by
    intro d
    induction d with
    | zero =>
      intro i hd hi
      obtain rfl : i = n := by omega
      refine ev_succ ?_
      simp only [part_Last.l0]
      rw [Nat.sub_self, List.replicate_zero, List.append_nil]
      exact ev_neg (by omega) (ev_some rfl)
    | succ d ih =>
      intro i hd hi
      refine ev_succ ?_
      simp only [part_Last.l0]
      refine ev_pos (by omega) (ev_pos (by omega) (ev_pos (by simp [iota_len]; omega) ?_))
      have nx := ih (i + 1) (by omega) (by omega)
      rw [iota_succ] at nx
      rw [Int.toNat_natCast, List.set_append_right _ _ (by rw [iota_len]; exact Nat.le_refl _), iota_len, Nat.sub_self, show n - i = (n - (i + 1)) + 1 by omega, List.replicate_succ, List.set_cons_zero, wr (i := (i : Int)) (by omega) (by omega)]
      rw [List.append_assoc, List.singleton_append] at nx
      exact nx
  unfold part_Last.f
  rw [first_yes n h]
  simp only [Option.bind_some, List.length_replicate]
  have := key n 0 (by omega) (by omega)
  simpa [iota] using this
theorem last_no (n : Int) (h : n < 0 ∨ 25 < n) : Ev (fun k => part_Last.f k n) ([], 1) := by
  unfold part_Last.f
  rw [first_no n h]
  simp only [Option.bind_some]
  refine ev_succ ?_
  simp only [part_Last.l0, List.length_nil]
  exact ev_neg (by decide) (ev_some rfl)
theorem counts_ev (n rank : Int) (h0 : 0 ≤ rank) (h1 : rank ≤ 18446744073709551615) : Ev (fun k => provostlaw02_counts.f k n rank) true := by
  unfold provostlaw02_counts.f
  by_cases hn : n < 0 ∨ 25 < n
  · have hb : part_Bell.f n = some (0, 1) := by unfold part_Bell.f; rw [if_pos hn]
    have ha : part_At.f n rank = some ([], 1) := by unfold part_At.f; rw [if_pos hn]
    rw [hb]
    simp only [Option.bind_some]
    rw [first_no n hn]
    simp only [Option.bind_some]
    refine Ev.bind (last_no n hn) ?_
    rw [ha]
    simp only [Option.bind_some]
    have yes : Ev (fun k => provostlaw02_counts.j0 k n rank 0 1 [] 1 [] 1 [] 1 true) true := by
      refine ev_succ ?_
      simp only [provostlaw02_counts.j0]
      exact ev_pos (by trivial) (ev_pos (by trivial) (ev_pos (by trivial) (ev_pos (by trivial) (ev_pos (by trivial) (ev_pos (by trivial) (ev_pos rfl (ev_pos rfl (ev_some rfl))))))))
    by_cases h2 : n < 0
    · exact ev_pos h2 yes
    · refine ev_neg h2 ?_
      rw [decide_eq_true (p := n > 25) (by omega)]
      exact yes
  · obtain ⟨m, rfl⟩ := Int.eq_ofNat_of_zero_le (show 0 ≤ n by omega)
    have hm : m ≤ 25 := by omega
    have hbig := wn_le m 0 (by omega)
    have hb : part_Bell.f (m : Int) = some (((WN m 0 : Nat) : Int), 0) := by unfold part_Bell.f; rw [if_neg hn, Int.toNat_natCast, wy_wn m 0 (by omega)]
    rw [hb]
    simp only [Option.bind_some]
    rw [first_yes m hm]
    simp only [Option.bind_some]
    refine Ev.bind (last_yes m hm) ?_
    obtain ⟨c, e, hce, hc⟩ : ∃ c e, part_At.f (m : Int) rank = some (c, e) ∧ ((rank < (WN m 0 : Nat) ∧ c = atF_go m rank 0 ∧ e = 0) ∨ (¬ rank < (WN m 0 : Nat) ∧ c = [] ∧ e = 1)) := by
      unfold part_At.f
      rw [if_neg hn, if_pos h0, Int.toNat_natCast]
      by_cases hr : rank < (WN m 0 : Nat)
      · rw [if_pos hr]; exact ⟨_, _, rfl, Or.inl ⟨hr, rfl, rfl⟩⟩
      · rw [if_neg hr]; exact ⟨_, _, rfl, Or.inr ⟨hr, rfl, rfl⟩⟩
    rw [hce]
    simp only [Option.bind_some]
    refine ev_neg (by omega) ?_
    rw [decide_eq_false (p := (m : Int) > 25) (by omega)]
    refine ev_succ ?_
    simp only [provostlaw02_counts.j0]
    refine ev_neg (by decide) ?_
    have j2 : Ev (fun k => provostlaw02_counts.j2 k (m : Int) rank c e false) true := by
      refine ev_succ ?_
      simp only [provostlaw02_counts.j2]
      refine ev_neg (by decide) (Ev.bind (rbell_ev m hm) ?_)
      rcases hc with ⟨hr, rfl, rfl⟩ | ⟨hr, rfl, rfl⟩
      · exact ev_neg (by omega) (ev_pos (by trivial) (Ev.bind (rat_ev m hm rank h0 h1) (Ev.bind (ints_ev _ (by rw [atF_len]; omega)) (ev_some rfl))))
      · exact ev_pos (by omega) (ev_pos (by trivial) (ev_some rfl))
    have key : ∀ d i : Nat, m - i = d → i ≤ m → Ev (fun k => provostlaw02_counts.l0 k (m : Int) rank ((WN m 0 : Nat) : Int) 0 (List.replicate m 0) 0 (iota m) 0 c e (iota i) (i : Int)) true := by
      intro d
      induction d with
      | zero =>
        intro i hd hi
        obtain rfl : i = m := by omega
        refine ev_succ ?_
        simp only [provostlaw02_counts.l0]
        refine ev_neg (by omega) (ev_pos (by trivial) (ev_pos (by trivial) (ev_pos (by trivial) (Ev.bind (rbell_ev i hm) (ev_pos (by trivial) ?_)))))
        rw [rfirst_eq i hm]
        simp only [Option.bind_some]
        exact Ev.bind (ints_ev _ (by simp; omega)) (ev_pos rfl (Ev.bind (ints_ev _ (by rw [iota_len]; omega)) j2))
      | succ d ih =>
        intro i hd hi
        refine ev_succ ?_
        simp only [provostlaw02_counts.l0]
        have nx := ih (i + 1) (by omega) (by omega)
        rw [iota_succ] at nx
        rw [wr (i := (i : Int)) (by omega) (by omega)]
        exact ev_pos (by omega) (ev_pos (by rw [iota_len]; omega) nx)
    exact key m 0 (by omega) (by omega)
/-! steps -/
theorem few99 (l : List Int) (h : l.length ≤ 99) : provostlaw02_few.f l 99 = some l := by
  have := few_cut l 99 (by omega)
  rw [List.take_of_length_le h] at this
  exact this
theorem steps_ev (l : List Int) (h99 : l.length ≤ 99) : Ev (fun k => provostlaw02_steps.f k l) true := by
  unfold provostlaw02_steps.f
  rw [few99 l h99]
  simp only [Option.bind_some]
  rw [next_any l]
  simp only [Option.bind_some]
  refine Ev.bind (prev_any l) ?_
  rw [rank_any l]
  simp only [Option.bind_some]
  refine Ev.bind (lo_ev l) (Ev.bind (rlegal_ev l) (ev_neg (by simp) (Ev.bind (psize_ev l) (Ev.bind (rsize_ev l) (ev_pos rfl (Ev.bind (pblocks_ev l) (Ev.bind (rblocks_ev l) ?_)))))))
  have hL : Ev (fun k => provostkeep_Lists.f k (if isPat l = true then blocksOf l (usedF 0 l).toNat else []) (if isPat l = true then blocksOf l (usedF 0 l).toNat else [])) true := by
    by_cases h : isPat l = true
    · obtain ⟨h25, hl⟩ := (isPat_iff l).1 h
      have hu := used_len l 0 hl
      rw [if_pos h]
      refine lists_ev _ (by simp [blocksOf]; omega) (fun x hx => ?_)
      unfold blocksOf at hx
      obtain ⟨v, _, rfl⟩ := List.mem_map.1 hx
      have := idx_len (v : Int) l 0
      omega
    · rw [if_neg h]
      exact lists_ev [] (by simp) (fun x hx => by cases hx)
  refine Ev.bind hL ?_
  refine ev_succ ?_
  simp only [provostlaw02_steps.j0]
  refine ev_neg (by decide) (Ev.bind (rlegal_ev l) ?_)
  by_cases h : isPat l = true
  · obtain ⟨h25, hl⟩ := (isPat_iff l).1 h
    have hlt := rk_lt l 0 hl
    have hbig := wn_le l.length 0 (by omega)
    simp only [if_pos h]
    refine Ev.bind (rrank_ev l h25 hl) (ev_pos trivial (ev_pos rfl (Ev.bind (rbell_ev l.length h25) ?_)))
    have j2 : ∀ x : Bool, x = false → Ev (fun k => provostlaw02_steps.j2 k l (optR (prevS 0 l)).1 (optR (prevS 0 l)).2 ((rkS 0 l : Nat) : Int) x) true := by
      intro x hx
      subst hx
      refine ev_succ ?_
      simp only [provostlaw02_steps.j2]
      refine ev_neg (by decide) ?_
      cases e : prevS 0 l with
      | none => exact ev_neg (by decide) (ev_some rfl)
      | some p =>
        obtain ⟨p1, p2, p3⟩ := prev_some l 0 p hl e
        refine ev_pos rfl ?_
        rw [u64_id _ (by omega) (by omega), show ((rkS 0 l : Nat) : Int) - 1 = ((rkS 0 p : Nat) : Int) by omega]
        have ha := rat_ev l.length h25 ((rkS 0 p : Nat) : Int) (by omega) (by omega)
        rw [← p2, at_rk p 0 p1 (by omega)] at ha
        rw [← p2]
        exact Ev.bind ha (Ev.bind (ints_ev p (by omega)) (ev_pos rfl (ev_some rfl)))
    have j1 : ∀ x : Bool, x = false → Ev (fun k => provostlaw02_steps.j1 k l (optR (nextS 0 l)).1 (optR (nextS 0 l)).2 (optR (prevS 0 l)).1 (optR (prevS 0 l)).2 ((rkS 0 l : Nat) : Int) x) true := by
      intro x hx
      subst hx
      refine ev_succ ?_
      simp only [provostlaw02_steps.j1]
      refine ev_neg (by decide) ?_
      cases e : nextS 0 l with
      | none => exact ev_neg (by decide) (j2 _ rfl)
      | some b =>
        obtain ⟨b1, b2, b3, _⟩ := next_some l 0 b hl e
        have hblt := rk_lt b 0 b1
        rw [b2] at hblt
        refine ev_pos rfl ?_
        rw [u64_id _ (by omega) (by omega), show ((rkS 0 l : Nat) : Int) + 1 = ((rkS 0 b : Nat) : Int) by omega]
        have ha := rat_ev l.length h25 ((rkS 0 b : Nat) : Int) (by omega) (by omega)
        rw [← b2, at_rk b 0 b1 (by omega)] at ha
        have ha2 : Ev (fun k => provostref02_At.f k (l.length : Int) ((rkS 0 b : Nat) : Int)) b := by rw [← b2]; exact ha
        exact Ev.bind ha2 (Ev.bind (ints_ev b (by omega)) (ev_pos rfl (j2 _ rfl)))
    have hnx : (optR (nextS 0 l)).2 = decide (IntKind.u64.wrap (((rkS 0 l : Nat) : Int) + 1) < ((WN l.length 0 : Nat) : Int)) := by
      rw [u64_id _ (by omega) (by omega)]
      cases e : nextS 0 l with
      | none =>
        obtain ⟨h5, _⟩ := next_none l 0 hl e
        exact (decide_eq_false (by omega)).symm
      | some b =>
        obtain ⟨b1, b2, b3, _⟩ := next_some l 0 b hl e
        have hblt := rk_lt b 0 b1
        rw [b2] at hblt
        exact (decide_eq_true (by omega)).symm
    have hpv : (optR (prevS 0 l)).2 = decide (((rkS 0 l : Nat) : Int) > 0) := by
      cases e : prevS 0 l with
      | none =>
        have := prev_none l 0 hl e
        exact (decide_eq_false (by omega)).symm
      | some p =>
        obtain ⟨_, _, p3⟩ := prev_some l 0 p hl e
        exact (decide_eq_true (by omega)).symm
    refine ev_neg (by rw [hnx]; simp) ?_
    exact j1 _ (by rw [hpv]; simp)
  · simp only [if_neg h]
    exact ev_neg (by decide) (ev_neg (by decide) (ev_pos rfl (ev_pos rfl (ev_pos (by trivial) (ev_some rfl)))))
/-! twos -/
theorem twos_j3 (a b : List Int) (x5 x7 : List Int) (x6 x8 : Int) (h5 : (x5, x6) = if pairF a b = true then (of_pat [] (meetL a b), 0) else ([], 3)) (h7 : (x7, x8) = if pairF a b = true then (joinP a b, 0) else ([], 3)) :
    Ev (fun k => provostlaw02_twos.j3 k a b x5 x6 x7 x8) true := by
  refine ev_succ ?_
  simp only [provostlaw02_twos.j3]
  refine Ev.bind (alike_ev a b) ?_
  by_cases h : pairF a b = true
  · rw [if_pos h] at h5 h7
    injection h5 with e5 e6
    injection h7 with e7 e8
    subst e5 e6 e7 e8
    obtain ⟨h1, h2, h3, h4⟩ := (pair_iff a b).1 h
    have hml := meet_len a b h4
    have hg := (join_fin a b h4 h2 h3).1
    exact ev_pos h (ev_pos (by trivial) (ev_pos (by trivial) (Ev.bind (rmeet_ev a b h4 h2 h3 h1) (Ev.bind (ints_ev _ (by rw [of_pat_len]; omega)) (ev_pos rfl (Ev.bind (rjoin_ev a b h4 h2 h3 h1) (Ev.bind (ints_ev _ (by rw [hg.1]; omega)) (ev_some rfl))))))))
  · rw [if_neg h] at h5 h7
    injection h5 with e5 e6
    injection h7 with e7 e8
    subst e5 e6 e7 e8
    exact ev_neg h (ev_pos (by trivial) (ev_pos (by trivial) (ev_pos rfl (ev_some rfl))))
theorem twos_ev (A B : List Int) (n i j r : Int) : Ev (fun k => provostlaw02_twos.f k A B n i j r) true := by
  have ta : (A.take 99).length ≤ 99 := List.length_take_le _ _
  have tb : (B.take 99).length ≤ 99 := List.length_take_le _ _
  unfold provostlaw02_twos.f
  have fa : provostlaw02_few.f A 99 = some (A.take 99) := few_cut A 99 (by omega)
  have fb : provostlaw02_few.f B 99 = some (B.take 99) := few_cut B 99 (by omega)
  rw [fa]
  simp only [Option.bind_some]
  rw [fb]
  simp only [Option.bind_some]
  have hj3 := fun x5 x6 x7 x8 => twos_j3 (A.take 99) (B.take 99) x5 x7 x6 x8
  generalize A.take 99 = a at *
  generalize B.take 99 = b at *
  rw [few99 a ta, few99 b tb]
  simp only [Option.bind_some]
  refine Ev.bind (meet_any a b) (Ev.bind (join_any a b) ?_)
  have h3 : ∀ x5 x6 x7 x8, (x5, x6) = (if pairF a b = true then (of_pat [] (meetL a b), 0) else ([], 3)) → (x7, x8) = (if pairF a b = true then (joinP a b, 0) else ([], 3)) → Ev (fun k => provostlaw02_twos.j3 k a b x5 x6 x7 x8) true := fun x5 x6 x7 x8 g1 g2 => hj3 x5 x6 x7 x8 g1 g2
  have hmg : ∀ f : List Int × Int → Nat → Option Bool, (∀ y, (if isPat a = true then (if okIJ a.length i j then y = (of_pat [] (mergeL a i.toNat j.toNat), 0) else y = ([], 1)) else y = ([], 3)) → Ev (f y) true) → Ev (fun k => (part_Merge.f k a i j).bind fun y => f y k) true := by
    intro f hf
    by_cases h : isPat a = true
    · by_cases hij : okIJ a.length i j
      · obtain ⟨p, rfl⟩ := Int.eq_ofNat_of_zero_le hij.1
        obtain ⟨q, rfl⟩ := Int.eq_ofNat_of_zero_le hij.2.1
        refine Ev.bind (merge_ev a ((isPat_iff a).1 h).2 ((isPat_iff a).1 h).1 p q (by have := hij.2.2.1; omega) (by have := hij.2.2.2; omega)) (hf _ ?_)
        rw [if_pos h, if_pos hij, Int.toNat_natCast, Int.toNat_natCast]
      · refine Ev.bind (merge_bad a i j h hij) (hf _ ?_)
        rw [if_pos h, if_neg hij]
    · refine Ev.bind (merge_not a i j h) (hf _ ?_)
      rw [if_neg h]
  refine hmg (fun y k => _) (fun y hy => ?_)
  rw [pfiner_eq]
  simp only [Option.bind_some]
  refine Ev.bind (rfiner_ev a b) (ev_neg (by simp) (Ev.bind (rlegal_ev a) ?_))
  by_cases h : isPat a = true
  · rw [if_pos h] at hy
    refine ev_pos h ?_
    generalize hM : (if pairF a b = true then (of_pat [] (meetL a b), (0 : Int)) else ([], 3)) = M at *
    generalize hJ : (if pairF a b = true then (joinP a b, (0 : Int)) else ([], 3)) = J at *
    by_cases hij : okIJ a.length i j
    · rw [if_pos hij] at hy
      subst hy
      unfold okIJ at hij
      refine ev_neg (by omega) (ev_neg (by omega) (ev_neg (by omega) ?_))
      rw [decide_eq_false (p := j ≥ (a.length : Int)) (by omega)]
      refine ev_succ ?_
      simp only [provostlaw02_twos.j0]
      have hm := rmerge_ev a ((isPat_iff a).1 h).2 ((isPat_iff a).1 h).1 i.toNat j.toNat (by omega) (by omega)
      rw [show ((i.toNat : Nat) : Int) = i by omega, show ((j.toNat : Nat) : Int) = j by omega] at hm
      have hl := ((isPat_iff a).1 h).1
      refine ev_neg (by decide) (ev_pos (by trivial) (Ev.bind hm (Ev.bind (ints_ev _ (by rw [of_pat_len, merge_len]; omega)) ?_)))
      refine ev_succ ?_
      simp only [provostlaw02_twos.j2]
      exact ev_neg (by decide) (h3 _ _ _ _ rfl rfl)
    · rw [if_neg hij] at hy
      subst hy
      have yes : Ev (fun k => provostlaw02_twos.j0 k a b M.1 M.2 J.1 J.2 [] 1 true A B n i j r) true := by
        refine ev_succ ?_
        simp only [provostlaw02_twos.j0]
        refine ev_pos (by trivial) (ev_pos (by trivial) ?_)
        refine ev_succ ?_
        simp only [provostlaw02_twos.j1]
        exact ev_neg (by decide) (h3 _ _ _ _ rfl rfl)
      unfold okIJ at hij
      by_cases g1 : i < 0
      · exact ev_pos g1 yes
      · refine ev_neg g1 ?_
        by_cases g2 : j < 0
        · exact ev_pos g2 yes
        · refine ev_neg g2 ?_
          by_cases g3 : i ≥ (a.length : Int)
          · exact ev_pos g3 yes
          · refine ev_neg g3 ?_
            rw [decide_eq_true (p := j ≥ (a.length : Int)) (by omega)]
            exact yes
  · rw [if_neg h] at hy
    subst hy
    have hp : ¬ pairF a b = true := fun g => h (by rw [isPat_iff]; exact ⟨((pair_iff a b).1 g).1, ((pair_iff a b).1 g).2.1⟩)
    simp only [if_neg hp]
    exact ev_neg h (ev_pos (by trivial) (ev_pos (by trivial) (ev_pos (by trivial) (ev_pos rfl (ev_pos rfl (ev_some rfl))))))
theorem exact_ev (A B : List Int) (n i j r : Int) (wA : ∀ x ∈ A, (Lit.int .i64 x).wf = true) (h0 : 0 ≤ r) (h1 : r ≤ 18446744073709551615) : Ev (fun k => provostlaw02_PartExact.f k A B n i j r) true := by
  have ta : (A.take 99).length ≤ 99 := List.length_take_le _ _
  have tb : (B.take 99).length ≤ 99 := List.length_take_le _ _
  have wa : ∀ x ∈ A.take 99, (Lit.int .i64 x).wf = true := fun x h => wA x (List.mem_of_mem_take h)
  unfold provostlaw02_PartExact.f
  have fa : provostlaw02_few.f A 99 = some (A.take 99) := few_cut A 99 (by omega)
  have fb : provostlaw02_few.f B 99 = some (B.take 99) := few_cut B 99 (by omega)
  rw [fa]
  simp only [Option.bind_some]
  generalize A.take 99 = a at *
  rw [few99 a ta]
  simp only [Option.bind_some]
  have j2 : Ev (fun k => provostlaw02_PartExact.j2 k a A B n i j r) true := by
    refine ev_succ ?_
    simp only [provostlaw02_PartExact.j2]
    refine Ev.bind (counts_ev n r h0 h1) (ev_pos rfl (Ev.bind (steps_ev a ta) (ev_pos rfl ?_)))
    rw [fb]
    simp only [Option.bind_some]
    exact Ev.bind (steps_ev _ tb) (ev_pos rfl (Ev.bind (twos_ev A B n i j r) (ev_pos rfl (Ev.bind wakes_ev (ev_some rfl)))))
  by_cases h25 : (a.length : Int) > 25
  · have ho : part_Of.f a = some ([], 2) := by unfold part_Of.f; rw [if_pos h25]
    rw [ho]
    simp only [Option.bind_some]
    refine ev_pos h25 (ev_pos (by trivial) ?_)
    refine ev_succ ?_
    simp only [provostlaw02_PartExact.j0]
    exact ev_neg (by decide) j2
  · have ho : part_Of.f a = some (of_pat [] a, 0) := by unfold part_Of.f; rw [if_neg h25, if_pos wa]
    rw [ho]
    simp only [Option.bind_some]
    refine ev_neg h25 (ev_pos (by trivial) (Ev.bind (rof_ev a (by omega)) (Ev.bind (ints_ev _ (by rw [of_pat_len]; omega)) ?_)))
    refine ev_succ ?_
    simp only [provostlaw02_PartExact.j1]
    exact ev_neg (by decide) j2
theorem u64_wf {r : Int} (h : (Lit.int .u64 r).wf = true) : 0 ≤ r ∧ r ≤ 18446744073709551615 := by
  simp [Lit.wf, IntKind.min, IntKind.max, IntKind.signed, IntKind.bits] at h
  omega
theorem exact_walk (A0 : Option Addr) (n0 : Nat) (l0 : List Int) (A1 : Option Addr) (n1 : Nat) (l1 : List Int) (a2 a3 a4 a5 : Int) (w : World)
    (hr0 : Kd.C (Kd.int .i64) w A0 l0.length l0) (hc0 : l0.length ≤ n0) (hr1 : Kd.C (Kd.int .i64) w A1 l1.length l1) (hc1 : l1.length ≤ n1)
    (g0 : l0.length ≤ maxLen ∧ ∀ x ∈ l0, (Lit.int .i64 x).wf = true) (g1 : l1.length ≤ maxLen ∧ ∀ x ∈ l1, (Lit.int .i64 x).wf = true) (g2 : (Lit.int .i64 a2).wf = true) (g3 : (Lit.int .i64 a3).wf = true) (g4 : (Lit.int .i64 a4).wf = true) (g5 : (Lit.int .u64 a5).wf = true) :
    Calls Try.prog 9 #[.agg #[.slice A0 l0.length n0, .slice A1 l1.length n1, .int .i64 a2, .int .i64 a3, .int .i64 a4, .int .u64 a5]] w fun e w' => e = .returned (.bool true) ∧ Below w.heap.size w w' := by
  obtain ⟨k, h⟩ := Ev.rounds (exact_ev l0 l1 a2 a3 a4 a5 g0.2 (u64_wf g5).1 (u64_wf g5).2)
  exact provostlaw02_PartExact.calls k A0 n0 l0 A1 n1 l1 a2 a3 a4 a5 true w hr0 hc0 hr1 hc1 h
end Go.Proofs.Ytpcnpmcknknfcaa.Pure
