/- The pure law of RuleEarly: a beginning is early just if one of its goings on by one label is. -/
import Derived.Test.YthdkmohgphbdeaaPureRule
import Derived.Test.YthdkmohgphbdeaaPureAhead
import Derived.Test.YthdkmohgphbdeaaPRulex10
import Derived.Test.YthdkmohgphbdeaaPRulex10
import Derived.Test.YthdkmohgphbdeaaPRulex11
namespace Go.Proofs.Ythdkmohgphbdeaa.PRule
open Go.RowKit Go.Proofs.YthdkmohgphbdeaaW.PrintWords Go.Proofs.YthdkmohgphbdeaaW.PrintLast
set_option linter.unusedVariables false
/-! a label that is none of these -/
theorem some_missing : ∀ (n : Nat) (q : List Int), q.length ≤ n → ∃ c : Nat, c ≤ n ∧ (c : Int) ∉ q
  | 0, q, h => ⟨0, Nat.le_refl _, by have : q = [] := List.length_eq_zero_iff.1 (by omega); simp [this]⟩
  | n + 1, q, h => by
    by_cases hm : ((n + 1 : Nat) : Int) ∈ q
    · have hl := List.length_erase_of_mem hm
      obtain ⟨c, hc, hn⟩ := some_missing n (q.erase ((n + 1 : Nat) : Int)) (by omega)
      refine ⟨c, by omega, fun h2 => hn ?_⟩
      exact (List.mem_erase_of_ne (by omega)).2 h2
    · exact ⟨n + 1, Nat.le_refl _, hm⟩
theorem other_l1 (q : List Int) (hq : q.length ≤ 1000) (c : Nat) (r : Int) : ∀ (d j : Nat) (ok : Bool), q.length - j = d → j ≤ q.length →
    Ev (fun m => if (ok && decide ((c : Int) ∉ q.drop j)) = true then some (c : Int) else provostlaw06_other.l0 m q (wrap64 ((c : Int) + 1))) r → Ev (fun m => provostlaw06_other.l1 m q (c : Int) ok (j : Int)) r := by
  intro d
  induction d with
  | zero =>
    intro j ok hd hj h
    refine ev_succ ?_
    simp only [provostlaw06_other.l1]
    refine ev_neg (by omega) ?_
    rw [List.drop_of_length_le (by omega)] at h
    simpa using h
  | succ d ih =>
    intro j ok hd hj h
    have hlt : j < q.length := by omega
    rw [List.drop_eq_getElem_cons hlt] at h
    refine ev_succ ?_
    simp only [provostlaw06_other.l1, rd_i q j hlt, wr (show -9223372036854775808 ≤ (j : Int) + 1 by omega) (by omega)]
    refine ev_pos (by omega) ?_
    have nx := fun ok => ih (j + 1) ok (by omega) (by omega)
    simp only [Int.natCast_add, Int.natCast_one] at nx
    cases ok with
    | true =>
      refine ev_pos rfl (ev_pos (by omega) (nx _ ?_))
      by_cases hc : q[j] = (c : Int)
      · simpa [hc] using h
      · have e : decide ((c : Int) ∉ q[j] :: q.drop (j + 1)) = decide ((c : Int) ∉ q.drop (j + 1)) := by
          rw [decide_eq_decide, List.mem_cons]
          exact ⟨fun x y => x (.inr y), fun x y => y.elim (fun z => hc z.symm) x⟩
        rw [e] at h
        rw [show (q[j] != (c : Int)) = true by simpa using hc]
        exact h
    | false =>
      refine ev_neg (by simp) (nx _ ?_)
      simpa using h
theorem other_l0 (q : List Int) (hq : q.length ≤ 1000) (n : Nat) (hn : n ≤ 1000) (hm : (n : Int) ∉ q) : ∀ (d c : Nat), n - c = d → c ≤ n → ∃ r : Nat, r ≤ n ∧ (r : Int) ∉ q ∧ Ev (fun m => provostlaw06_other.l0 m q (c : Int)) (r : Int) := by
  intro d
  induction d with
  | zero =>
    intro c hd hc
    obtain rfl : c = n := by omega
    refine ⟨c, Nat.le_refl _, hm, ev_succ ?_⟩
    simp only [provostlaw06_other.l0]
    refine other_l1 q hq c _ q.length 0 true (by omega) (by omega) ?_
    rw [List.drop_zero, decide_eq_true hm]
    exact ev_pos rfl (ev_some rfl)
  | succ d ih =>
    intro c hd hc
    by_cases h : (c : Int) ∈ q
    · obtain ⟨r, h1, h2, h3⟩ := ih (c + 1) (by omega) (by omega)
      refine ⟨r, h1, h2, ev_succ ?_⟩
      simp only [provostlaw06_other.l0]
      refine other_l1 q hq c _ q.length 0 true (by omega) (by omega) ?_
      rw [List.drop_zero, decide_eq_false (fun x => x h), wr (by omega) (by omega)]
      exact ev_neg (by simp) (by simpa using h3)
    · refine ⟨c, hc, h, ev_succ ?_⟩
      simp only [provostlaw06_other.l0]
      refine other_l1 q hq c _ q.length 0 true (by omega) (by omega) ?_
      rw [List.drop_zero, decide_eq_true h]
      exact ev_pos rfl (ev_some rfl)
theorem other_ev (q : List Int) (hq : q.length ≤ 1000) : ∃ r : Nat, r ≤ 1000 ∧ (r : Int) ∉ q ∧ Ev (fun m => provostlaw06_other.f m q) (r : Int) := by
  obtain ⟨n, hn, hm⟩ := some_missing q.length q (Nat.le_refl _)
  obtain ⟨r, h1, h2, h3⟩ := other_l0 q hq n (by omega) hm n 0 (by omega) (by omega)
  exact ⟨r, by omega, h2, h3⟩
/-! what one label more turns -/
theorem steps_gt (n : Int) : ∀ (s : List Int) (last : Int), stepsOk n last s = true → ∀ y ∈ s, last < y
  | [], _, _ => by simp
  | x :: r, last, h => by
    simp only [stepsOk, Bool.and_eq_true, decide_eq_true_iff] at h
    intro y hy
    rcases List.mem_cons.1 hy with rfl | hy
    · exact h.1.1
    · have := steps_gt n r x h.2 y hy; omega
theorem mem_of_more (q : List Int) (c : Int) : ∀ s : List Int, (∀ x ∈ s, 0 ≤ x) → kp_left (q ++ [c]) s + 1 = kp_left q s → (q.length : Int) ∈ s
  | [], _, h => by simp [kp_left] at h
  | x :: r, hs, h => by
    by_cases hx : x = (q.length : Int)
    · rw [hx]; exact List.mem_cons_self
    · refine List.mem_cons_of_mem _ (mem_of_more q c r (fun y hy => hs y (List.mem_cons_of_mem _ hy)) ?_)
      have hlen : ((q ++ [c]).length : Int) = (q.length : Int) + 1 := by simp
      simp only [kp_left, hlen] at h
      by_cases hc : x < (q.length : Int)
      · rw [if_pos (by omega), if_pos hc] at h; exact h
      · rw [if_neg (by omega), if_neg hc] at h; omega
theorem seenF_more (q : List Int) (c : Int) (n : Int) : ∀ (s : List Int) (last : Int), -1 ≤ last → stepsOk n last s = true →
    (((q.length : Int) ∉ s) ∧ seenF (q ++ [c]) s = seenF q s ∧ kp_left (q ++ [c]) s = kp_left q s) ∨ (seenF (q ++ [c]) s = seenF q s ++ [c] ∧ kp_left (q ++ [c]) s + 1 = kp_left q s)
  | [], _, _, _ => .inl ⟨by simp, rfl, rfl⟩
  | x :: r, last, hl, h => by
    simp only [stepsOk, Bool.and_eq_true, decide_eq_true_iff] at h
    obtain ⟨⟨h1, h2⟩, h3⟩ := h
    have hx : 0 ≤ x := by omega
    have hlen : ((q ++ [c]).length : Int) = (q.length : Int) + 1 := by simp
    have ih := seenF_more q c n r x (by omega) h3
    rw [seenF_cons, seenF_cons]
    simp only [kp_left, hlen]
    rcases Int.lt_trichotomy x (q.length : Int) with hc | hc | hc
    · have e : rd (q ++ [c]) x = rd q x := by
        have hx' : (x.toNat : Int) = x := Int.toNat_of_nonneg hx
        rw [← hx', rd_i (q ++ [c]) x.toNat (by simp; omega), rd_i q x.toNat (by omega), List.getElem_append_left]
      rw [if_pos (by omega), if_pos hc, if_pos (by omega), if_pos hc, e]
      rcases ih with ⟨i1, i2, i3⟩ | ⟨i2, i3⟩
      · exact .inl ⟨by rw [List.mem_cons]; rintro (h | h); omega; exact i1 h, by rw [i2], i3⟩
      · exact .inr ⟨by rw [i2]; rfl, i3⟩
    · have e : rd (q ++ [c]) x = c := by
        rw [hc, rd_i (q ++ [c]) q.length (by simp)]
        simp
      rw [if_pos (by omega), if_neg (by omega), if_pos (by omega), if_neg (by omega), e]
      have hgt := steps_gt n r x h3
      have none : ∀ (l : List Int), (l.length : Int) ≤ x + 1 → seenF l r = [] := by
        intro l hl2
        unfold seenF
        rw [List.filter_eq_nil_iff.2]
        · rfl
        · intro y hy; have := hgt y hy; simpa using (by omega : (l.length : Int) ≤ y)
      have nl : ∀ (l : List Int), (l.length : Int) ≤ x + 1 → kp_left l r = r.length := by
        intro l hl2
        have := kp_seen_len l r
        have hs : kp_seen l r = [] := by
          have := seen_rev l r.reverse
          rw [List.reverse_reverse] at this
          rw [this]
          unfold seenF
          rw [List.filter_eq_nil_iff.2]
          · rfl
          · intro y hy; have := hgt y (by simpa using hy); simpa using (by omega : (l.length : Int) ≤ y)
        rw [hs] at this; simpa using this
      right
      refine ⟨?_, ?_⟩
      · rw [none _ (by rw [hlen]; omega), none q (by omega)]; rfl
      · rw [nl _ (by rw [hlen]; omega), nl q (by omega)]
    · rw [if_neg (by omega), if_neg (by omega), if_neg (by omega), if_neg (by omega)]
      rcases ih with ⟨i1, i2, i3⟩ | ⟨i2, i3⟩
      · exact .inl ⟨by rw [List.mem_cons]; rintro (h | h); omega; exact i1 h, i2, by omega⟩
      · exact .inr ⟨i2, by omega⟩
theorem seenF_sub (q s : List Int) (hs : ∀ x ∈ s, 0 ≤ x) : ∀ y ∈ seenF q s, y ∈ q := by
  intro y hy
  unfold seenF at hy
  obtain ⟨x, hx, rfl⟩ := List.mem_map.1 hy
  obtain ⟨h1, h2⟩ := List.mem_filter.1 hx
  have h0 := hs x h1
  have h3 := of_decide_eq_true h2
  have hx' : (x.toNat : Int) = x := Int.toNat_of_nonneg h0
  rw [← hx', rd_i q x.toNat (by omega)]
  exact List.getElem_mem _
theorem unl_snoc (P : List Int) (c : Int) : kp_unlike (P ++ [c]).reverse = kp_unlike P.reverse + if c ∈ P then 0 else 1 := by
  rw [List.reverse_append, List.reverse_singleton, List.singleton_append, kp_unlike]; simp only [List.mem_reverse]
theorem most_snoc (P : List Int) (c : Int) : kp_most (P ++ [c]).reverse = max (kp_most P.reverse) (P.count c + 1) := by
  rw [List.reverse_append, List.reverse_singleton, List.singleton_append, kp_most, List.count_reverse]
/-- goings on: by another label, or by one of its own -/
theorem early_more (K k : Int) (s q : List Int) (n : Int) (o : Int) (hq : (q.length : Int) < n) (ho : o ∉ q) (hc : chk n K k s = true) :
    earlyS K k s n q = (earlyS K k s n (q ++ [o]) || q.any fun c => earlyS K k s n (q ++ [c])) := by
  obtain ⟨hn, hK, hs⟩ := chk_facts hc
  have hc2 := hc
  unfold chk at hc2
  simp only [Bool.and_eq_true, decide_eq_true_iff] at hc2
  obtain ⟨⟨_, hst⟩, hkind⟩ := hc2
  have e0 : earlyS K k s n q = kpB K k s q := by unfold earlyS; rw [hc]; simp; intro h; omega
  have e1 : ∀ c, earlyS K k s n (q ++ [c]) = kpB K k s (q ++ [c]) := by intro c; unfold earlyS; rw [hc]; simp; intro h; omega
  simp only [e0, e1]
  have hsub := seenF_sub q s fun x hx => (hs x hx).1
  have step : ∀ c, (((q.length : Int) ∉ s) ∧ seenF (q ++ [c]) s = seenF q s ∧ kp_left (q ++ [c]) s = kp_left q s) ∨ (seenF (q ++ [c]) s = seenF q s ++ [c] ∧ kp_left (q ++ [c]) s + 1 = kp_left q s) := fun c => seenF_more q c n s (-1) (by omega) hst
  by_cases hin : (q.length : Int) ∈ s
  · have st : ∀ c, seenF (q ++ [c]) s = seenF q s ++ [c] ∧ kp_left (q ++ [c]) s + 1 = kp_left q s := fun c => (step c).resolve_left fun h => h.1 hin
    have hok : seenF q s = [] ∨ ∃ c, c ∈ q ∧ c ∈ seenF q s := by
      cases hP : seenF q s with
      | nil => exact .inl rfl
      | cons a r => exact .inr ⟨a, hsub a (by rw [hP]; exact List.mem_cons_self), List.mem_cons_self⟩
    have hoP : o ∉ seenF q s := fun h => ho (hsub o h)
    have cnt : (seenF q s).count o = 0 := List.count_eq_zero.2 hoP
    rw [Bool.eq_iff_iff, Bool.or_eq_true, List.any_eq_true]
    have hkO : kpB K k s (q ++ [o]) = true ↔ _ := Iff.rfl
    have un : ∀ c, kp_unlike (seenF (q ++ [c]) s).reverse = kp_unlike (seenF q s).reverse + if c ∈ seenF q s then 0 else 1 := fun c => by rw [(st c).1, unl_snoc]
    have mo : ∀ c, kp_most (seenF (q ++ [c]) s).reverse = max (kp_most (seenF q s).reverse) ((seenF q s).count c + 1) := fun c => by rw [(st c).1, most_snoc]
    have lf : ∀ c, kp_left (q ++ [c]) s + 1 = kp_left q s := fun c => (st c).2
    have unO := un o
    rw [if_neg hoP] at unO
    have moO := mo o
    rw [cnt] at moO
    have lfO := lf o
    -- what one of the labels that stand there leaves
    have own : seenF q s ≠ [] → ∃ c ∈ q, kp_unlike (seenF (q ++ [c]) s).reverse = kp_unlike (seenF q s).reverse := by
      intro h
      rcases hok with h2 | ⟨c, c1, c2⟩
      · exact absurd h2 h
      · exact ⟨c, c1, by rw [un c, if_pos c2]; rfl⟩
    have nil0 : seenF q s = [] → kp_unlike (seenF q s).reverse = 0 := fun h => by rw [h]; rfl
    have grow : ∀ c, kp_unlike (seenF q s).reverse ≤ kp_unlike (seenF (q ++ [c]) s).reverse ∧ kp_unlike (seenF (q ++ [c]) s).reverse ≤ kp_unlike (seenF q s).reverse + 1 ∧ kp_most (seenF q s).reverse ≤ kp_most (seenF (q ++ [c]) s).reverse := by
      intro c
      rw [un c, mo c]
      refine ⟨by omega, ?_, by omega⟩
      split <;> omega
    have kpos : K = 3 ∨ K = 4 → 1 ≤ k := by
      intro h
      unfold kindOk at hkind
      rw [if_neg (by omega), if_pos h] at hkind
      exact (of_decide_eq_true hkind).1
    have back : ∀ c, kpB K k s (q ++ [c]) = true → kpB K k s q = true := by
      intro c h
      obtain ⟨g1, g2, g3⟩ := grow c
      have g4 := lf c
      unfold kpB at h ⊢
      rw [seen_rev, left_rev] at h ⊢
      by_cases k1 : K = 1
      · rw [if_pos k1] at h ⊢; have := of_decide_eq_true h; exact decide_eq_true (by omega)
      rw [if_neg k1] at h ⊢
      by_cases k2 : K = 2
      · rw [if_pos k2] at h ⊢; have := of_decide_eq_true h; exact decide_eq_true (by omega)
      rw [if_neg k2] at h ⊢
      by_cases k3 : K = 3
      · rw [if_pos k3] at h ⊢; have := of_decide_eq_true h; exact decide_eq_true (by omega)
      rw [if_neg k3] at h ⊢
      by_cases k4 : K = 4
      · rw [if_pos k4] at h ⊢; have := of_decide_eq_true h; exact decide_eq_true (by omega)
      rw [if_neg k4] at h ⊢
      have := of_decide_eq_true h; exact decide_eq_true (by omega)
    constructor
    · intro h
      unfold kpB at h
      rw [seen_rev, left_rev] at h
      by_cases k1 : K = 1
      · rw [if_pos k1] at h
        have := of_decide_eq_true h
        left; unfold kpB; rw [seen_rev, if_pos k1]; exact decide_eq_true (by omega)
      rw [if_neg k1] at h
      by_cases k2 : K = 2
      · rw [if_pos k2] at h
        have := of_decide_eq_true h
        by_cases hP : seenF q s = []
        · have z := nil0 hP
          left; unfold kpB; rw [seen_rev, if_neg k1, if_pos k2]; exact decide_eq_true (by omega)
        · obtain ⟨c, c1, c2⟩ := own hP
          right; refine ⟨c, c1, ?_⟩; unfold kpB; rw [seen_rev, if_neg k1, if_pos k2]; exact decide_eq_true (by omega)
      rw [if_neg k2] at h
      by_cases k3 : K = 3
      · rw [if_pos k3] at h
        have := of_decide_eq_true h
        have := kpos (.inl k3)
        left; unfold kpB; rw [seen_rev, if_neg k1, if_neg k2, if_pos k3]; exact decide_eq_true (by omega)
      rw [if_neg k3] at h
      by_cases k4 : K = 4
      · rw [if_pos k4] at h
        have := of_decide_eq_true h
        have := kpos (.inr k4)
        by_cases hP : seenF q s = []
        · have z := nil0 hP
          left; unfold kpB; rw [seen_rev, if_neg k1, if_neg k2, if_neg k3, if_pos k4]; exact decide_eq_true (by omega)
        · obtain ⟨c, c1, c2⟩ := own hP
          right; refine ⟨c, c1, ?_⟩; unfold kpB; rw [seen_rev, if_neg k1, if_neg k2, if_neg k3, if_pos k4]; exact decide_eq_true (by omega)
      rw [if_neg k4] at h
      have := of_decide_eq_true h
      left; unfold kpB; rw [seen_rev, left_rev, if_neg k1, if_neg k2, if_neg k3, if_neg k4]; exact decide_eq_true (by omega)
    · rintro (h | ⟨c, _, h⟩)
      · exact back o h
      · exact back c h
  · have st : ∀ c, seenF (q ++ [c]) s = seenF q s ∧ kp_left (q ++ [c]) s = kp_left q s := by
      intro c
      rcases step c with h | h
      · exact h.2
      · exfalso
        have a := kp_seen_len (q ++ [c]) s
        have b := kp_seen_len q s
        have a2 := congrArg List.length h.1
        exact hin (mem_of_more q c s (fun x hx => (hs x hx).1) h.2)
    have same : ∀ c, kpB K k s (q ++ [c]) = kpB K k s q := by
      intro c; unfold kpB; rw [seen_rev, seen_rev, left_rev, left_rev, (st c).1, (st c).2]
    simp only [same]
    cases kpB K k s q <;> simp
/-! the walk's loops -/
theorem l0_never (l : List S55) (q : List Int) (n : Int) (hl : l.length ≤ 60) (hs : ∀ x ∈ l, x.f2.length ≤ 30) (hq : ∀ x ∈ q, (Lit.int .i64 x).wf = true) (hq4 : q.length ≤ 40) (hn : ¬ (0 ≤ n ∧ n ≤ 12)) :
    ∀ (d i : Nat), l.length - i = d → i ≤ l.length → Ev (fun m => provostlaw06_RuleEarly.l0 m l q n (i : Int)) true := by
  intro d
  induction d with
  | zero =>
    intro i hd hi
    refine ev_succ ?_
    simp only [provostlaw06_RuleEarly.l0]
    exact ev_neg (by omega) (Ev.bind wakes_ev (ev_some rfl))
  | succ d ih =>
    intro i hd hi
    have hlt : i < l.length := by omega
    have h3 := hs _ (List.getElem_mem hlt)
    have nx := ih (i + 1) (by omega) (by omega)
    refine ev_succ ?_
    simp only [provostlaw06_RuleEarly.l0, row_eq, Option.bind_some, rd_T l i hlt]
    rw [List.take_of_length_le hq4]
    refine ev_pos (by omega) (ev_pos (by omega) (Ev.bind (early_ev _ _ _ n q (by omega) hq) (ev_neg ?_ ?_)))
    · unfold earlyS chk
      rw [decide_eq_false hn]; simp
    · rw [wr (show -9223372036854775808 ≤ (i : Int) + 1 by omega) (by omega)]
      simpa using nx
theorem l2_ok (l : List S55) (q : List Int) (n : Int) (hl : l.length ≤ 60) (i : Nat) (hi : i < l.length) (h3 : l[i].f2.length ≤ 30) (hq : ∀ x ∈ q, (Lit.int .i64 x).wf = true) (hq4 : q.length ≤ 12) (early : Bool) (r : Bool)
    (h : Ev (fun m => provostlaw06_RuleEarly.l1 m l q n ((i + 1 : Nat) : Int)) r) :
    ∀ (d j : Nat) (more : Bool), q.length - j = d → j ≤ q.length → early = (more || (q.drop j).any fun c => earlyS l[i].f0 l[i].f1 l[i].f2 n (q ++ [c])) → Ev (fun m => provostlaw06_RuleEarly.l2 m l q n (i : Int) early more (j : Int)) r := by
  intro d
  induction d with
  | zero =>
    intro j more hd hj he
    refine ev_succ ?_
    simp only [provostlaw06_RuleEarly.l2]
    rw [List.drop_of_length_le (by omega), List.any_nil, Bool.or_false] at he
    refine ev_neg (by omega) (ev_neg (by simp [he]) ?_)
    rw [wr (show -9223372036854775808 ≤ (i : Int) + 1 by omega) (by omega)]
    simpa using h
  | succ d ih =>
    intro j more hd hj he
    have hlt : j < q.length := by omega
    rw [List.drop_eq_getElem_cons hlt, List.any_cons] at he
    have nx := fun more => ih (j + 1) more (by omega) (by omega)
    simp only [Int.natCast_add, Int.natCast_one] at nx
    refine ev_succ ?_
    simp only [provostlaw06_RuleEarly.l2, row_eq, Option.bind_some, rd_T l i hi, rd_i q j hlt, wr (show -9223372036854775808 ≤ (j : Int) + 1 by omega) (by omega)]
    rw [List.take_of_length_le (by omega)]
    refine ev_pos (by omega) ?_
    cases more with
    | true => exact ev_pos rfl (nx true (by simpa using he))
    | false =>
      refine ev_neg (by simp) (ev_pos (by omega) (ev_pos (by omega) (ev_pos (by omega) (ev_pos (by simp; omega) ?_))))
      refine Ev.bind (early_ev _ _ _ n (q ++ [q[j]]) (by omega) ?_) (nx _ (by simpa using he))
      intro x hx
      rcases List.mem_append.1 hx with hx | hx
      · exact hq x hx
      · rw [List.mem_singleton.1 hx]; exact hq _ (List.getElem_mem hlt)
theorem er_zero (b : Bool) : (er b = 0) ↔ b = true := by cases b <;> simp [er]
theorem l1_all (l : List S55) (q : List Int) (n : Int) (hl : l.length ≤ 60) (hs : ∀ x ∈ l, x.f2.length ≤ 30) (hq : ∀ x ∈ q, (Lit.int .i64 x).wf = true) (hn : 0 ≤ n ∧ n ≤ 12) (hqn : (q.length : Int) ≤ n) :
    ∀ (d i : Nat), l.length - i = d → i ≤ l.length → Ev (fun m => provostlaw06_RuleEarly.l1 m l q n (i : Int)) true := by
  intro d
  induction d with
  | zero =>
    intro i hd hi
    refine ev_succ ?_
    simp only [provostlaw06_RuleEarly.l1]
    exact ev_neg (by omega) (ev_some rfl)
  | succ d ih =>
    intro i hd hi
    have hlt : i < l.length := by omega
    have h3 := hs _ (List.getElem_mem hlt)
    have nx := ih (i + 1) (by omega) (by omega)
    have nx1 := nx
    rw [Int.natCast_add] at nx1
    refine ev_succ ?_
    simp only [provostlaw06_RuleEarly.l1, row_eq, Option.bind_some, rd_T l i hlt, wr (show -9223372036854775808 ≤ (i : Int) + 1 by omega) (by omega)]
    rw [List.take_of_length_le (by omega)]
    refine ev_pos (by omega) (ev_pos (by omega) (Ev.bind (early_ev _ _ _ n q (by omega) hq) (Ev.bind (check_ev n _ _ _ (by omega)) ?_)))
    by_cases hc : chk n l[i].f0 l[i].f1 l[i].f2 = true
    · refine ev_pos ((er_zero _).2 hc) ?_
      by_cases hl2 : (q.length : Int) = n
      · refine ev_pos hl2 (Ev.bind (holds_ev _ _ _ q (by omega) hq) (ev_neg ?_ nx1))
        rw [hl2]; simp
      · refine ev_neg hl2 ?_
        obtain ⟨o, o1, o2, o3⟩ := other_ev q (by omega)
        refine Ev.bind o3 (ev_pos (by simp; omega) ?_)
        refine Ev.bind (early_ev _ _ _ n (q ++ [(o : Int)]) (by omega) ?_) ?_
        · intro x hx
          rcases List.mem_append.1 hx with hx | hx
          · exact hq x hx
          · rw [List.mem_singleton.1 hx]; simp [Lit.wf, IntKind.min, IntKind.max, IntKind.signed, IntKind.bits]; omega
        have := l2_ok l q n hl i hlt h3 hq (by omega) (earlyS l[i].f0 l[i].f1 l[i].f2 n q) true nx q.length 0 (earlyS l[i].f0 l[i].f1 l[i].f2 n (q ++ [(o : Int)])) (by omega) (by omega)
          (by rw [List.drop_zero]; exact early_more _ _ _ q n o (by omega) o2 hc)
        simpa using this
    · have he : earlyS l[i].f0 l[i].f1 l[i].f2 n q = false := by unfold earlyS; rw [(Bool.not_eq_true _).mp hc]; rfl
      rw [he]
      exact ev_neg (fun h => hc ((er_zero _).1 h)) (ev_neg (by simp) nx1)
theorem early_pure (a0 : Int) (l1 : List S55) (l2 : List Int) (l3 : List ByteArray) (g1 : l1.length ≤ maxLen) (g2 : ∀ x ∈ l2, (Lit.int .i64 x).wf = true) : ∃ k, provostlaw06_RuleEarly.f k a0 l1 l2 l3 = some true := by
  refine Ev.rounds ?_
  unfold provostlaw06_RuleEarly.f
  simp only [row_eq, Option.bind_some]
  have hl : (twinS l1).length ≤ 60 := by unfold twinS; simp; omega
  have hw : ∀ x ∈ l2.take 40, (Lit.int .i64 x).wf = true := fun x hx => g2 x (List.mem_of_mem_take hx)
  have hq4 : (l2.take 40).length ≤ 40 := by simp; omega
  refine Ev.bind (twin_ev l1 (by simpa [maxLen] using g1)) ?_
  have never : ¬ (0 ≤ a0 ∧ a0 ≤ 12) → Ev (fun m => provostlaw06_RuleEarly.j0 m (twinS l1) (l2.take 40) a0 true) true := by
    intro hn
    refine ev_succ ?_
    simp only [provostlaw06_RuleEarly.j0, if_true]
    exact l0_never (twinS l1) (l2.take 40) a0 hl (twin_short l1) hw hq4 hn _ 0 rfl (Nat.zero_le _)
  by_cases h1 : a0 < 0
  · exact ev_pos h1 (never (by omega))
  refine ev_neg h1 ?_
  by_cases h2 : a0 > 12
  · exact ev_pos h2 (never (by omega))
  refine ev_neg h2 (Ev.bind wakes_ev (ev_succ ?_))
  simp only [provostlaw06_RuleEarly.j0, Bool.not_true, Bool.false_eq_true, if_false]
  have go : ∀ q : List Int, (∀ x ∈ q, (Lit.int .i64 x).wf = true) → (q.length : Int) ≤ a0 → Ev (fun m => provostlaw06_RuleEarly.j2 m (twinS l1) q a0) true := by
    intro q hq hqn
    refine ev_succ ?_
    simp only [provostlaw06_RuleEarly.j2]
    exact l1_all (twinS l1) q a0 hl (twin_short l1) hq ⟨by omega, by omega⟩ hqn _ 0 rfl (Nat.zero_le _)
  by_cases h3 : ((l2.take 40).length : Int) > a0
  · exact ev_pos h3 (ev_pos (by omega) (ev_pos (by omega) (go _ (fun x hx => hw x (List.mem_of_mem_take hx)) (by simp; omega))))
  · exact ev_neg h3 (go _ hw (by omega))
theorem early_walk (a0 : Int) (A1 : Option Addr) (n1 : Nat) (l1 : List S55) (A2 : Option Addr) (n2 : Nat) (l2 : List Int) (A3 : Option Addr) (n3 : Nat) (l3 : List ByteArray) (w : World)
    (hr1 : Kd.C k55 w A1 l1.length l1) (hc1 : l1.length ≤ n1) (hr2 : Kd.C (Kd.int .i64) w A2 l2.length l2) (hc2 : l2.length ≤ n2) (hr3 : Kd.C Kd.string w A3 l3.length l3) (hc3 : l3.length ≤ n3)
    (g0 : (Lit.int .i64 a0).wf = true) (g1 : l1.length ≤ maxLen ∧ ∀ x ∈ l1, (Lit.int .i64 x.f0).wf = true ∧ (Lit.int .i64 x.f1).wf = true ∧ (x.f2.length ≤ maxLen ∧ ∀ y ∈ x.f2, (Lit.int .i64 y).wf = true))
    (g2 : l2.length ≤ maxLen ∧ ∀ x ∈ l2, (Lit.int .i64 x).wf = true) (g3 : l3.length ≤ maxLen ∧ ∀ s ∈ l3, s.size ≤ maxLen) :
    Calls Try.prog 8 #[.agg #[.int .i64 a0, .slice A1 l1.length n1, .slice A2 l2.length n2, .slice A3 l3.length n3]] w fun e w' => e = .returned (.bool true) ∧ Below w.heap.size w w' := by
  obtain ⟨k, h⟩ := early_pure a0 l1 l2 l3 g1.1 g2.2
  exact provostlaw06_RuleEarly.calls k a0 A1 n1 l1 A2 n2 l2 A3 n3 l3 true w hr1 hc1 hr2 hc2 hr3 hc3 h
end Go.Proofs.Ythdkmohgphbdeaa.PRule
