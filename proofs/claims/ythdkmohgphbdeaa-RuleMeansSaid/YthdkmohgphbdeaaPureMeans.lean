/- The pure law of RuleMeans: what a rule that holds asks, counted. -/
import Derived.Test.YthdkmohgphbdeaaPureRule
import Derived.Test.YthdkmohgphbdeaaPureAhead
import Derived.Test.YthdkmohgphbdeaaPRulex8
import Derived.Test.YthdkmohgphbdeaaPRulex9
namespace Go.Proofs.Ythdkmohgphbdeaa.PRule
open Go.RowKit Go.Proofs.YthdkmohgphbdeaaW.PrintWords Go.Proofs.YthdkmohgphbdeaaW.PrintLast
set_option linter.unusedVariables false
/-- the labels of the steps, when all steps have one -/
def seq (s q : List Int) : List Int := s.map fun x => rd q x
theorem seenF_all (q : List Int) : ∀ s : List Int, (∀ x ∈ s, x < (q.length : Int)) → seenF q s = seq s q ∧ kp_left q s = 0
  | [], _ => ⟨rfl, rfl⟩
  | x :: r, h => by
    obtain ⟨a, b⟩ := seenF_all q r fun y hy => h y (List.mem_cons_of_mem _ hy)
    have hx := h x List.mem_cons_self
    rw [seenF_cons, if_pos hx, a]
    refine ⟨rfl, ?_⟩
    simp only [kp_left, hx, if_true]; exact b
/-- how many labels stand at one place for the first time, among the first i -/
def kindsTo (p : List Int) (i : Nat) : Nat := kp_unlike (p.take i).reverse
theorem kinds_succ (p : List Int) (i : Nat) (h : i < p.length) : kindsTo p (i + 1) = kindsTo p i + if p[i] ∈ p.take i then 0 else 1 := by
  unfold kindsTo
  rw [List.take_succ_eq_append_getElem h, List.reverse_append, List.reverse_singleton, List.singleton_append, kp_unlike]
  simp only [List.mem_reverse]
/-- what is asked of how often a label stands there -/
def timesOk (K k : Int) (n t : Nat) : Prop := (K = 1 → t = 1) ∧ (K = 2 → t = n) ∧ (K = 3 → (t : Int) ≤ k)
theorem seq_get (s q : List Int) (a : Nat) (h : a < s.length) : (seq s q)[a]'(by simpa [seq] using h) = rd q s[a] := by simp [seq]
theorem seq_len (s q : List Int) : (seq s q).length = s.length := by simp [seq]
section
variable (l : List S55) (q : List Int) (i : Nat) (hi : i < l.length) (hl : l.length ≤ 60)
set_option linter.unusedSectionVars false
include hi hl
theorem j5_false (r : Bool) (x6 : List Int) (x7 : Int) (a : Nat) (ha : a ≤ 1000000) (h : Ev (fun m => provostlaw06_RuleMeans.l1 m l q (i : Int) x6 x7 ((a + 1 : Nat) : Int)) r) : Ev (fun m => provostlaw06_RuleMeans.j5 m l q (i : Int) x6 x7 (a : Int) false) r := by
  refine ev_succ ?_
  simp only [provostlaw06_RuleMeans.j5, wr (show -9223372036854775808 ≤ (a : Int) + 1 by omega) (by omega)]
  exact ev_neg (by simp) (by simpa using h)
theorem j4_ok (r : Bool) (s : List Int) (x7 : Int) (a t : Nat) (ha : a ≤ 1000000) (hK : timesOk l[i].f0 l[i].f1 s.length t) (h : Ev (fun m => provostlaw06_RuleMeans.l1 m l q (i : Int) s x7 ((a + 1 : Nat) : Int)) r) : Ev (fun m => provostlaw06_RuleMeans.j4 m l q (i : Int) s x7 (a : Int) (t : Int)) r := by
  obtain ⟨k1, k2, k3⟩ := hK
  have g := j5_false l q i hi hl r s x7 a ha h
  refine ev_succ ?_
  simp only [provostlaw06_RuleMeans.j4, rd_T l i hi]
  refine ev_pos (by omega) (ev_pos (by omega) ?_)
  by_cases e1 : l[i].f0 = 1
  · have := k1 e1
    refine ev_pos e1 (ev_pos (by omega) (ev_neg (by omega) (ev_neg (by omega) g)))
  refine ev_neg e1 ?_
  by_cases e2 : l[i].f0 = 2
  · have := k2 e2
    refine ev_pos e2 (ev_pos (by omega) (ev_neg (by omega) g))
  refine ev_neg e2 ?_
  by_cases e3 : l[i].f0 = 3
  · have := k3 e3
    refine ev_pos e3 ?_
    rw [show decide ((t : Int) > l[i].f1) = false from decide_eq_false (by omega)]
    exact g
  exact ev_neg e3 g
theorem l2_ok (r : Bool) (s : List Int) (hs : s.length ≤ 1000) (hq : ∀ x ∈ s, 0 ≤ x ∧ x < (q.length : Int)) (x7 a : Nat) (ha : a < s.length) (hx7 : x7 ≤ 1000)
    (h : Ev (fun m => provostlaw06_RuleMeans.j4 m l q (i : Int) s ((x7 + (if rd q s[a] ∈ (seq s q).take a then 0 else 1) : Nat) : Int) (a : Int) (((seq s q).count (rd q s[a]) : Nat) : Int)) r) :
    ∀ (d b : Nat), s.length - b = d → b ≤ s.length →
    Ev (fun m => provostlaw06_RuleMeans.l2 m l q (i : Int) s (x7 : Int) (a : Int) (((seq s q).take b).count (rd q s[a]) : Nat) (decide (rd q s[a] ∉ ((seq s q).take b).take a)) (b : Int)) r := by
  intro d
  induction d with
  | zero =>
    intro b hd hb
    obtain rfl : b = s.length := by omega
    refine ev_succ ?_
    simp only [provostlaw06_RuleMeans.l2]
    refine ev_neg (by omega) ?_
    rw [show (seq s q).take s.length = seq s q from List.take_of_length_le (by rw [seq_len]; omega)]
    by_cases hm : rd q s[a] ∈ (seq s q).take a
    · rw [if_pos hm] at h
      rw [decide_eq_false (by simpa using hm)]
      exact ev_neg (by simp) (by simpa using h)
    · rw [if_neg hm] at h
      rw [decide_eq_true hm]
      refine ev_pos rfl ?_
      rw [wr (by omega) (by omega)]
      simpa using h
  | succ d ih =>
    intro b hd hb
    have hlt : b < s.length := by omega
    have h1 := hq _ (List.getElem_mem ha)
    have h2 := hq _ (List.getElem_mem hlt)
    have nx := ih (b + 1) (by omega) (by omega)
    have hlt2 : b < (seq s q).length := by rw [seq_len]; exact hlt
    refine ev_succ ?_
    simp only [provostlaw06_RuleMeans.l2, rd_i s a ha, rd_i s b hlt]
    refine ev_pos (by omega) (ev_pos (by omega) (ev_pos (by omega) (ev_pos h1.1 (ev_pos h1.2 (ev_pos (by omega) (ev_pos h2.1 (ev_pos h2.2 ?_)))))))
    have hcl : ((seq s q).take b).count (rd q s[a]) ≤ b := by
      have := List.count_le_length (a := rd q s[a]) (l := (seq s q).take b)
      rw [List.length_take] at this; omega
    rw [List.take_succ_eq_append_getElem hlt2, seq_get s q b hlt] at nx
    rw [wr (show -9223372036854775808 ≤ (((((seq s q).take b).count (rd q s[a]) : Nat)) : Int) + 1 by omega) (by omega), wr (show -9223372036854775808 ≤ (b : Int) + 1 by omega) (by omega)]
    rw [Int.natCast_add] at nx
    by_cases hc : rd q s[a] = rd q s[b]
    · refine ev_pos hc ?_
      rw [List.count_append, ← hc, List.count_singleton_self, Int.natCast_add] at nx
      by_cases hba : a ≤ b
      · have e : ((seq s q).take b ++ [rd q s[a]]).take a = ((seq s q).take b).take a := by
          rw [List.take_append_of_le_length (by rw [List.length_take, seq_len]; omega)]
        rw [e] at nx
        by_cases hm : rd q s[a] ∉ ((seq s q).take b).take a
        · rw [decide_eq_true hm] at nx ⊢
          refine ev_pos rfl ?_
          rw [show decide ((b : Int) ≥ (a : Int)) = true from decide_eq_true (by omega)]
          exact nx
        · rw [decide_eq_false hm] at nx ⊢
          exact ev_neg (by simp) nx
      · have e : decide (rd q s[a] ∉ ((seq s q).take b ++ [rd q s[a]]).take a) = false := by
          rw [List.take_of_length_le (by simp [seq_len]; omega)]
          simp
        rw [e] at nx
        by_cases hm : rd q s[a] ∉ ((seq s q).take b).take a
        · rw [decide_eq_true hm]
          refine ev_pos rfl ?_
          rw [show decide ((b : Int) ≥ (a : Int)) = false from decide_eq_false (by omega)]
          exact nx
        · rw [decide_eq_false hm]
          exact ev_neg (by simp) nx
    · refine ev_neg hc ?_
      rw [List.count_append, List.count_singleton, show (rd q s[b] == rd q s[a]) = false by simpa using fun e => hc e.symm] at nx
      have e : decide (rd q s[a] ∉ ((seq s q).take b ++ [rd q s[b]]).take a) = decide (rd q s[a] ∉ ((seq s q).take b).take a) := by
        rw [decide_eq_decide]
        by_cases hba : a ≤ b
        · rw [List.take_append_of_le_length (by rw [List.length_take, seq_len]; omega)]
        · rw [List.take_of_length_le (by simp [seq_len]; omega), List.take_of_length_le (l := (seq s q).take b) (by simp [seq_len]; omega)]
          simp [hc]
      rw [e] at nx
      simpa using nx
/-- what is asked of the whole row -/
def kindsOk (K k : Int) (n : Nat) : Prop := (K = 4 → (n : Int) ≤ k) ∧ (K = 5 → k ≤ (n : Int)) ∧ 1 ≤ K ∧ K ≤ 5
theorem l1_ok (r : Bool) (s : List Int) (hs : s.length ≤ 1000) (hq : ∀ x ∈ s, 0 ≤ x ∧ x < (q.length : Int))
    (ht : ∀ x ∈ seq s q, timesOk l[i].f0 l[i].f1 s.length ((seq s q).count x)) (hk : kindsOk l[i].f0 l[i].f1 (kp_unlike (seq s q).reverse))
    (h : Ev (fun m => provostlaw06_RuleMeans.l0 m l q ((i + 1 : Nat) : Int)) r) :
    ∀ (d a : Nat), s.length - a = d → a ≤ s.length → Ev (fun m => provostlaw06_RuleMeans.l1 m l q (i : Int) s (kindsTo (seq s q) a : Nat) (a : Int)) r := by
  intro d
  induction d with
  | zero =>
    intro a hd ha
    obtain rfl : a = s.length := by omega
    refine ev_succ ?_
    simp only [provostlaw06_RuleMeans.l1, rd_T l i hi]
    have hi60 : i < 60 := by omega
    have e : kindsTo (seq s q) s.length = kp_unlike (seq s q).reverse := by unfold kindsTo; rw [List.take_of_length_le (by rw [seq_len]; omega)]
    rw [e]
    obtain ⟨k4, k5, k1, k6⟩ := hk
    have g : Ev (fun m => provostlaw06_RuleMeans.j6 m l q (i : Int) (decide (l[i].f0 > 5))) r := by
      rw [decide_eq_false (by omega)]
      refine ev_succ ?_
      simp only [provostlaw06_RuleMeans.j6, wr (show -9223372036854775808 ≤ (i : Int) + 1 by omega) (by omega)]
      exact ev_neg (by simp) (by simpa using h)
    refine ev_neg (by omega) (ev_pos (by omega) (ev_pos (by omega) ?_))
    by_cases e4 : l[i].f0 = 4
    · have := k4 e4
      refine ev_pos e4 (ev_neg (by omega) (ev_neg (by omega) (ev_neg (by omega) g)))
    refine ev_neg e4 ?_
    by_cases e5 : l[i].f0 = 5
    · have := k5 e5
      refine ev_pos e5 (ev_neg (by omega) (ev_neg (by omega) g))
    exact ev_neg e5 (ev_neg (by omega) g)
  | succ d ih =>
    intro a hd ha
    have hlt : a < s.length := by omega
    have h1 := hq _ (List.getElem_mem hlt)
    have nx := ih (a + 1) (by omega) (by omega)
    have hlt2 : a < (seq s q).length := by rw [seq_len]; exact hlt
    rw [kinds_succ _ _ hlt2, seq_get s q a hlt] at nx
    have hkb : kindsTo (seq s q) a ≤ 1000 := by
      have := kp_unlike_le ((seq s q).take a).reverse
      rw [List.length_reverse, List.length_take] at this
      unfold kindsTo; omega
    have hmem : rd q s[a] ∈ seq s q := by rw [← seq_get s q a hlt]; exact List.getElem_mem _
    have j4 := j4_ok l q i hi hl r s _ a _ (by omega) (ht _ hmem) nx
    have g := l2_ok l q i hi hl r s hs hq (kindsTo (seq s q) a) a hlt hkb j4 s.length 0 (by omega) (by omega)
    simp only [List.take_zero, List.count_nil, List.take_nil, List.not_mem_nil, not_false_eq_true, decide_true, Int.natCast_zero] at g
    refine ev_succ ?_
    simp only [provostlaw06_RuleMeans.l1, rd_i s a hlt]
    refine ev_pos (by omega) (ev_pos (by omega) (ev_neg (by omega) ?_))
    rw [decide_eq_false (by omega)]
    refine ev_succ ?_
    simp only [provostlaw06_RuleMeans.j2]
    exact ev_neg (by simp) g
end
theorem unlike_mem : ∀ (l : List Int) (x : Int), x ∈ l → 1 ≤ kp_unlike l
  | [], _, h => by simp at h
  | y :: r, x, h => by
    rw [kp_unlike]
    by_cases hy : y ∈ r
    · have := unlike_mem r y hy; omega
    · simp [hy]
/-- one kind of label alone: each stands there as often as there are places -/
theorem unlike_one : ∀ (l : List Int), kp_unlike l ≤ 1 → ∀ x ∈ l, ∀ y ∈ l, x = y
  | [], _, x, h, _, _ => by simp at h
  | z :: r, hu, x, hx, y, hy => by
    rw [kp_unlike] at hu
    have all : ∀ w ∈ r, w = z := by
      intro w hw
      have h1 := unlike_mem r w hw
      have hz : z ∈ r := by
        by_cases hz : z ∈ r
        · exact hz
        · rw [if_neg hz] at hu; omega
      exact unlike_one r (by omega) w hw z hz
    have ex : x = z := by rcases List.mem_cons.1 hx with h | h; exact h; exact all x h
    have ey : y = z := by rcases List.mem_cons.1 hy with h | h; exact h; exact all y h
    rw [ex, ey]
theorem count_all (l : List Int) (h : kp_unlike l.reverse ≤ 1) (x : Int) (hx : x ∈ l) : l.count x = l.length := by
  rw [List.count_eq_length]
  intro y hy
  exact unlike_one l.reverse h x (by simpa using hx) y (by simpa using hy)
theorem holds_means (r : S55) (q : List Int) (h : earlyS r.f0 r.f1 r.f2 (q.length : Int) q = true) :
    (∀ x ∈ r.f2, 0 ≤ x ∧ x < (q.length : Int)) ∧ (∀ x ∈ seq r.f2 q, timesOk r.f0 r.f1 r.f2.length ((seq r.f2 q).count x)) ∧ kindsOk r.f0 r.f1 (kp_unlike (seq r.f2 q).reverse) := by
  unfold earlyS at h
  simp only [Bool.and_eq_true] at h
  obtain ⟨⟨h1, h2⟩, h3⟩ := h
  obtain ⟨hn, hK, hq⟩ := chk_facts h1
  obtain ⟨es, el⟩ := seenF_all q r.f2 fun x hx => (hq x hx).2
  unfold kpB at h3
  rw [seen_rev, left_rev, es, el] at h3
  have hmost : ∀ x, (seq r.f2 q).count x ≤ kp_most (seq r.f2 q).reverse := by
    intro x
    have := most_le x (seq r.f2 q).reverse
    rwa [List.count_reverse] at this
  have hpos : ∀ x ∈ seq r.f2 q, 1 ≤ (seq r.f2 q).count x := fun x hx => List.one_le_count_iff.2 hx
  refine ⟨hq, ?_, ?_⟩
  · intro x hx
    refine ⟨fun e => ?_, fun e => ?_, fun e => ?_⟩
    · rw [if_pos e] at h3
      have := of_decide_eq_true h3
      have a := hmost x; have b := hpos x hx; omega
    · rw [if_neg (by omega), if_pos e] at h3
      have := of_decide_eq_true h3
      rw [count_all _ (by omega) x hx, seq_len]
    · rw [if_neg (by omega), if_neg (by omega), if_pos e] at h3
      have := of_decide_eq_true h3
      have a := hmost x; omega
  · refine ⟨fun e => ?_, fun e => ?_, hK.1, hK.2⟩
    · rw [if_neg (by omega), if_neg (by omega), if_neg (by omega), if_pos e] at h3
      exact of_decide_eq_true h3
    · rw [if_neg (by omega), if_neg (by omega), if_neg (by omega), if_neg (by omega)] at h3
      have := of_decide_eq_true h3
      omega
theorem means_l0 (l : List S55) (q : List Int) (hl : l.length ≤ 60) (hs : ∀ x ∈ l, x.f2.length ≤ 30) (hq : ∀ x ∈ q, (Lit.int .i64 x).wf = true) (hq4 : q.length ≤ 40) :
    ∀ (d i : Nat), l.length - i = d → i ≤ l.length → Ev (fun m => provostlaw06_RuleMeans.l0 m l q (i : Int)) true := by
  intro d
  induction d with
  | zero =>
    intro i hd hi
    refine ev_succ ?_
    simp only [provostlaw06_RuleMeans.l0]
    exact ev_neg (by omega) (Ev.bind wakes_ev (ev_some rfl))
  | succ d ih =>
    intro i hd hi
    have hlt : i < l.length := by omega
    have h3 := hs _ (List.getElem_mem hlt)
    have nx := ih (i + 1) (by omega) (by omega)
    refine ev_succ ?_
    simp only [provostlaw06_RuleMeans.l0, row_eq, Option.bind_some, rd_T l i hlt]
    rw [List.take_of_length_le hq4]
    refine ev_pos (by omega) (ev_pos (by omega) (Ev.bind (holds_ev _ _ _ q (by omega) hq) ?_))
    by_cases hh : earlyS l[i].f0 l[i].f1 l[i].f2 (q.length : Int) q = true
    · rw [hh]
      refine ev_pos rfl ?_
      obtain ⟨a, b, c⟩ := holds_means l[i] q hh
      have := l1_ok l q i hlt hl true l[i].f2 (by omega) a b c nx l[i].f2.length 0 (by omega) (by omega)
      simpa [kindsTo, kp_unlike] using this
    · rw [Bool.not_eq_true] at hh
      rw [hh]
      refine ev_neg (by simp) ?_
      rw [wr (show -9223372036854775808 ≤ (i : Int) + 1 by omega) (by omega)]
      simpa using nx
theorem means_pure (a0 : Int) (l1 : List S55) (l2 : List Int) (l3 : List ByteArray) (g1 : l1.length ≤ maxLen) (g2 : ∀ x ∈ l2, (Lit.int .i64 x).wf = true) : ∃ k, provostlaw06_RuleMeans.f k a0 l1 l2 l3 = some true := by
  refine Ev.rounds ?_
  unfold provostlaw06_RuleMeans.f
  simp only [row_eq, Option.bind_some]
  refine Ev.bind (twin_ev l1 (by simpa [maxLen] using g1)) ?_
  exact means_l0 (twinS l1) (l2.take 40) (by unfold twinS; simp; omega) (twin_short l1) (fun x hx => g2 x (List.mem_of_mem_take hx)) (by simp; omega) _ 0 rfl (Nat.zero_le _)
theorem means_walk (a0 : Int) (A1 : Option Addr) (n1 : Nat) (l1 : List S55) (A2 : Option Addr) (n2 : Nat) (l2 : List Int) (A3 : Option Addr) (n3 : Nat) (l3 : List ByteArray) (w : World)
    (hr1 : Kd.C k55 w A1 l1.length l1) (hc1 : l1.length ≤ n1) (hr2 : Kd.C (Kd.int .i64) w A2 l2.length l2) (hc2 : l2.length ≤ n2) (hr3 : Kd.C Kd.string w A3 l3.length l3) (hc3 : l3.length ≤ n3)
    (g0 : (Lit.int .i64 a0).wf = true) (g1 : l1.length ≤ maxLen ∧ ∀ x ∈ l1, (Lit.int .i64 x.f0).wf = true ∧ (Lit.int .i64 x.f1).wf = true ∧ (x.f2.length ≤ maxLen ∧ ∀ y ∈ x.f2, (Lit.int .i64 y).wf = true))
    (g2 : l2.length ≤ maxLen ∧ ∀ x ∈ l2, (Lit.int .i64 x).wf = true) (g3 : l3.length ≤ maxLen ∧ ∀ s ∈ l3, s.size ≤ maxLen) :
    Calls Try.prog 7 #[.agg #[.int .i64 a0, .slice A1 l1.length n1, .slice A2 l2.length n2, .slice A3 l3.length n3]] w fun e w' => e = .returned (.bool true) ∧ Below w.heap.size w w' := by
  obtain ⟨k, h⟩ := means_pure a0 l1 l2 l3 g1.1 g2.2
  exact provostlaw06_RuleMeans.calls k a0 A1 n1 l1 A2 n2 l2 A3 n3 l3 true w hr1 hc1 hr2 hc2 hr3 hc3 h
end Go.Proofs.Ythdkmohgphbdeaa.PRule
