/- The pure law of RuleAhead. -/
import Derived.Test.YthdkmohgphbdeaaPureRule
import Derived.Test.YthdkmohgphbdeaaPRulex12
namespace Go.Proofs.Ythdkmohgphbdeaa.PRule
open Go.RowKit Go.Proofs.YthdkmohgphbdeaaW.PrintWords Go.Proofs.YthdkmohgphbdeaaW.PrintLast
set_option linter.unusedVariables false
theorem twin_short (l : List S55) : ∀ x ∈ twinS l, x.f2.length ≤ 30 := by
  intro x hx
  obtain ⟨y, _, rfl⟩ := List.mem_map.1 hx
  simp only [cutS, List.length_take]
  omega
theorem ahead_l0 (a0 : Int) (l1 : List S55) (l2 : List Int) (l3 : List ByteArray) (l : List S55) (q : List Int) (hl : l.length ≤ 60) (hs : ∀ x ∈ l, x.f2.length ≤ 30) (hq : ∀ x ∈ q, (Lit.int .i64 x).wf = true) (hq4 : q.length ≤ 40) :
    ∀ (d i : Nat), l.length - i = d → i ≤ l.length → Ev (fun m => provostlaw06_RuleAhead.l0 m l q (i : Int) a0 l1 l2 l3) true := by
  intro d
  induction d with
  | zero =>
    intro i hd hi
    refine ev_succ ?_
    simp only [provostlaw06_RuleAhead.l0]
    exact ev_neg (by omega) (Ev.bind wakes_ev (ev_some rfl))
  | succ d ih =>
    intro i hd hi
    have hlt : i < l.length := by omega
    refine ev_succ ?_
    simp only [provostlaw06_RuleAhead.l0, row_eq, Option.bind_some, rd_T l i hlt]
    rw [List.take_of_length_le hq4]
    have h3 := hs _ (List.getElem_mem hlt)
    refine ev_pos (by omega) (ev_pos (by omega) (Ev.bind (early_ev _ _ _ a0 q (by omega) hq) (Ev.bind (refearly_ev _ _ _ a0 q (by omega)) ?_)))
    refine ev_neg (by simp) ?_
    have := ih (i + 1) (by omega) (by omega)
    simp only [wr (show -9223372036854775808 ≤ (i : Int) + 1 by omega) (by omega)]
    rw [Int.natCast_add] at this
    exact this
theorem ahead_pure (a0 : Int) (l1 : List S55) (l2 : List Int) (l3 : List ByteArray) (g1 : l1.length ≤ maxLen) (g2 : ∀ x ∈ l2, (Lit.int .i64 x).wf = true) : ∃ k, provostlaw06_RuleAhead.f k a0 l1 l2 l3 = some true := by
  refine Ev.rounds ?_
  unfold provostlaw06_RuleAhead.f
  simp only [row_eq, Option.bind_some]
  refine Ev.bind (twin_ev l1 (by simpa [maxLen] using g1)) ?_
  refine ahead_l0 a0 l1 l2 l3 (twinS l1) (l2.take 40) (by unfold twinS; simp; omega) (twin_short l1) (fun x hx => g2 x (List.mem_of_mem_take hx)) (by simp; omega) _ 0 rfl (Nat.zero_le _)
theorem ahead_walk (a0 : Int) (A1 : Option Addr) (n1 : Nat) (l1 : List S55) (A2 : Option Addr) (n2 : Nat) (l2 : List Int) (A3 : Option Addr) (n3 : Nat) (l3 : List ByteArray) (w : World)
    (hr1 : Kd.C k55 w A1 l1.length l1) (hc1 : l1.length ≤ n1) (hr2 : Kd.C (Kd.int .i64) w A2 l2.length l2) (hc2 : l2.length ≤ n2) (hr3 : Kd.C Kd.string w A3 l3.length l3) (hc3 : l3.length ≤ n3)
    (g0 : (Lit.int .i64 a0).wf = true) (g1 : l1.length ≤ maxLen ∧ ∀ x ∈ l1, (Lit.int .i64 x.f0).wf = true ∧ (Lit.int .i64 x.f1).wf = true ∧ (x.f2.length ≤ maxLen ∧ ∀ y ∈ x.f2, (Lit.int .i64 y).wf = true))
    (g2 : l2.length ≤ maxLen ∧ ∀ x ∈ l2, (Lit.int .i64 x).wf = true) (g3 : l3.length ≤ maxLen ∧ ∀ s ∈ l3, s.size ≤ maxLen) :
    Calls Try.prog 9 #[.agg #[.int .i64 a0, .slice A1 l1.length n1, .slice A2 l2.length n2, .slice A3 l3.length n3]] w fun e w' => e = .returned (.bool true) ∧ Below w.heap.size w w' := by
  obtain ⟨k, h⟩ := ahead_pure a0 l1 l2 l3 g1.1 g2.2
  exact provostlaw06_RuleAhead.calls k a0 A1 n1 l1 A2 n2 l2 A3 n3 l3 true w hr1 hc1 hr2 hc2 hr3 hc3 h
end Go.Proofs.Ythdkmohgphbdeaa.PRule
