/- The pure law of RuleOne. -/
import Derived.Test.YthdkmohgphbdeaaPureRule
import Derived.Test.YthdkmohgphbdeaaPureAhead
import Derived.Test.YthdkmohgphbdeaaPRulex6
import Derived.Test.YthdkmohgphbdeaaPRulex6
import Derived.Test.YthdkmohgphbdeaaPRulex7
namespace Go.Proofs.Ythdkmohgphbdeaa.PRule
open Go.RowKit Go.Proofs.YthdkmohgphbdeaaW.PrintWords Go.Proofs.YthdkmohgphbdeaaW.PrintLast
set_option linter.unusedVariables false
def holdsR (q : List Int) (r : S55) : Bool := earlyS r.f0 r.f1 r.f2 (q.length : Int) q
def brokenTo (l : List S55) (q : List Int) : Nat → List Int
  | 0 => []
  | i + 1 => if holdsR q (rd_T55 l (i : Int)) then brokenTo l q i else brokenTo l q i ++ [(i : Int)]
theorem broken_len (l : List S55) (q : List Int) : ∀ i, (brokenTo l q i).length ≤ i
  | 0 => Nat.le_refl _
  | i + 1 => by have := broken_len l q i; rw [brokenTo]; split <;> simp <;> omega
theorem broken_l0 (l : List S55) (q : List Int) (hl : l.length ≤ 60) (hs : ∀ x ∈ l, x.f2.length ≤ 30) (hq : ∀ x ∈ q, (Lit.int .i64 x).wf = true) :
    ∀ (d i : Nat), l.length - i = d → i ≤ l.length → Ev (fun m => rule_Broken.l0 m q (brokenTo l q i) l (l.length : Int) (i : Int)) (brokenTo l q l.length) := by
  intro d
  induction d with
  | zero =>
    intro i hd hi
    refine ev_succ ?_
    simp only [rule_Broken.l0]
    refine ev_neg (by omega) (ev_some ?_)
    rw [show i = l.length by omega]
  | succ d ih =>
    intro i hd hi
    have hlt : i < l.length := by omega
    refine ev_succ ?_
    simp only [rule_Broken.l0]
    have h3 := hs _ (List.getElem_mem hlt)
    have nx := ih (i + 1) (by omega) (by omega)
    rw [brokenTo, rd_T l i hlt, Int.natCast_add] at nx
    simp only [rd_T l i hlt, wr (show -9223372036854775808 ≤ (i : Int) + 1 by omega) (by omega)]
    refine ev_pos (by omega) (ev_pos (by omega) (ev_pos (by omega) (Ev.bind (holds_ev _ _ _ q (by omega) hq) ?_)))
    have hb := broken_len l q i
    by_cases hh : holdsR q l[i] = true
    · rw [if_pos hh] at nx
      exact ev_pos hh nx
    · rw [if_neg hh] at nx
      exact ev_neg hh (ev_pos (by omega) nx)
theorem broken_ev (l : List S55) (q : List Int) (hl : l.length ≤ 60) (hs : ∀ x ∈ l, x.f2.length ≤ 30) (hq : ∀ x ∈ q, (Lit.int .i64 x).wf = true) : Ev (fun m => rule_Broken.f m l q) (brokenTo l q l.length) := broken_l0 l q hl hs hq l.length 0 rfl (Nat.zero_le _)
theorem refbroken_l0 (l : List S55) (q : List Int) (hl : l.length ≤ 60) (hs : ∀ x ∈ l, x.f2.length ≤ 30) :
    ∀ (d i : Nat), l.length - i = d → i ≤ l.length → Ev (fun m => provostref06_Broken.l0 m l q (brokenTo l q i) (i : Int)) (brokenTo l q l.length) := by
  intro d
  induction d with
  | zero =>
    intro i hd hi
    refine ev_succ ?_
    simp only [provostref06_Broken.l0]
    refine ev_neg (by omega) (ev_some ?_)
    rw [show i = l.length by omega]
  | succ d ih =>
    intro i hd hi
    have hlt : i < l.length := by omega
    refine ev_succ ?_
    simp only [provostref06_Broken.l0]
    have h3 := hs _ (List.getElem_mem hlt)
    have nx := ih (i + 1) (by omega) (by omega)
    rw [brokenTo, rd_T l i hlt, Int.natCast_add] at nx
    simp only [rd_T l i hlt, wr (show -9223372036854775808 ≤ (i : Int) + 1 by omega) (by omega)]
    refine ev_pos (by omega) (ev_pos (by omega) (Ev.bind (refholds_ev _ _ _ q (by omega)) ?_))
    have hb := broken_len l q i
    by_cases hh : holdsR q l[i] = true
    · rw [if_pos hh] at nx
      exact ev_pos hh nx
    · rw [if_neg hh] at nx
      exact ev_neg hh (ev_pos (by omega) nx)
theorem refbroken_ev (l : List S55) (q : List Int) (hl : l.length ≤ 60) (hs : ∀ x ∈ l, x.f2.length ≤ 30) : Ev (fun m => provostref06_Broken.f m l q) (brokenTo l q l.length) := refbroken_l0 l q hl hs l.length 0 rfl (Nat.zero_le _)
theorem ints_l0 (l : List Int) (hl : l.length ≤ 999999999) : ∀ (d i : Nat), l.length - i = d → i ≤ l.length → Ev (fun m => provostkeep_Ints.l0 m l l (i : Int)) true := by
  intro d
  induction d with
  | zero =>
    intro i hd hi
    refine ev_succ ?_
    simp only [provostkeep_Ints.l0]
    exact ev_neg (by omega) (ev_some rfl)
  | succ d ih =>
    intro i hd hi
    refine ev_succ ?_
    simp only [provostkeep_Ints.l0, wr (show -9223372036854775808 ≤ (i : Int) + 1 by omega) (by omega)]
    have nx := ih (i + 1) (by omega) (by omega)
    rw [Int.natCast_add] at nx
    exact ev_pos (by omega) (ev_pos (by omega) (ev_pos (by omega) (ev_pos trivial nx)))
theorem ints_ev (l : List Int) (hl : l.length ≤ 999999999) : Ev (fun m => provostkeep_Ints.f m l l) true := ev_pos rfl (ints_l0 l hl l.length 0 rfl (Nat.zero_le _))
theorem cutS_cutS (r : S55) (h : r.f2.length ≤ 30) : cutS r = r := by unfold cutS; rw [List.take_of_length_le h]
theorem twin_twin (l : List S55) (hl : l.length ≤ 60) (hs : ∀ x ∈ l, x.f2.length ≤ 30) : twinS l = l := by
  unfold twinS
  rw [List.take_of_length_le hl]
  conv => rhs; rw [← List.map_id l]
  exact List.map_congr_left fun x hx => cutS_cutS x (hs x hx)
theorem one_l0 (a0 : Int) (l1 : List S55) (l2 : List Int) (l3 : List ByteArray) (l : List S55) (q : List Int) (hl : l.length ≤ 60) (hs : ∀ x ∈ l, x.f2.length ≤ 30) (hq : ∀ x ∈ q, (Lit.int .i64 x).wf = true) (hq4 : q.length ≤ 40) :
    ∀ (d i : Nat), l.length - i = d → i ≤ l.length → Ev (fun m => provostlaw06_RuleOne.l0 m l q (i : Int) a0 l1 l2 l3) true := by
  intro d
  induction d with
  | zero =>
    intro i hd hi
    refine ev_succ ?_
    simp only [provostlaw06_RuleOne.l0, row_eq, Option.bind_some]
    rw [List.take_of_length_le hq4]
    have ht := twin_ev l (by omega)
    rw [twin_twin l hl hs] at ht
    refine ev_neg (by omega) (Ev.bind ht (Ev.bind (broken_ev l q hl hs hq) (Ev.bind (refbroken_ev l q hl hs) (Ev.bind (ints_ev _ ?_) (ev_pos rfl (Ev.bind wakes_ev (ev_some rfl)))))))
    have := broken_len l q l.length
    omega
  | succ d ih =>
    intro i hd hi
    have hlt : i < l.length := by omega
    refine ev_succ ?_
    simp only [provostlaw06_RuleOne.l0, row_eq, Option.bind_some, rd_T l i hlt]
    rw [List.take_of_length_le hq4]
    have h3 := hs _ (List.getElem_mem hlt)
    have nx := ih (i + 1) (by omega) (by omega)
    rw [Int.natCast_add] at nx
    have j1 : ∀ b, b = false → Ev (fun m => provostlaw06_RuleOne.j1 m l q (i : Int) b a0 l1 l2 l3) true := by
      intro b hb
      refine ev_succ ?_
      simp only [provostlaw06_RuleOne.j1, hb, Bool.false_eq_true, if_false, wr (show -9223372036854775808 ≤ (i : Int) + 1 by omega) (by omega)]
      exact nx
    refine ev_pos (by omega) (ev_pos (by omega) (Ev.bind (check_ev _ _ _ _ (by omega)) (Ev.bind (refcheck_ev _ _ _ _ (by omega)) ?_)))
    have hh : Ev (fun k => (rule_Holds.f k l[i].f0 l[i].f1 l[i].f2 q).bind fun t214 => (provostref06_Holds.f k l[i].f0 l[i].f1 l[i].f2 q).bind fun t216 => provostlaw06_RuleOne.j1 k l q (i : Int) (t214 != t216) a0 l1 l2 l3) true :=
      Ev.bind (holds_ev _ _ _ q (by omega) hq) (Ev.bind (refholds_ev _ _ _ q (by omega)) (j1 _ (by simp)))
    cases hc : chk a0 l[i].f0 l[i].f1 l[i].f2 with
    | true => exact ev_neg (by decide) (ev_pos rfl hh)
    | false => exact ev_neg (by decide) (ev_neg (by decide) (ev_pos rfl hh))
theorem one_pure (a0 : Int) (l1 : List S55) (l2 : List Int) (l3 : List ByteArray) (g1 : l1.length ≤ maxLen) (g2 : ∀ x ∈ l2, (Lit.int .i64 x).wf = true) : ∃ k, provostlaw06_RuleOne.f k a0 l1 l2 l3 = some true := by
  refine Ev.rounds ?_
  unfold provostlaw06_RuleOne.f
  simp only [row_eq, Option.bind_some]
  refine Ev.bind (twin_ev l1 (by simpa [maxLen] using g1)) ?_
  exact one_l0 a0 l1 l2 l3 (twinS l1) (l2.take 40) (by unfold twinS; simp; omega) (twin_short l1) (fun x hx => g2 x (List.mem_of_mem_take hx)) (by simp; omega) _ 0 rfl (Nat.zero_le _)
theorem one_walk (a0 : Int) (A1 : Option Addr) (n1 : Nat) (l1 : List S55) (A2 : Option Addr) (n2 : Nat) (l2 : List Int) (A3 : Option Addr) (n3 : Nat) (l3 : List ByteArray) (w : World)
    (hr1 : Kd.C k55 w A1 l1.length l1) (hc1 : l1.length ≤ n1) (hr2 : Kd.C (Kd.int .i64) w A2 l2.length l2) (hc2 : l2.length ≤ n2) (hr3 : Kd.C Kd.string w A3 l3.length l3) (hc3 : l3.length ≤ n3)
    (g0 : (Lit.int .i64 a0).wf = true) (g1 : l1.length ≤ maxLen ∧ ∀ x ∈ l1, (Lit.int .i64 x.f0).wf = true ∧ (Lit.int .i64 x.f1).wf = true ∧ (x.f2.length ≤ maxLen ∧ ∀ y ∈ x.f2, (Lit.int .i64 y).wf = true))
    (g2 : l2.length ≤ maxLen ∧ ∀ x ∈ l2, (Lit.int .i64 x).wf = true) (g3 : l3.length ≤ maxLen ∧ ∀ s ∈ l3, s.size ≤ maxLen) :
    Calls Try.prog 10 #[.agg #[.int .i64 a0, .slice A1 l1.length n1, .slice A2 l2.length n2, .slice A3 l3.length n3]] w fun e w' => e = .returned (.bool true) ∧ Below w.heap.size w w' := by
  obtain ⟨k, h⟩ := one_pure a0 l1 l2 l3 g1.1 g2.2
  exact provostlaw06_RuleOne.calls k a0 A1 n1 l1 A2 n2 l2 A3 n3 l3 true w hr1 hc1 hr2 hc2 hr3 hc3 h
end Go.Proofs.Ythdkmohgphbdeaa.PRule
