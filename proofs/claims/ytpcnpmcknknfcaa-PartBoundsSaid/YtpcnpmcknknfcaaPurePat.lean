/- Plain facts on patterns: few, the pattern of labels. -/
import Derived.Test.YtpcnpmcknknfcaaPPbox1
import Derived.Test.YtpcnpmcknknfcaaPPbox1
import Derived.Test.YtpcnpmcknknfcaaPPbox1
import Derived.Test.YtpcnpmcknknfcaaPPbox1
import Derived.Test.YtpcnpmcknknfcaaPPbox1
import Derived.Test.YtpcnpmcknknfcaaPPbox2
namespace Go.Proofs.Ytpcnpmcknknfcaa.PPbo
open Go.RowKit Go.Proofs.YtpcnpmcknknfcaaW.PrintWords Go.Proofs.YtpcnpmcknknfcaaW.PrintLast Go.Proofs.YtpcnpmcknknfcaaW.PrintMore Go.Proofs.YtpcnpmcknknfcaaW.Mine
set_option linter.unusedVariables false
theorem ints_l0 (l : List Int) (hl : l.length ≤ 999999999) : ∀ (d i : Nat), l.length - i = d → i ≤ l.length → Ev (fun m => provostkeep_Ints.l0 m l l (i : Int)) true := by
  intro d
  induction d with
  | zero =>
    intro i hd hi
    refine ev_succ ?_
    simp only [provostkeep_Ints.l0]
    exact ev_neg (by omega) (ev_some rfl)
  | succ d ih =>
    intro i hd hi
    refine ev_succ ?_
    simp only [provostkeep_Ints.l0, wr (i := (i : Int)) (by omega) (by omega)]
    have nx := ih (i + 1) (by omega) (by omega)
    rw [Int.natCast_add] at nx
    exact ev_pos (by omega) (ev_pos (by omega) (ev_pos (by omega) (ev_pos trivial nx)))
theorem ints_ev (l : List Int) (hl : l.length ≤ 999999999) : Ev (fun m => provostkeep_Ints.f m l l) true := ev_pos rfl (ints_l0 l hl l.length 0 rfl (Nat.zero_le _))
theorem few_eq (l : List Int) (n : Nat) (h : l.length ≤ 17592186043904) : provostlaw02_few.f l (n : Int) = some (l.take n) := by
  unfold provostlaw02_few.f
  by_cases h1 : (l.length : Int) > n
  · rw [if_pos h1, if_pos (by omega), if_pos (by omega)]
    simp only [Option.bind_some, List.nil_append, List.length_nil, Int.toNat_natCast]
    rw [if_pos]
    rw [List.length_take]
    omega
  · rw [if_neg h1]
    simp only [Option.bind_some, List.nil_append, List.length_nil]
    rw [List.take_of_length_le (by omega)]
    rw [if_pos (by omega)]
/-! the pattern of labels -/
theorem of_at_lt : ∀ (d : List Int) (x : Int), x ∈ d → of_at d x < of_size d
  | [], _, h => by cases h
  | y :: r, x, h => by
    rw [of_at, of_size]
    by_cases hy : y ∈ r
    · rw [if_pos hy, if_pos hy]
      have := of_at_lt r x (by
        rcases List.mem_cons.1 h with h | h
        · rw [h]; exact hy
        · exact h)
      omega
    · rw [if_neg hy, if_neg hy]
      by_cases e : x = y
      · rw [if_pos e]; omega
      · rw [if_neg e]
        have := of_at_lt r x ((List.mem_cons.1 h).resolve_left e)
        omega
theorem of_at_keep (d : List Int) (x y : Int) (h : x ∈ d) : of_at (y :: d) x = of_at d x := by
  rw [of_at]
  by_cases hy : y ∈ d
  · rw [if_pos hy]
  · rw [if_neg hy, if_neg (fun e => hy (by rw [← e]; exact h))]
theorem of_at_inj : ∀ (d : List Int) (x y : Int), x ∈ d → y ∈ d → of_at d x = of_at d y → x = y
  | [], _, _, h, _, _ => by cases h
  | z :: r, x, y, hx, hy, h => by
    unfold of_at at h
    by_cases hz : z ∈ r
    · rw [if_pos hz, if_pos hz] at h
      have hm : ∀ u, u ∈ z :: r → u ∈ r := fun u hu => by
        rcases List.mem_cons.1 hu with e | e
        · rw [e]; exact hz
        · exact e
      exact of_at_inj r x y (hm x hx) (hm y hy) h
    · rw [if_neg hz, if_neg hz] at h
      by_cases ex : x = z
      · by_cases ey : y = z
        · rw [ex, ey]
        · rw [if_pos ex, if_neg ey] at h
          have := of_at_lt r y ((List.mem_cons.1 hy).resolve_left ey)
          omega
      · by_cases ey : y = z
        · rw [if_neg ex, if_pos ey] at h
          have := of_at_lt r x ((List.mem_cons.1 hx).resolve_left ex)
          omega
        · rw [if_neg ex, if_neg ey] at h
          exact of_at_inj r x y ((List.mem_cons.1 hx).resolve_left ex) ((List.mem_cons.1 hy).resolve_left ey) h
theorem of_at_far : ∀ (s d : List Int) (x : Int), x ∈ d → of_at (s ++ d) x = of_at d x
  | [], _, _, _ => rfl
  | y :: s, d, x, h => by rw [List.cons_append, of_at_keep _ _ _ (List.mem_append_right _ h), of_at_far s d x h]
/-- a label's block, all labels being known -/
theorem of_pat_map : ∀ (l d : List Int), of_pat d l = l.map fun x => ((of_at (l.reverse ++ d) x : Nat) : Int)
  | [], _ => rfl
  | x :: r, d => by
    have e : (x :: r).reverse ++ d = r.reverse ++ (x :: d) := by simp
    rw [of_pat, of_pat_map r (x :: d), e, List.map_cons, of_at_far _ _ x List.mem_cons_self]
theorem of_pat_legal : ∀ (l d : List Int), legalF (of_size d : Nat) (of_pat d l) = true ∧ usedF (of_size d : Nat) (of_pat d l) = (of_size (l.reverse ++ d) : Nat)
  | [], _ => ⟨rfl, rfl⟩
  | x :: r, d => by
    have hv : ((of_at (x :: d) x : Nat) : Int) ≤ (of_size d : Nat) ∧ max ((of_size d : Nat) : Int) (((of_at (x :: d) x : Nat) : Int) + 1) = (of_size (x :: d) : Nat) := by
      by_cases h : x ∈ d
      · have := of_at_lt d x h
        rw [of_at_keep d x x h, of_size, if_pos h]
        omega
      · rw [of_at, if_neg h, if_pos rfl, of_size, if_neg h]
        omega
    obtain ⟨h1, h2⟩ := of_pat_legal r (x :: d)
    have e : (x :: r).reverse ++ d = r.reverse ++ (x :: d) := by simp
    simp only [of_pat, legalF, usedF, List.foldl_cons]
    rw [hv.2, e]
    refine ⟨?_, h2⟩
    rw [decide_eq_true (by omega), Bool.true_and]
    exact h1
theorem pat_legal (l : List Int) : legalF 0 (of_pat [] l) = true := (of_pat_legal l []).1
theorem pat_same (l : List Int) (i k : Nat) (hi : i < l.length) (hk : k < l.length) : (rd l (i : Int) == rd l (k : Int)) = (rd (of_pat [] l) (i : Int) == rd (of_pat [] l) (k : Int)) := by
  have hl := of_pat_len l []
  rw [rd_at l i hi, rd_at l k hk, rd_at _ i (by omega), rd_at _ k (by omega)]
  have e : ∀ (j : Nat) (h : j < l.length), (of_pat [] l)[j]'(by omega) = ((of_at (l.reverse ++ []) l[j] : Nat) : Int) := by
    intro j h
    simp only [of_pat_map l [], List.getElem_map]
  rw [e i hi, e k hk]
  by_cases h : l[i] = l[k]
  · rw [h]; simp
  · have : ¬ ((of_at (l.reverse ++ []) l[i] : Nat) : Int) = ((of_at (l.reverse ++ []) l[k] : Nat) : Int) := fun he => h (of_at_inj (l.reverse ++ []) l[i] l[k] (by simp) (by simp) (by omega))
    rw [beq_eq_false_iff_ne.2 h, beq_eq_false_iff_ne.2 this]
end Go.Proofs.Ytpcnpmcknknfcaa.PPbo
