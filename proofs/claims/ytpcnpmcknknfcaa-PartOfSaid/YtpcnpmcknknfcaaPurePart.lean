/- Plain facts on patterns: Legal, Size, few. -/
import Derived.Test.YtpcnpmcknknfcaaPPofx1
import Derived.Test.YtpcnpmcknknfcaaPPofx1
import Derived.Test.YtpcnpmcknknfcaaPPofx1
import Derived.Test.YtpcnpmcknknfcaaPPofx1
import Derived.Test.YtpcnpmcknknfcaaPPofx3
import Derived.Test.YtpcnpmcknknfcaaPPofx1
namespace Go.Proofs.Ytpcnpmcknknfcaa.PPof
open Go.RowKit Go.Proofs.YtpcnpmcknknfcaaW.PrintWords Go.Proofs.YtpcnpmcknknfcaaW.PrintLast Go.Proofs.YtpcnpmcknknfcaaW.PrintMore Go.Proofs.YtpcnpmcknknfcaaW.Mine
set_option linter.unusedVariables false
theorem ev_succ {α : Type} {g : Nat → Option α} {r : α} (h : Ev (fun k => g (k + 1)) r) : Ev g r := Ev.step (fun _ => rfl) h
theorem ev_some {α : Type} {r r' : α} (h : r = r') : Ev (fun _ => some r) r' := by subst h; exact Ev.now r
theorem ev_pos {α : Type} {c : Prop} [Decidable c] {f g : Nat → Option α} {r : α} (h : c) (e : Ev f r) : Ev (fun k => if c then f k else g k) r := by simp only [h, if_true]; exact e
theorem ev_neg {α : Type} {c : Prop} [Decidable c] {f g : Nat → Option α} {r : α} (h : ¬ c) (e : Ev g r) : Ev (fun k => if c then f k else g k) r := by simp only [h, if_false]; exact e
theorem wr {i : Int} (h0 : -9223372036854775808 ≤ i + 1) (h : i + 1 ≤ 9223372036854775807) : wrap64 (i + 1) = i + 1 := by unfold wrap64; omega
theorem rd_at (l : List Int) (i : Nat) (h : i < l.length) : rd l (i : Int) = l[i] := by
  unfold rd; rw [Int.toNat_natCast, List.getD_eq_getElem?_getD, List.getElem?_eq_getElem h]; rfl
/-- how many blocks there are behind a row, u being there ahead of it -/
def usedF (u : Int) (a : List Int) : Int := a.foldl (fun u x => max u (x + 1)) u
def legalF (u : Int) : List Int → Bool
  | [] => true
  | x :: r => decide (0 ≤ x ∧ x ≤ u) && legalF (max u (x + 1)) r
theorem usedF_snoc (u : Int) (a : List Int) (x : Int) : usedF u (a ++ [x]) = max (usedF u a) (x + 1) := by simp [usedF]
theorem mx_max (a b : Int) : mx a b = max a b := by unfold mx; simp only [Int.max_def]; split <;> split <;> omega
theorem legal_l0 (a : List Int) (ha : a.length ≤ 25) (d : Nat) : ∀ (i : Nat) (u : Int), a.length - i = d → i ≤ a.length → 0 ≤ u → u ≤ i →
    Ev (fun k => part_Legal.l0 k u a (a.length : Int) (i : Int)) (legalF u (a.drop i)) := by
  induction d with
  | zero =>
    intro i u hd hi h0 hu
    refine ev_succ ?_
    simp only [part_Legal.l0]
    rw [List.drop_eq_nil_of_le (by omega)]
    exact ev_neg (by omega) (ev_some rfl)
  | succ d ih =>
    intro i u hd hi h0 hu
    have hlt : i < a.length := by omega
    refine ev_succ ?_
    simp only [part_Legal.l0]
    rw [rd_at a i hlt, List.drop_eq_getElem_cons hlt]
    refine ev_pos (by omega) (ev_pos (by omega) (ev_pos (by omega) ?_))
    simp only [legalF]
    by_cases h1 : a[i] < 0
    · refine ev_pos h1 ?_
      rw [decide_eq_false (p := (0 ≤ a[i] ∧ a[i] ≤ u)) (by omega), Bool.false_and]
      refine ev_succ ?_
      simp only [part_Legal.j1]
      exact ev_pos trivial (ev_some rfl)
    · refine ev_neg h1 ?_
      by_cases h2 : a[i] > u
      · rw [decide_eq_false (p := (0 ≤ a[i] ∧ a[i] ≤ u)) (by omega), Bool.false_and, decide_eq_true h2]
        refine ev_succ ?_
        simp only [part_Legal.j1]
        exact ev_pos trivial (ev_some rfl)
      · rw [decide_eq_true (p := (0 ≤ a[i] ∧ a[i] ≤ u)) (by omega), Bool.true_and, decide_eq_false h2]
        refine ev_succ ?_
        simp only [part_Legal.j1]
        refine ev_neg (by decide) ?_
        rw [wr (by omega) (by omega), wr (by omega) (by omega), mx_max]
        exact ih (i + 1) (max u (a[i] + 1)) (by omega) (by omega) (by omega) (by omega)
theorem legal_ev (a : List Int) : Ev (fun k => part_Legal.f k a) (decide (a.length ≤ 25) && legalF 0 a) := by
  unfold part_Legal.f
  by_cases h : (a.length : Int) > 25
  · rw [decide_eq_false (p := a.length ≤ 25) (by omega), Bool.false_and]
    exact ev_pos h (ev_some rfl)
  · rw [decide_eq_true (p := a.length ≤ 25) (by omega), Bool.true_and]
    refine ev_neg h ?_
    have := legal_l0 a (by omega) a.length 0 0 (by omega) (by omega) (by omega) (by omega)
    simpa using this
theorem few_eq (l : List Int) (n : Nat) (h : l.length ≤ 17592186043904) : provostlaw02_few.f l (n : Int) = some (l.take n) := by
  unfold provostlaw02_few.f
  by_cases h1 : (l.length : Int) > n
  · rw [if_pos h1, if_pos (by omega), if_pos (by omega)]
    simp only [Option.bind_some, List.nil_append, List.length_nil, Int.toNat_natCast]
    rw [if_pos]
    rw [List.length_take]
    omega
  · rw [if_neg h1]
    simp only [Option.bind_some, List.nil_append, List.length_nil]
    rw [List.take_of_length_le (by omega)]
    rw [if_pos (by omega)]
/-! legal rows: every number below the number of blocks is there -/
theorem used_ge : ∀ (a : List Int) (u : Int), u ≤ usedF u a
  | [], _ => Int.le_refl _
  | x :: r, u => by
    have := used_ge r (max u (x + 1))
    simp only [usedF, List.foldl_cons] at *
    omega
theorem used_mem : ∀ (a : List Int) (u : Int) (x : Int), x ∈ a → x + 1 ≤ usedF u a
  | [], _, _, h => by cases h
  | y :: r, u, x, h => by
    rcases List.mem_cons.1 h with h | h
    · have := used_ge r (max u (y + 1))
      subst h
      simp only [usedF, List.foldl_cons] at *
      omega
    · exact used_mem r _ x h
theorem legal_mem : ∀ (a : List Int) (u : Int), legalF u a = true → ∀ x ∈ a, 0 ≤ x
  | [], _, _, _, h => by cases h
  | y :: r, u, hl, x, h => by
    simp only [legalF, Bool.and_eq_true, decide_eq_true_eq] at hl
    rcases List.mem_cons.1 h with h | h
    · rw [h]; exact hl.1.1
    · exact legal_mem r _ hl.2 x h
theorem legal_all : ∀ (a : List Int) (u : Int), legalF u a = true → 0 ≤ u → ∀ v, u ≤ v → v < usedF u a → v ∈ a
  | [], u, _, _, v, h1, h2 => by simp only [usedF, List.foldl_nil] at h2; omega
  | y :: r, u, hl, h0, v, h1, h2 => by
    simp only [legalF, Bool.and_eq_true, decide_eq_true_eq] at hl
    by_cases hv : v = y
    · rw [hv]; exact List.mem_cons_self
    · refine List.mem_cons_of_mem _ (legal_all r _ hl.2 (by omega) v (by omega) ?_)
      simpa [usedF] using h2
theorem used_len : ∀ (a : List Int) (u : Int), legalF u a = true → usedF u a ≤ u + a.length
  | [], u, _ => by simp [usedF]
  | y :: r, u, hl => by
    simp only [legalF, Bool.and_eq_true, decide_eq_true_eq] at hl
    have := used_len r _ hl.2
    simp only [usedF, List.foldl_cons, List.length_cons] at *
    omega
theorem top_used (a : List Int) (h : 0 < a.length) (hn : ∀ x ∈ a, 0 ≤ x) : slices_Max_int_int.top a + 1 = usedF 0 a := by
  have key : ∀ (l : List Int) (m : Int), (l.foldl mx2 m) + 1 = usedF (m + 1) l := by
    intro l
    induction l with
    | nil => intro m; rfl
    | cons x r ih =>
      intro m
      have := ih (mx2 m x)
      simp only [usedF, List.foldl_cons] at *
      rw [this]
      congr 1
      unfold mx2
      omega
  match a, h with
  | x :: r, _ =>
    unfold slices_Max_int_int.top
    have hr : rd (x :: r) 0 = x := rfl
    have hx := hn x List.mem_cons_self
    rw [key, hr]
    simp only [usedF, List.foldl_cons]
    congr 1
    omega
theorem size_ev (a : List Int) (hl : legalF 0 a = true) (h25 : a.length ≤ 25) : Ev (fun k => part_Size.f k a) (usedF 0 a) := by
  unfold part_Size.f
  have h := legal_ev a
  rw [hl, decide_eq_true h25] at h
  refine Ev.bind h (ev_pos rfl ?_)
  refine ev_succ ?_
  simp only [part_Size.j0]
  by_cases h0 : a.length = 0
  · obtain rfl := List.eq_nil_of_length_eq_zero h0
    exact ev_pos rfl (ev_some rfl)
  · refine ev_neg (by simp; intro e; exact h0 (by rw [e]; rfl)) ?_
    have hm := legal_mem a 0 hl
    have ht := top_used a (by omega) hm
    have hu := used_len a 0 hl
    have hg := used_ge a 0
    have hf : slices_Max_int_int.f a = some (slices_Max_int_int.top a) := by unfold slices_Max_int_int.f; rw [if_pos (by omega)]
    rw [hf]
    simp only [Option.bind_some]
    refine ev_some ?_
    rw [wr (by omega) (by omega), ht]
/-! blocks -/
/-- the places of a number in a row, the first place being o -/
def idxF (b : Int) : Nat → List Int → List Int
  | _, [] => []
  | o, x :: r => if x = b then (o : Int) :: idxF b (o + 1) r else idxF b (o + 1) r
theorem idx_snoc (b : Int) : ∀ (l : List Int) (o : Nat) (x : Int), idxF b o (l ++ [x]) = idxF b o l ++ if x = b then [((o + l.length : Nat) : Int)] else []
  | [], o, x => by by_cases h : x = b <;> simp [idxF, h]
  | y :: l, o, x => by
    simp only [List.cons_append, idxF, List.length_cons]
    rw [idx_snoc b l (o + 1) x, show o + 1 + l.length = o + (l.length + 1) by omega]
    split <;> simp
def blocksOf (a : List Int) (m : Nat) : List (List Int) := (List.range m).map fun (b : Nat) => idxF (b : Int) 0 a
theorem blocks_get (a : List Int) (m b : Nat) (h : b < m) : rd_L1 (blocksOf a m) (b : Int) = idxF (b : Int) 0 a := by
  unfold rd_L1 blocksOf
  rw [Int.toNat_natCast, List.getD_eq_getElem?_getD, List.getElem?_map, List.getElem?_range h]
  rfl
theorem blocks_step (a : List Int) (m b : Nat) (h : b < m) : (blocksOf a m).set b (idxF (b : Int) 0 a ++ [(a.length : Int)]) = blocksOf (a ++ [(b : Int)]) m := by
  apply List.ext_getElem?
  intro j
  unfold blocksOf
  rw [List.getElem?_set, List.getElem?_map, List.getElem?_map]
  by_cases hj : j < m
  · rw [List.getElem?_range hj]
    simp only [Option.map_some, List.length_map, List.length_range]
    rw [idx_snoc, Nat.zero_add]
    by_cases e : b = j
    · subst e; simp [hj]
    · rw [if_neg e, if_neg (by omega), List.append_nil]
  · rw [List.getElem?_eq_none (by simpa using hj)]
    simp only [Option.map_none, List.length_map, List.length_range]
    split
    · exfalso; omega
    · rfl
theorem blocks_l0 (a : List Int) (m : Nat) (ha : a.length ≤ 25) (hm : ∀ x ∈ a, 0 ≤ x ∧ x < m) (d : Nat) : ∀ (i : Nat), a.length - i = d → i ≤ a.length →
    Ev (fun k => part_Blocks.l0 k (blocksOf (a.take i) m) a (a.length : Int) (i : Int)) (blocksOf a m) := by
  have hlen : ∀ l : List Int, (blocksOf l m).length = m := fun l => by simp [blocksOf]
  have hil : ∀ (b : Int) (l : List Int) (o : Nat), (idxF b o l).length ≤ l.length := by
    intro b l
    induction l with
    | nil => intro o; exact Nat.le_refl _
    | cons x r ih =>
      intro o
      have := ih (o + 1)
      simp only [idxF]
      split <;> simp only [List.length_cons] <;> omega
  induction d with
  | zero =>
    intro i hd hi
    obtain rfl : i = a.length := by omega
    refine ev_succ ?_
    simp only [part_Blocks.l0]
    rw [List.take_length]
    exact ev_neg (by omega) (ev_some rfl)
  | succ d ih =>
    intro i hd hi
    have hlt : i < a.length := by omega
    obtain ⟨h0, h1⟩ := hm _ (List.getElem_mem hlt)
    obtain ⟨b, hb⟩ := Int.eq_ofNat_of_zero_le h0
    have hbm : b < m := by omega
    have hl := hil (b : Int) (a.take i) 0
    rw [List.length_take] at hl
    refine ev_succ ?_
    simp only [part_Blocks.l0]
    rw [rd_at a i hlt, hb, blocks_get _ m b hbm]
    refine ev_pos (by omega) (ev_pos (by omega) (ev_pos (by omega) (ev_pos (by omega) (ev_pos (by rw [hlen]; omega) (ev_pos (by omega) ?_)))))
    have hlt2 : (a.take i).length = i := by rw [List.length_take]; omega
    have hs := blocks_step (a.take i) m b hbm
    rw [hlt2] at hs
    rw [wr (by omega) (by omega), Int.toNat_natCast, hs]
    have := ih (i + 1) (by omega) (by omega)
    rw [List.take_succ_eq_append_getElem hlt, hb] at this
    simpa using this
theorem blocks_ev (a : List Int) (hl : legalF 0 a = true) (h25 : a.length ≤ 25) : Ev (fun k => part_Blocks.f k a) (blocksOf a (usedF 0 a).toNat) := by
  have hu := used_len a 0 hl
  have hg := used_ge a 0
  unfold part_Blocks.f
  refine Ev.bind (size_ev a hl h25) (ev_pos (by omega) (ev_pos (by omega) ?_))
  simp only [Option.bind_some, List.length_replicate]
  by_cases h0 : ((usedF 0 a).toNat : Int) = 0
  · refine ev_pos h0 (ev_some ?_)
    rw [show (usedF 0 a).toNat = 0 by omega]
    rfl
  · refine ev_neg h0 ?_
    have hm : ∀ x ∈ a, 0 ≤ x ∧ x < ((usedF 0 a).toNat : Int) := fun x hx => ⟨legal_mem a 0 hl x hx, by have := used_mem a 0 x hx; omega⟩
    have := blocks_l0 a (usedF 0 a).toNat h25 hm a.length 0 (by omega) (by omega)
    have e : blocksOf (a.take 0) (usedF 0 a).toNat = List.replicate (usedF 0 a).toNat [] := by
      rw [List.take_zero]
      unfold blocksOf
      simp only [idxF]
      rw [List.map_const', List.length_range]
    rw [e] at this
    exact this
/-! the pattern of labels -/
theorem of_at_lt : ∀ (d : List Int) (x : Int), x ∈ d → of_at d x < of_size d
  | [], _, h => by cases h
  | y :: r, x, h => by
    rw [of_at, of_size]
    by_cases hy : y ∈ r
    · rw [if_pos hy, if_pos hy]
      have := of_at_lt r x (by
        rcases List.mem_cons.1 h with h | h
        · rw [h]; exact hy
        · exact h)
      omega
    · rw [if_neg hy, if_neg hy]
      by_cases e : x = y
      · rw [if_pos e]; omega
      · rw [if_neg e]
        have := of_at_lt r x ((List.mem_cons.1 h).resolve_left e)
        omega
theorem of_at_keep (d : List Int) (x y : Int) (h : x ∈ d) : of_at (y :: d) x = of_at d x := by
  rw [of_at]
  by_cases hy : y ∈ d
  · rw [if_pos hy]
  · rw [if_neg hy, if_neg (fun e => hy (by rw [← e]; exact h))]
theorem of_at_inj : ∀ (d : List Int) (x y : Int), x ∈ d → y ∈ d → of_at d x = of_at d y → x = y
  | [], _, _, h, _, _ => by cases h
  | z :: r, x, y, hx, hy, h => by
    unfold of_at at h
    by_cases hz : z ∈ r
    · rw [if_pos hz, if_pos hz] at h
      have hm : ∀ u, u ∈ z :: r → u ∈ r := fun u hu => by
        rcases List.mem_cons.1 hu with e | e
        · rw [e]; exact hz
        · exact e
      exact of_at_inj r x y (hm x hx) (hm y hy) h
    · rw [if_neg hz, if_neg hz] at h
      by_cases ex : x = z
      · by_cases ey : y = z
        · rw [ex, ey]
        · rw [if_pos ex, if_neg ey] at h
          have := of_at_lt r y ((List.mem_cons.1 hy).resolve_left ey)
          omega
      · by_cases ey : y = z
        · rw [if_neg ex, if_pos ey] at h
          have := of_at_lt r x ((List.mem_cons.1 hx).resolve_left ex)
          omega
        · rw [if_neg ex, if_neg ey] at h
          exact of_at_inj r x y ((List.mem_cons.1 hx).resolve_left ex) ((List.mem_cons.1 hy).resolve_left ey) h
theorem of_at_far : ∀ (s d : List Int) (x : Int), x ∈ d → of_at (s ++ d) x = of_at d x
  | [], _, _, _ => rfl
  | y :: s, d, x, h => by rw [List.cons_append, of_at_keep _ _ _ (List.mem_append_right _ h), of_at_far s d x h]
/-- a label's block, all labels being known -/
theorem of_pat_map : ∀ (l d : List Int), of_pat d l = l.map fun x => ((of_at (l.reverse ++ d) x : Nat) : Int)
  | [], _ => rfl
  | x :: r, d => by
    have e : (x :: r).reverse ++ d = r.reverse ++ (x :: d) := by simp
    rw [of_pat, of_pat_map r (x :: d), e, List.map_cons, of_at_far _ _ x List.mem_cons_self]
theorem of_pat_legal : ∀ (l d : List Int), legalF (of_size d : Nat) (of_pat d l) = true ∧ usedF (of_size d : Nat) (of_pat d l) = (of_size (l.reverse ++ d) : Nat)
  | [], _ => ⟨rfl, rfl⟩
  | x :: r, d => by
    have hv : ((of_at (x :: d) x : Nat) : Int) ≤ (of_size d : Nat) ∧ max ((of_size d : Nat) : Int) (((of_at (x :: d) x : Nat) : Int) + 1) = (of_size (x :: d) : Nat) := by
      by_cases h : x ∈ d
      · have := of_at_lt d x h
        rw [of_at_keep d x x h, of_size, if_pos h]
        omega
      · rw [of_at, if_neg h, if_pos rfl, of_size, if_neg h]
        omega
    obtain ⟨h1, h2⟩ := of_pat_legal r (x :: d)
    have e : (x :: r).reverse ++ d = r.reverse ++ (x :: d) := by simp
    simp only [of_pat, legalF, usedF, List.foldl_cons]
    rw [hv.2, e]
    refine ⟨?_, h2⟩
    rw [decide_eq_true (by omega), Bool.true_and]
    exact h1
theorem pat_legal (l : List Int) : legalF 0 (of_pat [] l) = true := (of_pat_legal l []).1
theorem pat_same (l : List Int) (i k : Nat) (hi : i < l.length) (hk : k < l.length) : (rd l (i : Int) == rd l (k : Int)) = (rd (of_pat [] l) (i : Int) == rd (of_pat [] l) (k : Int)) := by
  have hl := of_pat_len l []
  rw [rd_at l i hi, rd_at l k hk, rd_at _ i (by omega), rd_at _ k (by omega)]
  have e : ∀ (j : Nat) (h : j < l.length), (of_pat [] l)[j]'(by omega) = ((of_at (l.reverse ++ []) l[j] : Nat) : Int) := by
    intro j h
    simp only [of_pat_map l [], List.getElem_map]
  rw [e i hi, e k hk]
  by_cases h : l[i] = l[k]
  · rw [h]; simp
  · have : ¬ ((of_at (l.reverse ++ []) l[i] : Nat) : Int) = ((of_at (l.reverse ++ []) l[k] : Nat) : Int) := fun he => h (of_at_inj (l.reverse ++ []) l[i] l[k] (by simp) (by simp) (by omega))
    rw [beq_eq_false_iff_ne.2 h, beq_eq_false_iff_ne.2 this]
end Go.Proofs.Ytpcnpmcknknfcaa.PPof
