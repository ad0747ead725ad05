/- Plain facts on patterns: blocks. -/
import Derived.Test.YtpcnpmcknknfcaaPurePat
import Derived.Test.YtpcnpmcknknfcaaPPbox3
namespace Go.Proofs.Ytpcnpmcknknfcaa.PPbo
open Go.RowKit Go.Proofs.YtpcnpmcknknfcaaW.PrintWords Go.Proofs.YtpcnpmcknknfcaaW.PrintLast Go.Proofs.YtpcnpmcknknfcaaW.PrintMore Go.Proofs.YtpcnpmcknknfcaaW.Mine
set_option linter.unusedVariables false
/-! blocks -/
/-- the places of a number in a row, the first place being o -/
def idxF (b : Int) : Nat → List Int → List Int
  | _, [] => []
  | o, x :: r => if x = b then (o : Int) :: idxF b (o + 1) r else idxF b (o + 1) r
theorem idx_snoc (b : Int) : ∀ (l : List Int) (o : Nat) (x : Int), idxF b o (l ++ [x]) = idxF b o l ++ if x = b then [((o + l.length : Nat) : Int)] else []
  | [], o, x => by by_cases h : x = b <;> simp [idxF, h]
  | y :: l, o, x => by
    simp only [List.cons_append, idxF, List.length_cons]
    rw [idx_snoc b l (o + 1) x, show o + 1 + l.length = o + (l.length + 1) by omega]
    split <;> simp
def blocksOf (a : List Int) (m : Nat) : List (List Int) := (List.range m).map fun (b : Nat) => idxF (b : Int) 0 a
theorem blocks_get (a : List Int) (m b : Nat) (h : b < m) : rd_L1 (blocksOf a m) (b : Int) = idxF (b : Int) 0 a := by
  unfold rd_L1 blocksOf
  rw [Int.toNat_natCast, List.getD_eq_getElem?_getD, List.getElem?_map, List.getElem?_range h]
  rfl
theorem blocks_step (a : List Int) (m b : Nat) (h : b < m) : (blocksOf a m).set b (idxF (b : Int) 0 a ++ [(a.length : Int)]) = blocksOf (a ++ [(b : Int)]) m := by
  apply List.ext_getElem?
  intro j
  unfold blocksOf
  rw [List.getElem?_set, List.getElem?_map, List.getElem?_map]
  by_cases hj : j < m
  · rw [List.getElem?_range hj]
    simp only [Option.map_some, List.length_map, List.length_range]
    rw [idx_snoc, Nat.zero_add]
    by_cases e : b = j
    · subst e; simp [hj]
    · rw [if_neg e, if_neg (by omega), List.append_nil]
  · rw [List.getElem?_eq_none (by simpa using hj)]
    simp only [Option.map_none, List.length_map, List.length_range]
    split
    · exfalso; omega
    · rfl
theorem blocks_l0 (a : List Int) (m : Nat) (ha : a.length ≤ 25) (hm : ∀ x ∈ a, 0 ≤ x ∧ x < m) (d : Nat) : ∀ (i : Nat), a.length - i = d → i ≤ a.length →
    Ev (fun k => part_Blocks.l0 k (blocksOf (a.take i) m) a (a.length : Int) (i : Int)) (blocksOf a m) := by
  have hlen : ∀ l : List Int, (blocksOf l m).length = m := fun l => by simp [blocksOf]
  have hil : ∀ (b : Int) (l : List Int) (o : Nat), (idxF b o l).length ≤ l.length := by
    intro b l
    induction l with
    | nil => intro o; exact Nat.le_refl _
    | cons x r ih =>
      intro o
      have := ih (o + 1)
      simp only [idxF]
      split <;> simp only [List.length_cons] <;> omega
  induction d with
  | zero =>
    intro i hd hi
    obtain rfl : i = a.length := by omega
    refine ev_succ ?_
    simp only [part_Blocks.l0]
    rw [List.take_length]
    exact ev_neg (by omega) (ev_some rfl)
  | succ d ih =>
    intro i hd hi
    have hlt : i < a.length := by omega
    obtain ⟨h0, h1⟩ := hm _ (List.getElem_mem hlt)
    obtain ⟨b, hb⟩ := Int.eq_ofNat_of_zero_le h0
    have hbm : b < m := by omega
    have hl := hil (b : Int) (a.take i) 0
    rw [List.length_take] at hl
    refine ev_succ ?_
    simp only [part_Blocks.l0]
    rw [rd_at a i hlt, hb, blocks_get _ m b hbm]
    refine ev_pos (by omega) (ev_pos (by omega) (ev_pos (by omega) (ev_pos (by omega) (ev_pos (by rw [hlen]; omega) (ev_pos (by omega) ?_)))))
    have hlt2 : (a.take i).length = i := by rw [List.length_take]; omega
    have hs := blocks_step (a.take i) m b hbm
    rw [hlt2] at hs
    rw [wr (by omega) (by omega), Int.toNat_natCast, hs]
    have := ih (i + 1) (by omega) (by omega)
    rw [List.take_succ_eq_append_getElem hlt, hb] at this
    simpa using this
theorem blocks_ev (a : List Int) (hl : legalF 0 a = true) (h25 : a.length ≤ 25) : Ev (fun k => part_Blocks.f k a) (blocksOf a (usedF 0 a).toNat) := by
  have hu := used_len a 0 hl
  have hg := used_ge a 0
  unfold part_Blocks.f
  refine Ev.bind (size_ev a hl h25) (ev_pos (by omega) (ev_pos (by omega) ?_))
  simp only [Option.bind_some, List.length_replicate]
  by_cases h0 : ((usedF 0 a).toNat : Int) = 0
  · refine ev_pos h0 (ev_some ?_)
    rw [show (usedF 0 a).toNat = 0 by omega]
    rfl
  · refine ev_neg h0 ?_
    have hm : ∀ x ∈ a, 0 ≤ x ∧ x < ((usedF 0 a).toNat : Int) := fun x hx => ⟨legal_mem a 0 hl x hx, by have := used_mem a 0 x hx; omega⟩
    have := blocks_l0 a (usedF 0 a).toNat h25 hm a.length 0 (by omega) (by omega)
    have e : blocksOf (a.take 0) (usedF 0 a).toNat = List.replicate (usedF 0 a).toNat [] := by
      rw [List.take_zero]
      unfold blocksOf
      simp only [idxF]
      rw [List.map_const', List.length_range]
    rw [e] at this
    exact this
end Go.Proofs.Ytpcnpmcknknfcaa.PPbo
