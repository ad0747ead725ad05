/- The pure law of ImageRead: the two readers tell the same call. -/
import Derived.Test.YthdkmohgphbdeaaPureImgEnc
import Derived.Test.YthdkmohgphbdeaaPImRx4
import Derived.Test.YthdkmohgphbdeaaPImRx4
namespace Go.Proofs.Ythdkmohgphbdeaa.PImR
open Go.RowKit Go.Proofs.YthdkmohgphbdeaaW.PrintWords Go.Proofs.YthdkmohgphbdeaaW.PrintLast Go.Proofs.YthdkmohgphbdeaaW.Mine
set_option linter.unusedVariables false
theorem word_yes (l : List Int) (a k : Nat) (m : List Int) (hb : Bytes l) (h47 : l.length ≤ 4611686018427387903) (hk : k ≤ 8) (ha : a ≤ l.length) (hm : m = l.drop a) (h : okW m k) :
    provostref21_word.f l (a : Int) (k : Int) = some (image_Read.sN m k, ((a + k + (val (m.take k)).toNat : Nat) : Int)) ∧ a + k + (val (m.take k)).toNat ≤ l.length ∧ l.drop (a + k + (val (m.take k)).toNat) = image_Read.rN m k := by
  obtain ⟨h1, h2⟩ := h
  have hml : m.length = l.length - a := by rw [hm, List.length_drop]
  have h0 := val0 _ (bytes_take (hm ▸ bytes_drop hb a) k)
  have e1 : ((l.take ((a : Int) + (k : Int)).toNat).drop (a : Int).toNat) = m.take k := by
    rw [hm, Int.toNat_natCast, show ((a : Int) + (k : Int)).toNat = a + k by omega, List.drop_take]
    congr 1
    omega
  have ev : provostref21_word.val (m.take k) = val (m.take k) := rfl
  refine ⟨?_, by omega, ?_⟩
  · unfold provostref21_word.f
    rw [if_pos ⟨hb, h47, by omega, by omega, by omega⟩, if_neg (by omega), if_neg (by omega), e1, ev, if_neg (by omega)]
    congr 1
    refine Prod.ext ?_ (by simp only; omega)
    simp only
    unfold image_Read.sN
    congr 1
    rw [show ((a : Int) + (k : Int) + val (m.take k)).toNat = a + k + (val (m.take k)).toNat by omega, show ((a : Int) + (k : Int)).toNat = a + k by omega, List.drop_take, hm, List.drop_drop]
    show _ = List.take (val ((l.drop a).take k)).toNat _
    congr 1
    omega
  · unfold image_Read.rN
    rw [hm, List.drop_drop, List.drop_drop, Nat.add_assoc]
theorem word_no (l : List Int) (a k : Nat) (m : List Int) (hb : Bytes l) (h47 : l.length ≤ 4611686018427387903) (hk : k ≤ 8) (ha : a ≤ l.length) (hm : m = l.drop a) (h : ¬ okW m k) :
    provostref21_word.f l (a : Int) (k : Int) = some (⟨#[]⟩, -1) := by
  have hml : m.length = l.length - a := by rw [hm, List.length_drop]
  have e1 : ((l.take ((a : Int) + (k : Int)).toNat).drop (a : Int).toNat) = m.take k := by
    rw [hm, Int.toNat_natCast, show ((a : Int) + (k : Int)).toNat = a + k by omega, List.drop_take]
    congr 1
    omega
  have ev : provostref21_word.val (m.take k) = val (m.take k) := rfl
  unfold provostref21_word.f
  rw [if_pos ⟨hb, h47, by omega, by omega, by omega⟩, if_neg (by omega)]
  by_cases h2 : (l.length : Int) < (a : Int) + (k : Int)
  · rw [if_pos h2]
  · rw [if_neg h2, e1, ev, if_pos]
    have : ¬ val (m.take k) ≤ (m.length : Int) - k := fun hv => h ⟨by omega, hv⟩
    omega
theorem word_neg (l : List Int) (k : Int) (hb : Bytes l) (h47 : l.length ≤ 4611686018427387903) (h0 : 0 ≤ k) (hk : k ≤ 8) : provostref21_word.f l (-1) k = some (⟨#[]⟩, -1) := by
  unfold provostref21_word.f
  rw [if_pos ⟨hb, h47, by omega, h0, hk⟩, if_pos (by decide)]
theorem ref_read_eq (l : List Int) (hb : Bytes l) (h47 : l.length ≤ 4611686018427387903) : provostref21_Read.f 13 l = some (told l) := by
  unfold provostref21_Read.f
  by_cases h9 : (l.length : Int) < 9
  · rw [if_pos h9, told_no (fun h => by have := h.1; omega)]
    simp [provostref21_Read.j0]
  rw [if_neg h9, if_pos (by omega)]
  have hrd : rd l 0 = image_Read.op l := by
    match l, h9 with
    | x :: r, _ => exact (val_one x r).symm
  have hop := image_reader_number.val_bd1 (l.take 1) (bytes_take hb 1) (by rw [List.length_take]; omega)
  by_cases hz : image_Read.op l = 0
  · rw [hrd, hz, told_no (fun h => h.2.1 hz)]
    simp [provostref21_Read.j0]
  have hz2 : (image_Read.op l == 0) = false := by simpa using hz
  rw [hrd, hz2]
  have hv : provostref21_value.f 12 ((l.take 9).drop 1) = some (val ((l.drop 1).take 8)) := by
    rw [List.drop_take]
    exact provostref21_word.value _ (bytes_take (bytes_drop hb 1) _) (by rw [List.length_take]; omega)
  have hw : wrap64 (image_Read.op l) = image_Read.op l := by unfold wrap64; unfold image_Read.op at *; omega
  simp only [provostref21_Read.j0]
  rw [if_neg (by decide), if_pos (by omega), if_pos (by decide), if_pos (by omega), hv, hrd, hw]
  simp only [Option.bind_some]
  have e0 : image_Read.rest l 0 = l.drop 9 := by simp [image_Read.rest]
  have bad : ∀ (sA sB sC sT : ByteArray), (if (-1 : Int) = (l.length : Int) then provostref21_Read.j1 12 (decide ((sT.size : Int) > 65536)) (image_Read.op l) sA sB sC (wrap64 (val ((l.drop 1).take 8))) sT else provostref21_Read.j1 12 true (image_Read.op l) sA sB sC (wrap64 (val ((l.drop 1).take 8))) sT) = some (0, ⟨#[]⟩, ⟨#[]⟩, ⟨#[]⟩, 0, ⟨#[]⟩, 3) := by
    intro sA sB sC sT
    rw [if_neg (by omega)]
    simp [provostref21_Read.j1]
  by_cases k0 : ¬ (okW (image_Read.rest l 0) 1)
  · rw [told_no (fun h => k0 h.2.2.1), show (9 : Int) = ((9 : Nat) : Int) from rfl, show (1 : Int) = ((1 : Nat) : Int) from rfl, word_no l 9 1 _ hb h47 (by omega) (by omega) e0 k0]
    simp only [Option.bind_some]
    rw [word_neg l _ hb h47 (by omega) (by omega)]
    simp only [Option.bind_some]
    rw [word_neg l _ hb h47 (by omega) (by omega)]
    simp only [Option.bind_some]
    rw [word_neg l _ hb h47 (by omega) (by omega)]
    simp only [Option.bind_some]
    exact bad _ _ _ _
  replace k0 := Classical.not_not.1 k0
  obtain ⟨w0, l0, d0⟩ := word_yes l 9 1 _ hb h47 (by omega) (by omega) e0 k0
  rw [show provostref21_word.f l 9 1 = _ from w0]
  simp only [Option.bind_some]
  have e1 : image_Read.rest l 1 = _ := d0.symm
  by_cases k1 : ¬ (okW (image_Read.rest l 1) 1)
  · rw [told_no (fun h => k1 h.2.2.2.1), show (1 : Int) = ((1 : Nat) : Int) from rfl, word_no l _ 1 _ hb h47 (by omega) l0 e1 k1]
    simp only [Option.bind_some]
    rw [word_neg l _ hb h47 (by omega) (by omega)]
    simp only [Option.bind_some]
    rw [word_neg l _ hb h47 (by omega) (by omega)]
    simp only [Option.bind_some]
    exact bad _ _ _ _
  replace k1 := Classical.not_not.1 k1
  obtain ⟨w1, l1, d1⟩ := word_yes l _ 1 _ hb h47 (by omega) l0 e1 k1
  rw [show provostref21_word.f l _ 1 = _ from w1]
  simp only [Option.bind_some]
  have e2 : image_Read.rest l 2 = _ := d1.symm
  by_cases k2 : ¬ (okW (image_Read.rest l 2) 1)
  · rw [told_no (fun h => k2 h.2.2.2.2.1), show (1 : Int) = ((1 : Nat) : Int) from rfl, word_no l _ 1 _ hb h47 (by omega) l1 e2 k2]
    simp only [Option.bind_some]
    rw [word_neg l _ hb h47 (by omega) (by omega)]
    simp only [Option.bind_some]
    exact bad _ _ _ _
  replace k2 := Classical.not_not.1 k2
  obtain ⟨w2, l2, d2⟩ := word_yes l _ 1 _ hb h47 (by omega) l1 e2 k2
  rw [show provostref21_word.f l _ 1 = _ from w2]
  simp only [Option.bind_some]
  have e3 : image_Read.rest l 3 = _ := d2.symm
  by_cases k3 : ¬ (okW (image_Read.rest l 3) 4)
  · rw [told_no (fun h => k3 h.2.2.2.2.2.1), show (4 : Int) = ((4 : Nat) : Int) from rfl, word_no l _ 4 _ hb h47 (by omega) l2 e3 k3]
    simp only [Option.bind_some]
    exact bad _ _ _ _
  replace k3 := Classical.not_not.1 k3
  obtain ⟨w3, l3, d3⟩ := word_yes l _ 4 _ hb h47 (by omega) l2 e3 k3
  rw [show provostref21_word.f l _ 4 = _ from w3]
  simp only [Option.bind_some]
  generalize (9 + 1 + (val ((image_Read.rest l 0).take 1)).toNat + 1 + (val ((image_Read.rest l 1).take 1)).toNat + 1 + (val ((image_Read.rest l 2).take 1)).toNat + 4 + (val ((image_Read.rest l 3).take 4)).toNat) = q at *
  by_cases k4 : ¬ (image_Read.rN (image_Read.rest l 3) 4 = [])
  · rw [told_no (fun h => k4 h.2.2.2.2.2.2.1), if_neg]
    · simp [provostref21_Read.j1]
    · intro h
      apply k4
      rw [← d3]
      exact List.drop_eq_nil_of_le (by omega)
  replace k4 := Classical.not_not.1 k4
  have hq : q = l.length := by
    rw [k4] at d3
    have := congrArg List.length d3
    rw [List.length_drop] at this
    simp at this
    omega
  rw [if_pos (by omega)]
  by_cases k5 : (image_Read.sN (image_Read.rest l 3) 4).size ≤ 65536
  · rw [told_yes ⟨by omega, hz, k0, k1, k2, k3, k4, k5⟩, decide_eq_false (p := ((image_Read.sN (image_Read.rest l 3) 4).size : Int) > 65536) (by omega)]
    simp only [provostref21_Read.j1]
    rfl
  · rw [told_no (fun h => k5 h.2.2.2.2.2.2.2), decide_eq_true (p := ((image_Read.sN (image_Read.rest l 3) 4).size : Int) > 65536) (by omega)]
    simp [provostref21_Read.j1]
end Go.Proofs.Ythdkmohgphbdeaa.PImR
