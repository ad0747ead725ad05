/- Plain facts on the document's functions of layer 1: what they answer, in plain words. Conditions: words below 2 ^ 64. -/
import Derived.Test.YtfgmapnanaahaaaGreatDoorPBonx5
namespace Go.Proofs.YtfgmapnanaahaaaGreatDoor.Pure
open Go Go.RowKit Go.Lib Go.Proofs.YtfgmapnanaahaaaGreatDoor.PBon Go.Proofs.YtfgmapnanaahaaaGreatDoorW.PrintWords Go.Proofs.YtfgmapnanaahaaaGreatDoorW.BitsM Go.Proofs.YtfgmapnanaahaaaGreatDoorW.PrintMore
theorem rd_map (l : List Nat) (j : Nat) (hj : j < l.length) : rd (l.map (fun x : Nat => (x : Int))) (j : Int) = ((l[j] : Nat) : Int) := by
  unfold rd
  rw [Int.toNat_natCast, List.getD_eq_getElem?_getD, List.getElem?_map, List.getElem?_eq_getElem hj]
  rfl
theorem refPl (a : Nat) (h : a < 18446744073709551616) : provostref01_Places.f 300 (a : Int) 64 = some ((pl a 0).map (fun x : Nat => (x : Int))) :=
  refPlaces_eq a h 64 (by decide) (fun x h1 h2 => absurd h1 (by omega)) 235
theorem refLen (a : Nat) (h : a < 18446744073709551616) : provostref01_Len.f 300 (a : Int) = some (((pl a 0).length : Nat) : Int) := by
  unfold provostref01_Len.f
  rw [refPl a h, Option.bind_some, List.length_map]
theorem refHigh (a : Nat) (h : a < 18446744073709551616) : provostref01_High.f 300 (a : Int) = some (lastOf (pl a 0)) := by
  unfold provostref01_High.f
  rw [refPl a h, Option.bind_some, List.length_map]
  have hl := pl_len a 0
  generalize pl a 0 = l at *
  by_cases h0 : l.length = 0
  · rw [if_pos (by omega), List.eq_nil_of_length_eq_zero h0]; rfl
  · have hw : wrap64 ((l.length : Int) - 1) = ((l.length - 1 : Nat) : Int) := by unfold wrap64; omega
    rw [if_neg (by omega), hw, if_pos (by omega), if_pos (by omega), rd_map l (l.length - 1) (by omega)]
    unfold lastOf
    rw [List.getLast?_eq_getElem?, List.getElem?_eq_getElem (by omega : l.length - 1 < l.length)]
def fstOf (o : Option Nat) : Int := match o with | some x => (x : Int) | none => -1
theorem refNext_l0 (l : List Nat) (i : Int) (hl : l.length ≤ 64) (k : Nat) : ∀ d j : Nat, l.length - j = d → j ≤ l.length →
    provostref01_Next.l0 (d + 1 + k) i (l.map (fun x : Nat => (x : Int))) (j : Int) = some (fstOf ((l.drop j).find? (fun x : Nat => decide (i ≤ (x : Int)))))
  | 0, j, hd, hj => by
    obtain rfl : j = l.length := by omega
    rw [show 0 + 1 + k = k + 1 by omega]
    simp only [provostref01_Next.l0, List.length_map]
    rw [if_neg (by omega), List.drop_length]
    rfl
  | d + 1, j, hd, hj => by
    have hjl : j < l.length := by omega
    have ih := refNext_l0 l i hl k d (j + 1) (by omega) (by omega)
    have hw : wrap64 ((j : Int) + 1) = ((j + 1 : Nat) : Int) := by unfold wrap64; omega
    rw [show d + 1 + 1 + k = (d + 1 + k) + 1 by omega]
    simp only [provostref01_Next.l0, List.length_map]
    rw [if_pos (by omega), if_pos (by omega), rd_map l j hjl, List.drop_eq_getElem_cons hjl, List.find?_cons, hw, ih]
    by_cases hc : i ≤ ((l[j] : Nat) : Int)
    · rw [if_pos hc, decide_eq_true hc]; rfl
    · rw [if_neg (by omega), decide_eq_false hc]
theorem pl_min (a n : Nat) : pl a (min n 64) = pl a n := by
  unfold pl
  by_cases h : n ≤ 64
  · rw [Nat.min_eq_left h]
  · rw [Nat.min_eq_right (by omega), show 64 - 64 = 0 from rfl, show 64 - n = 0 by omega]; rfl
theorem refNext (a : Nat) (h : a < 18446744073709551616) (i : Int) : provostref01_Next.f 300 (a : Int) i = some (nx a i.toNat) := by
  unfold provostref01_Next.f
  rw [refPl a h, Option.bind_some]
  have hl := pl_len a 0
  obtain ⟨k, hk⟩ : ∃ k, 300 = (pl a 0).length + 1 + k := ⟨299 - (pl a 0).length, by omega⟩
  have e := refNext_l0 (pl a 0) i hl k (pl a 0).length 0 (by omega) (by omega)
  rw [← hk] at e
  rw [show (0 : Int) = ((0 : Nat) : Int) from rfl, e, List.drop_zero]
  congr 1
  rw [pl_split a (min i.toNat 64) (by omega), List.find?_append, pl_min]
  have h1 : (pfr a (min i.toNat 64) 0).find? (fun x : Nat => decide (i ≤ (x : Int))) = none := by
    rw [List.find?_eq_none]
    intro x hx
    have := mem_pfr.1 hx
    simp only [decide_eq_true_eq]
    omega
  rw [h1, Option.none_or]
  unfold nx
  cases hp : pl a i.toNat with
  | nil => rfl
  | cons x r =>
    obtain ⟨h2, _⟩ := pl_cons hp
    rw [List.find?_cons, decide_eq_true (by omega)]
    rfl
theorem refLow (a : Nat) (h : a < 18446744073709551616) : provostref01_Low.f 300 (a : Int) = some (nx a 0) := by
  unfold provostref01_Low.f
  rw [refNext a h 0, Option.bind_some]; rfl
theorem refRank_l0 (l : List Nat) (i : Int) (hl : l.length ≤ 64) (k : Nat) : ∀ d j n : Nat, l.length - j = d → j ≤ l.length → n ≤ j →
    provostref01_Rank.l0 (d + 1 + k) i (n : Int) (l.map (fun x : Nat => (x : Int))) (j : Int) = some (((n + ((l.drop j).filter (fun x : Nat => decide ((x : Int) < i))).length : Nat) : Int))
  | 0, j, n, hd, hj, hn => by
    obtain rfl : j = l.length := by omega
    rw [show 0 + 1 + k = k + 1 by omega]
    simp only [provostref01_Rank.l0, List.length_map]
    rw [if_neg (by omega), List.drop_length]
    rfl
  | d + 1, j, n, hd, hj, hn => by
    have hjl : j < l.length := by omega
    have hw : wrap64 ((j : Int) + 1) = ((j + 1 : Nat) : Int) := by unfold wrap64; omega
    have hw2 : wrap64 ((n : Int) + 1) = ((n + 1 : Nat) : Int) := by unfold wrap64; omega
    rw [show d + 1 + 1 + k = (d + 1 + k) + 1 by omega]
    simp only [provostref01_Rank.l0, List.length_map]
    rw [if_pos (by omega), if_pos (by omega), rd_map l j hjl, List.drop_eq_getElem_cons hjl, hw, hw2]
    by_cases hc : ((l[j] : Nat) : Int) < i
    · rw [if_pos hc, refRank_l0 l i hl k d (j + 1) (n + 1) (by omega) (by omega) (by omega), List.filter_cons_of_pos (by rw [decide_eq_true hc]), List.length_cons]
      congr 2
      omega
    · rw [if_neg hc, refRank_l0 l i hl k d (j + 1) n (by omega) (by omega) (by omega), List.filter_cons_of_neg (by rw [decide_eq_false hc]; simp)]
theorem refRank (a : Nat) (h : a < 18446744073709551616) (i : Int) : provostref01_Rank.f 300 (a : Int) i = some (((pfr a (min i.toNat 64) 0).length : Nat) : Int) := by
  unfold provostref01_Rank.f
  rw [refPl a h, Option.bind_some]
  have hl := pl_len a 0
  obtain ⟨k, hk⟩ : ∃ k, 300 = (pl a 0).length + 1 + k := ⟨299 - (pl a 0).length, by omega⟩
  have e := refRank_l0 (pl a 0) i hl k (pl a 0).length 0 0 (by omega) (by omega) (by omega)
  rw [← hk] at e
  rw [show (0 : Int) = ((0 : Nat) : Int) from rfl, e, List.drop_zero, Nat.zero_add]
  congr 3
  rw [pl_split a (min i.toNat 64) (by omega), List.filter_append, pl_min]
  have h1 : (pfr a (min i.toNat 64) 0).filter (fun x : Nat => decide ((x : Int) < i)) = pfr a (min i.toNat 64) 0 := by
    rw [List.filter_eq_self]
    intro x hx
    have := mem_pfr.1 hx
    simp only [decide_eq_true_eq]
    omega
  have h2 : (pl a i.toNat).filter (fun x : Nat => decide ((x : Int) < i)) = [] := by
    rw [List.filter_eq_nil_iff]
    intro x hx
    have := mem_pl.1 hx
    simp only [decide_eq_true_eq]
    omega
  rw [h1, h2, List.append_nil]
/-! the text -/
def bs (l : List UInt8) : ByteArray := ⟨l.toArray⟩
theorem bs_app (x y : List UInt8) : bs x ++ bs y = bs (x ++ y) := by
  unfold bs
  apply ByteArray.ext
  simp
theorem bs_size (x : List UInt8) : (bs x).size = x.length := by simp [bs, ByteArray.size]
theorem digits_at (k x : Nat) (hx : x < 64) : provostref01_Digits.f (k + 2) (x : Int) = some (bs (decDigits x)) := by
  rw [provostref01_Digits.f]
  by_cases h : x < 10
  · rw [if_pos (by omega)]
    have : ∀ x : Nat, x < 10 → strOfNums [wrap64 (48 + (x : Int)) % 256] = bs (decDigits x) := by decide +kernel
    rw [this x h]
  · rw [if_neg (by omega), provostref01_Digits.f]
    have h1 : ∀ x : Nat, x < 64 → wrap64 (Int.tdiv (x : Int) 10) < 10 := by decide +kernel
    have h2 : ∀ x : Nat, x < 64 → 10 ≤ x → strOfNums [wrap64 (48 + wrap64 (Int.tdiv (x : Int) 10)) % 256] ++ strOfNums [wrap64 (48 + Int.tmod (x : Int) 10) % 256] = bs (decDigits x) := by decide +kernel
    have h3 : ∀ x : Nat, x < 64 → (strOfNums [wrap64 (48 + wrap64 (Int.tdiv (x : Int) 10)) % 256]).size + (strOfNums [wrap64 (48 + Int.tmod (x : Int) 10) % 256]).size ≤ 9223372036854775807 := by decide +kernel
    rw [if_pos (h1 x hx)]
    simp only [Option.bind_some]
    rw [if_pos (h3 x hx), h2 x hx (by omega)]
def tlF : Bool → List Nat → List UInt8
  | _, [] => []
  | f, x :: r => (if f then [] else [44]) ++ decDigits x ++ tlF false r
theorem refText_l0 (l : List Nat) (hx : ∀ x ∈ l, x < 64) (hl : l.length ≤ 64) (k : Nat) : ∀ (d j : Nat) (s : List UInt8), l.length - j = d → j ≤ l.length → s.length + 3 * d ≤ 1000 →
    provostref01_Text.l0 (2 * d + 4 + k) (bs s) (l.map (fun x : Nat => (x : Int))) (j : Int) = some (bs (s ++ tlF (decide (j = 0)) (l.drop j) ++ [125]))
  | 0, j, s, hd, hj, hs => by
    obtain rfl : j = l.length := by omega
    rw [show 2 * 0 + 4 + k = (k + 3) + 1 by omega]
    simp only [provostref01_Text.l0, List.length_map]
    rw [if_neg (by omega), List.drop_length, if_pos (by rw [bs_size]; omega)]
    show some (bs s ++ bs [125]) = _
    rw [bs_app]
    simp [tlF]
  | d + 1, j, s, hd, hj, hs => by
    have hjl : j < l.length := by omega
    have hxj := hx l[j] (List.getElem_mem hjl)
    have hdl := dig_len l[j] hxj
    have hw : wrap64 ((j : Int) + 1) = ((j + 1 : Nat) : Int) := by unfold wrap64; omega
    have J1 : ∀ s2 : List UInt8, s2.length ≤ s.length + 1 → provostref01_Text.j1 (2 * d + 5 + k) (bs s2) (l.map (fun x : Nat => (x : Int))) (j : Int) = some (bs (s2 ++ decDigits l[j] ++ tlF false (l.drop (j + 1)) ++ [125])) := by
      intro s2 h2
      rw [show 2 * d + 5 + k = (2 * d + 4 + k) + 1 by omega]
      simp only [provostref01_Text.j1, List.length_map]
      rw [if_pos (by omega), if_pos (by omega), rd_map l j hjl, show 2 * d + 4 + k = (2 * d + 2 + k) + 2 by omega, digits_at _ _ hxj]
      simp only [Option.bind_some]
      rw [if_pos (by rw [bs_size, bs_size]; omega), bs_app, hw, show (2 * d + 2 + k) + 2 = 2 * d + 4 + k by omega, refText_l0 l hx hl k d (j + 1) (s2 ++ decDigits l[j]) (by omega) (by omega) (by rw [List.length_append]; omega), decide_eq_false (by omega)]
    rw [show 2 * (d + 1) + 4 + k = (2 * d + 5 + k) + 1 by omega]
    simp only [provostref01_Text.l0, List.length_map]
    rw [if_pos (by omega), List.drop_eq_getElem_cons hjl]
    by_cases h0 : j = 0
    · rw [if_neg (by omega), J1 s (by omega), decide_eq_true h0]
      simp [tlF]
    · rw [if_pos (by omega), if_pos (by rw [bs_size]; omega)]
      show provostref01_Text.j1 _ (bs s ++ bs [44]) _ _ = _
      rw [bs_app, J1 (s ++ [44]) (by rw [List.length_append]; simp), decide_eq_false h0]
      simp [tlF]
theorem tl_join : ∀ l : List Nat, tlF true l = Lib.join (l.map decDigits) [44] := by
  have h2 : ∀ l : List Nat, tlF false l = Lib.joinTail [44] (l.map decDigits) := by
    intro l
    induction l with
    | nil => rfl
    | cons x r ih => simp [tlF, ih, Lib.joinTail]
  intro l
  cases l with
  | nil => rfl
  | cons x r => rw [List.map_cons, Lib.join_cons, ← h2]; simp [tlF]
theorem refText (a : Nat) (h : a < 18446744073709551616) : provostref01_Text.f 300 (a : Int) = some (textF a) := by
  unfold provostref01_Text.f
  rw [refPl a h, Option.bind_some]
  have hl := pl_len a 0
  obtain ⟨k, hk⟩ : ∃ k, 300 = 2 * (pl a 0).length + 4 + k := ⟨296 - 2 * (pl a 0).length, by omega⟩
  have e := refText_l0 (pl a 0) (fun x hx => (mem_pl.1 hx).2.1) hl k (pl a 0).length 0 [123] (by omega) (by omega) (by simp; omega)
  rw [← hk, List.drop_zero, decide_eq_true rfl, tl_join] at e
  exact e
/-! words -/
theorem refFull : provostref01_Full.f 300 16 = some 65535 ∧ provostref01_Full.f 300 32 = some 4294967295 := by
  constructor <;> decide +kernel
theorem not_sub {W v : Nat} (h : v < 2 ^ W) : (2 ^ W - 1) ^^^ v = 2 ^ W - 1 - v := by
  apply Nat.eq_of_testBit_eq
  intro i
  rw [show 2 ^ W - 1 - v = 2 ^ W - (v + 1) by omega, Nat.testBit_two_pow_sub_succ h, Nat.testBit_xor, Nat.testBit_two_pow_sub_one]
  by_cases hi : i < W
  · rw [decide_eq_true hi]; simp
  · rw [decide_eq_false hi, lt_of_bits h (by omega)]; rfl
theorem shl64 (j : Nat) (h : j < 64) : shl .u64 1 (j : Int) = ((2 ^ j : Nat) : Int) := by
  have hp : 2 ^ j < 2 ^ 64 := Nat.pow_lt_pow_right (by decide) h
  unfold shl
  rw [Int.toNat_natCast, Nat.min_eq_left (show j ≤ IntKind.u64.bits by show j ≤ 64; omega), Int.one_mul, IntKind.wrap_u64]
  have e : (2 : Int) ^ j = ((2 ^ j : Nat) : Int) := by simp
  have h64 : (2 : Nat) ^ 64 = 18446744073709551616 := rfl
  rw [e]
  rw [h64] at hp
  generalize 2 ^ j = q at *
  omega
theorem shl8 (j : Nat) (h : j < 8) : shl .u8 1 (j : Int) = ((2 ^ j : Nat) : Int) := by
  have : ∀ j : Nat, j < 8 → shl .u8 1 (j : Int) = ((2 ^ j : Nat) : Int) := by decide +kernel
  exact this j h
theorem bit_less : ∀ j a i : Nat, a.testBit j = true → 2 ^ j ≤ a ∧ (a - 2 ^ j).testBit i = (a.testBit i && !decide (i = j))
  | 0, a, i, h => by
    rw [Nat.testBit_zero, decide_eq_true_eq] at h
    refine ⟨by omega, ?_⟩
    cases i with
    | zero => rw [Nat.testBit_zero, Nat.pow_zero, decide_eq_false (by omega)]; simp
    | succ i => rw [Nat.testBit_succ, Nat.testBit_succ, Nat.pow_zero, show (a - 1) / 2 = a / 2 by omega]; simp
  | j + 1, a, i, h => by
    rw [Nat.testBit_succ] at h
    obtain ⟨h1, h2⟩ := bit_less j (a / 2) (i - 1) h
    rw [Nat.pow_succ]
    refine ⟨by omega, ?_⟩
    cases i with
    | zero => rw [Nat.testBit_zero, Nat.testBit_zero, show (a - 2 ^ j * 2) % 2 = a % 2 by omega]; simp
    | succ i =>
      rw [Nat.add_sub_cancel] at h2
      rw [Nat.testBit_succ, Nat.testBit_succ, show (a - 2 ^ j * 2) / 2 = a / 2 - 2 ^ j by omega, h2]
      simp
theorem without_nat {W a j : Nat} (ha : a < 2 ^ W) (hj : j < W) : a &&& (2 ^ W - 1 - 2 ^ j) = if a.testBit j = true then a - 2 ^ j else a := by
  have hp : 2 ^ j < 2 ^ W := Nat.pow_lt_pow_right (by decide) hj
  apply Nat.eq_of_testBit_eq
  intro i
  rw [Nat.testBit_and, show 2 ^ W - 1 - 2 ^ j = 2 ^ W - (2 ^ j + 1) by omega, Nat.testBit_two_pow_sub_succ hp, Nat.testBit_two_pow]
  by_cases hi : i < W
  · rw [decide_eq_true hi, Bool.true_and]
    by_cases hb : a.testBit j = true
    · rw [if_pos hb, (bit_less j a i hb).2]
      by_cases e : i = j
      · subst e; simp
      · rw [decide_eq_false e, decide_eq_false (fun h => e h.symm)]
    · rw [if_neg hb]
      by_cases e : j = i
      · subst e; simp only [Bool.not_eq_true] at hb; rw [hb]; rfl
      · rw [decide_eq_false e]; simp
  · rw [decide_eq_false hi, Bool.false_and, Bool.and_false]
    have : (if a.testBit j = true then a - 2 ^ j else a) < 2 ^ W := by
      split
      · exact Nat.lt_of_le_of_lt (Nat.sub_le _ _) ha
      · exact ha
    rw [lt_of_bits this (by omega)]
end Go.Proofs.YtfgmapnanaahaaaGreatDoor.Pure
