/- Plain facts on words of at most 64 bits: their numbers, how many, the least, the greatest. No program. -/
import Derived.Test.YtfgmapnanaahaaaGreatDoorWMore
import Derived.Laws.BitsAllLaws
import Derived.Laws.Bits64b
import Derived.Lib.BitFns
import Derived.Lib.ItoaNum
import Derived.Lib.TrailingZeros
import Derived.Lib.Join
namespace Go.Proofs.YtfgmapnanaahaaaGreatDoorW.BitsM
open Go Go.Lib Go.Proofs.YtfgmapnanaahaaaGreatDoorW.PrintMore
/-- of n numbers from i on: those that are in the word -/
def pfr (a : Nat) : Nat → Nat → List Nat
  | 0, _ => []
  | n + 1, i => if a.testBit i = true then i :: pfr a n (i + 1) else pfr a n (i + 1)
/-- the word's numbers from i on, rising -/
def pl (a i : Nat) : List Nat := pfr a (64 - i) i
/-- the least that is not below i -/
def nx (a i : Nat) : Int := match pl a i with | [] => -1 | x :: _ => (x : Int)
theorem mem_pfr {a x : Nat} : ∀ {n i : Nat}, x ∈ pfr a n i ↔ i ≤ x ∧ x < i + n ∧ a.testBit x = true
  | 0, i => by simp [pfr]; omega
  | n + 1, i => by
    unfold pfr
    by_cases h : a.testBit i = true
    · rw [if_pos h, List.mem_cons, mem_pfr (n := n)]
      constructor
      · rintro (rfl | h1)
        · exact ⟨Nat.le_refl _, by omega, h⟩
        · exact ⟨by omega, by omega, h1.2.2⟩
      · rintro ⟨h1, h2, h3⟩
        by_cases e : x = i
        · exact .inl e
        · exact .inr ⟨by omega, by omega, h3⟩
    · rw [if_neg h, mem_pfr (n := n)]
      constructor
      · rintro ⟨h1, h2, h3⟩; exact ⟨by omega, by omega, h3⟩
      · rintro ⟨h1, h2, h3⟩
        by_cases e : x = i
        · subst e; exact absurd h3 h
        · exact ⟨by omega, by omega, h3⟩
theorem mem_pl {a i x : Nat} : x ∈ pl a i ↔ i ≤ x ∧ x < 64 ∧ a.testBit x = true := by
  unfold pl
  rw [mem_pfr]
  constructor
  · rintro ⟨h1, h2, h3⟩; exact ⟨h1, by omega, h3⟩
  · rintro ⟨h1, h2, h3⟩; exact ⟨h1, by omega, h3⟩
theorem pfr_cons {a x : Nat} {r : List Nat} : ∀ {n i : Nat}, pfr a n i = x :: r → i ≤ x ∧ x < i + n ∧ a.testBit x = true ∧ r = pfr a (i + n - (x + 1)) (x + 1) ∧ ∀ y, i ≤ y → y < x → a.testBit y = false
  | 0, i, h => by cases h
  | n + 1, i, h => by
    unfold pfr at h
    by_cases hb : a.testBit i = true
    · rw [if_pos hb] at h
      injection h with h1 h2
      subst h1
      refine ⟨Nat.le_refl _, by omega, hb, ?_, fun y h1 h2 => by omega⟩
      rw [← h2, show i + (n + 1) - (i + 1) = n by omega]
    · rw [if_neg hb] at h
      obtain ⟨h1, h2, h3, h4, h5⟩ := pfr_cons h
      refine ⟨by omega, by omega, h3, ?_, fun y hy hx => ?_⟩
      · rw [h4, show i + 1 + n = i + (n + 1) by omega]
      · by_cases e : y = i
        · subst e; simpa using hb
        · exact h5 y (by omega) hx
theorem pl_cons {a i x : Nat} {r : List Nat} (h : pl a i = x :: r) : i ≤ x ∧ x < 64 ∧ a.testBit x = true ∧ r = pl a (x + 1) ∧ ∀ y, i ≤ y → y < x → a.testBit y = false := by
  unfold pl at h ⊢
  obtain ⟨h1, h2, h3, h4, h5⟩ := pfr_cons h
  refine ⟨h1, by omega, h3, ?_, h5⟩
  rw [h4, show i + (64 - i) - (x + 1) = 64 - (x + 1) by omega]
theorem pl_nil {a i : Nat} (h : ∀ x, i ≤ x → x < 64 → a.testBit x = false) : pl a i = [] := by
  cases hp : pl a i with
  | nil => rfl
  | cons x r =>
    obtain ⟨h1, h2, h3, _⟩ := pl_cons hp
    rw [h x h1 h2] at h3; cases h3
theorem pl_of {a i c : Nat} (hi : i ≤ c) (hc : c < 64) (hb : a.testBit c = true) (hl : ∀ j, i ≤ j → j < c → a.testBit j = false) : pl a i = c :: pl a (c + 1) := by
  cases hp : pl a i with
  | nil =>
    have := (mem_pl (a := a) (i := i) (x := c)).2 ⟨hi, hc, hb⟩
    rw [hp] at this; cases this
  | cons x r =>
    obtain ⟨h1, h2, h3, h4, h5⟩ := pl_cons hp
    have : x = c := by
      rcases Nat.lt_trichotomy x c with h | h | h
      · rw [hl x h1 h] at h3; cases h3
      · exact h
      · rw [h5 c hi h] at hb; cases hb
    subst this
    rw [h4]
theorem pl_sorted (a : Nat) : ∀ n i, (pfr a n i).Pairwise (· < ·)
  | 0, _ => List.Pairwise.nil
  | n + 1, i => by
    unfold pfr
    split
    · exact List.Pairwise.cons (fun x hx => (mem_pfr.1 hx).1) (pl_sorted a n (i + 1))
    · exact pl_sorted a n (i + 1)
theorem nx_of {a i c : Nat} (hi : i ≤ c) (hc : c < 64) (hb : a.testBit c = true) (hl : ∀ j, i ≤ j → j < c → a.testBit j = false) : nx a i = (c : Int) := by
  unfold nx; rw [pl_of hi hc hb hl]
theorem nx_none {a i : Nat} (h : ∀ x, i ≤ x → x < 64 → a.testBit x = false) : nx a i = -1 := by
  unfold nx; rw [pl_nil h]
theorem nx_cases (a i : Nat) : nx a i = -1 ∨ ∃ x : Nat, nx a i = (x : Int) ∧ i ≤ x ∧ x < 64 ∧ a.testBit x = true := by
  unfold nx
  cases h : pl a i with
  | nil => exact .inl rfl
  | cons x r => obtain ⟨h1, h2, h3, _⟩ := pl_cons h; exact .inr ⟨x, rfl, h1, h2, h3⟩
theorem pfr_len (a : Nat) : ∀ n i, (pfr a n i).length ≤ n
  | 0, _ => Nat.le_refl _
  | n + 1, i => by
    have := pfr_len a n (i + 1)
    unfold pfr
    split
    · rw [List.length_cons]; omega
    · omega
theorem pl_len (a i : Nat) : (pl a i).length ≤ 64 := by have := pfr_len a (64 - i) i; unfold pl; omega
theorem pre_len {a : Nat} {pre : List Nat} {x : Nat} (h : pre ++ [x] <+: pl a 0) : pre.length < 64 := by
  have h1 := h.length_le
  have h2 := pl_len a 0
  rw [List.length_append, List.length_singleton] at h1
  omega
/-- the number with k below it -/
def nth (a : Nat) (k : Int) : Int := if k < 0 then -1 else match (pl a 0)[k.toNat]? with | some x => (x : Int) | none => -1
theorem nth_at {a : Nat} {pre : List Nat} {x : Nat} (h : pre ++ [x] <+: pl a 0) : (pl a 0)[pre.length]? = some x := by
  obtain ⟨r, hr⟩ := h
  rw [← hr]; simp
def dstr (x : Nat) : ByteArray := ⟨(decDigits x).toArray⟩
/-- the set as a text -/
def textF (a : Nat) : ByteArray := ⟨([123] ++ Lib.join ((pl a 0).map decDigits) [44] ++ [125]).toArray⟩
theorem dig_len : ∀ x, x < 64 → (decDigits x).length ≤ 2 := by decide +kernel
theorem join_len : ∀ l : List Nat, (∀ x ∈ l, x < 64) → (Lib.join (l.map decDigits) [44]).length ≤ 3 * l.length
  | [], _ => by simp [Lib.join_nil]
  | [x], h => by
    have := dig_len x (h x (by simp))
    simp only [List.map_cons, List.map_nil, Lib.join_one, List.length_cons, List.length_nil]
    omega
  | x :: y :: r, h => by
    have d := dig_len x (h x (by simp))
    have ih := join_len (y :: r) (fun z hz => h z (by simp [hz]))
    simp only [List.map_cons, Lib.join, List.intercalate, List.intersperse_cons_cons, List.flatten_cons, List.length_append, List.length_cons, List.length_nil] at ih ⊢
    omega
/-! words under masks -/
theorem low_mask (m : Nat) (j : Nat) : (2 ^ m - 1).testBit j = decide (j < m) := Nat.testBit_two_pow_sub_one m j
theorem and_low {a m j : Nat} : (a &&& (2 ^ m - 1)).testBit j = (a.testBit j && decide (j < m)) := by rw [Nat.testBit_and, low_mask]
theorem and_high {W a m j : Nat} (hm : m ≤ W) (hj : j < W) : (a &&& (2 ^ W - 1 - (2 ^ m - 1))).testBit j = (a.testBit j && decide (m ≤ j)) := by
  have hp : 0 < 2 ^ m := Nat.two_pow_pos m
  have hle : 2 ^ m ≤ 2 ^ W := Nat.pow_le_pow_right (by decide) hm
  have e : 2 ^ W - 1 - (2 ^ m - 1) = 2 ^ W - ((2 ^ m - 1) + 1) := by omega
  rw [Nat.testBit_and, e, Nat.testBit_two_pow_sub_succ (by omega), low_mask, decide_eq_true hj, Bool.true_and]
  congr 1
  by_cases h : j < m
  · rw [decide_eq_true h, decide_eq_false (by omega)]; rfl
  · rw [decide_eq_false h, decide_eq_true (by omega)]; rfl
theorem ctz_bit (r : Nat) (h0 : r ≠ 0) (h : r < 2 ^ 64) : ctz 64 r < 64 ∧ r.testBit (ctz 64 r) = true ∧ ∀ j, j < ctz 64 r → r.testBit j = false := by
  obtain ⟨m, hm, hk⟩ := ctzFrom_spec 64 r (by omega) h
  have e : ctz 64 r = ctzFrom 64 r := by simp [ctz, h0]
  rw [e]
  generalize ctzFrom 64 r = c at *
  refine ⟨hk, ?_, fun j hj => ?_⟩
  · rw [hm, Nat.mul_comm, Nat.testBit_mul_two_pow]; simp [Nat.testBit_zero]
  · rw [hm, Nat.mul_comm, Nat.testBit_mul_two_pow]; simp; omega
theorem lt_of_bits {W a : Nat} (h : a < 2 ^ W) {j : Nat} (hj : W ≤ j) : a.testBit j = false := Nat.testBit_lt_two_pow (Nat.lt_of_lt_of_le h (Nat.pow_le_pow_right (by decide) hj))
/-- the least of what is left above a mask -/
theorem next_high {W a m : Nat} (hW : W ≤ 64) (ha : a < 2 ^ W) (hm : m ≤ W) : nx a m = if (a &&& (2 ^ W - 1 - (2 ^ m - 1))) = 0 then -1 else ((ctz 64 (a &&& (2 ^ W - 1 - (2 ^ m - 1))) : Nat) : Int) := by
  have hr : (a &&& (2 ^ W - 1 - (2 ^ m - 1))) < 2 ^ W := Nat.lt_of_le_of_lt Nat.and_le_left ha
  have hb : ∀ j, j < W → (a &&& (2 ^ W - 1 - (2 ^ m - 1))).testBit j = (a.testBit j && decide (m ≤ j)) := fun j hj => and_high hm hj
  have hW2 : 2 ^ W ≤ 2 ^ 64 := Nat.pow_le_pow_right (by decide) hW
  generalize (a &&& (2 ^ W - 1 - (2 ^ m - 1))) = r at *
  by_cases h0 : r = 0
  · rw [if_pos h0]
    refine nx_none fun x h1 h2 => ?_
    by_cases hx : x < W
    · have := hb x hx
      rw [h0, Nat.zero_testBit, decide_eq_true h1, Bool.and_true] at this
      exact this.symm
    · exact lt_of_bits ha (by omega)
  · rw [if_neg h0]
    obtain ⟨c1, c2, c3⟩ := ctz_bit r h0 (by omega)
    have hcW : ctz 64 r < W := by
      apply Nat.lt_of_not_le
      intro hle
      rw [lt_of_bits hr hle] at c2; cases c2
    have e := hb _ hcW
    rw [c2] at e
    have e2 := (Bool.and_eq_true _ _).mp e.symm
    refine nx_of (of_decide_eq_true e2.2) c1 e2.1 fun j hj hc => ?_
    have := hb j (by omega)
    rw [c3 j hc, decide_eq_true hj, Bool.and_true] at this
    exact this.symm
/-! how many -/
theorem pfr_half (a : Nat) : ∀ n i, (pfr a n (i + 1)).length = (pfr (a / 2) n i).length
  | 0, _ => rfl
  | n + 1, i => by
    have ih := pfr_half a n (i + 1)
    unfold pfr
    rw [Nat.testBit_succ]
    by_cases h : (a / 2).testBit i = true
    · rw [if_pos h, if_pos h, List.length_cons, List.length_cons, ih]
    · rw [if_neg h, if_neg h, ih]
theorem pop_len : ∀ n a, popAux n a = (pfr a n 0).length
  | 0, _ => rfl
  | n + 1, a => by
    unfold popAux pfr
    rw [pop_len n (a / 2), ← pfr_half a n 0, Nat.testBit_zero]
    by_cases h : a % 2 = 1
    · rw [h]; simp; omega
    · rw [show a % 2 = 0 by omega]; simp
theorem ones_len (a : Nat) : popAux 64 a = (pl a 0).length := pop_len 64 a
/-! parts of the list -/
theorem pfr_app (a : Nat) : ∀ m n i, pfr a (m + n) i = pfr a m i ++ pfr a n (i + m)
  | 0, n, i => by simp [pfr]
  | m + 1, n, i => by
    rw [show m + 1 + n = (m + n) + 1 by omega, pfr, pfr, pfr_app a m n (i + 1), show i + 1 + m = i + (m + 1) by omega]
    split <;> rfl
theorem pfr_congr {a b : Nat} : ∀ {n i : Nat}, (∀ j, i ≤ j → j < i + n → a.testBit j = b.testBit j) → pfr a n i = pfr b n i
  | 0, _, _ => rfl
  | n + 1, i, h => by
    rw [pfr, pfr, h i (Nat.le_refl _) (by omega), pfr_congr (n := n) (i := i + 1) (fun j h1 h2 => h j (by omega) (by omega))]
theorem pfr_none {a n i : Nat} (h : ∀ j, i ≤ j → j < i + n → a.testBit j = false) : pfr a n i = [] := by
  cases hp : pfr a n i with
  | nil => rfl
  | cons x r =>
    obtain ⟨h1, h2, h3, _⟩ := pfr_cons hp
    rw [h x h1 h2] at h3; cases h3
theorem pl_split (a i : Nat) (h : i ≤ 64) : pl a 0 = pfr a i 0 ++ pl a i := by
  unfold pl
  rw [show 64 - 0 = i + (64 - i) by omega, pfr_app, Nat.zero_add]
theorem pfr_snoc (a i : Nat) : pfr a (i + 1) 0 = pfr a i 0 ++ (if a.testBit i = true then [i] else []) := by
  rw [pfr_app, Nat.zero_add]
  congr 1
theorem pl_step {a i : Nat} (h : i < 64) : pl a i = (if a.testBit i = true then [i] else []) ++ pl a (i + 1) := by
  unfold pl
  rw [show 64 - i = (64 - (i + 1)) + 1 by omega, pfr]
  split <;> rfl
/-- a rank: how many are below m -/
theorem pl_low (a m : Nat) (h : m ≤ 64) : pl (a &&& (2 ^ m - 1)) 0 = pfr a m 0 := by
  rw [pl_split _ m h]
  have e1 : pfr (a &&& (2 ^ m - 1)) m 0 = pfr a m 0 := pfr_congr fun j _ h2 => by rw [and_low, decide_eq_true (by omega), Bool.and_true]
  have e2 : pl (a &&& (2 ^ m - 1)) m = [] := pl_nil fun x h1 _ => by rw [and_low, decide_eq_false (by omega), Bool.and_false]
  rw [e1, e2, List.append_nil]
theorem pl_skip {a s i : Nat} (hs : s ≤ i) (hi : i ≤ 64) (h : ∀ j, s ≤ j → j < i → a.testBit j = false) : pl a s = pl a i := by
  unfold pl
  rw [show 64 - s = (i - s) + (64 - i) by omega, pfr_app, pfr_none (fun j h1 h2 => h j h1 (by omega)), List.nil_append, show s + (i - s) = i by omega]
def lastOf (l : List Nat) : Int := match l.getLast? with | none => -1 | some x => (x : Int)
theorem lastOf_snoc (l : List Nat) (x : Nat) : lastOf (l ++ [x]) = (x : Int) := by unfold lastOf; simp
theorem lastOf_pfr (a : Nat) : ∀ i, lastOf (pfr a i 0) < (i : Int) ∧ -1 ≤ lastOf (pfr a i 0) ∧ ∀ j : Nat, lastOf (pfr a i 0) < (j : Int) → j < i → a.testBit j = false
  | 0 => by
    refine ⟨by simp [pfr, lastOf], by simp [pfr, lastOf], fun j _ h => by omega⟩
  | i + 1 => by
    obtain ⟨h1, h2, h3⟩ := lastOf_pfr a i
    rw [pfr_snoc]
    by_cases hb : a.testBit i = true
    · rw [if_pos hb, lastOf_snoc]
      exact ⟨by omega, by omega, fun j h4 h5 => by omega⟩
    · rw [if_neg hb, List.append_nil]
      refine ⟨by omega, h2, fun j h4 h5 => ?_⟩
      by_cases e : j = i
      · subst e; simpa using hb
      · exact h3 j h4 (by omega)
theorem next_last (a i : Nat) (hi : i ≤ 64) : pl a (lastOf (pfr a i 0) + 1).toNat = pl a i := by
  obtain ⟨h1, h2, h3⟩ := lastOf_pfr a i
  exact pl_skip (by omega) hi fun j h4 h5 => h3 j (by omega) h5
theorem high_last (a : Nat) (ha : a < 2 ^ 64) : lastOf (pl a 0) = (Lib.bitLen a : Int) - 1 := by
  have hpl : pl a 0 = pfr a 64 0 := rfl
  obtain ⟨h1, h2, h3⟩ := lastOf_pfr a 64
  rw [hpl]
  by_cases h0 : a = 0
  · subst h0; decide +kernel
  · obtain ⟨b1, b2, b3⟩ := bitLenAux_bounds 64 a ha h0
    have hb : Lib.bitLen a = bitLenAux 64 a := rfl
    have hle : Lib.bitLen a ≤ 64 := Lib.bitLen_le a 64 (by decide) ha
    rw [hb] at hle ⊢
    generalize bitLenAux 64 a = L at *
    have ht : a.testBit (L - 1) = true := by
      rw [Nat.testBit_eq_decide_div_mod_eq]
      have e1 : 1 ≤ a / 2 ^ (L - 1) := (Nat.one_le_div_iff (Nat.two_pow_pos _)).2 b2
      have e2 : a / 2 ^ (L - 1) < 2 := by
        apply Nat.div_lt_of_lt_mul
        rw [← Nat.pow_succ, show (L - 1).succ = L by omega]
        exact b3
      rw [show a / 2 ^ (L - 1) = 1 by omega]
      rfl
    have h4 : ¬ lastOf (pfr a 64 0) < ((L - 1 : Nat) : Int) := fun h => by
      have := h3 (L - 1) h (by omega)
      rw [ht] at this; cases this
    -- the last itself is in the word
    have h5 : ∃ x : Nat, lastOf (pfr a 64 0) = (x : Int) ∧ a.testBit x = true := by
      unfold lastOf
      cases hg : (pfr a 64 0).getLast? with
      | none =>
        rw [List.getLast?_eq_none_iff] at hg
        have : L - 1 ∈ pfr a 64 0 := mem_pfr.2 ⟨Nat.zero_le _, by omega, ht⟩
        rw [hg] at this; cases this
      | some x => exact ⟨x, rfl, (mem_pfr.1 (List.mem_of_getLast? hg)).2.2⟩
    obtain ⟨x, hx, hbx⟩ := h5
    rw [hx] at h4 ⊢
    have : x < L := by
      apply Nat.lt_of_not_le
      intro hle2
      rw [lt_of_bits b3 hle2] at hbx; cases hbx
    omega
theorem compl_len {a b : Nat} : ∀ {n i : Nat}, (∀ j, i ≤ j → j < i + n → b.testBit j = !a.testBit j) → (pfr b n i).length + (pfr a n i).length = n
  | 0, _, _ => rfl
  | n + 1, i, h => by
    have ih := compl_len (n := n) (i := i + 1) (fun j h1 h2 => h j (by omega) (by omega))
    rw [pfr, pfr, h i (Nat.le_refl _) (by omega)]
    cases a.testBit i with
    | true => rw [if_neg (by decide), if_pos rfl, List.length_cons]; omega
    | false => rw [if_pos (by decide), if_neg (by decide), List.length_cons]; omega
theorem not_bits {W a j : Nat} (h : j < W) : ((2 ^ W - 1) ^^^ a).testBit j = !a.testBit j := by
  rw [Nat.testBit_xor, low_mask, decide_eq_true h]; simp
/-! the count by halves (SWAR) -/
def msk (k : Nat) : Nat → Nat
  | 0 => 0
  | n + 1 => (2 ^ k - 1) + 2 ^ (2 * k) * msk k n
theorem and_msk (k x n : Nat) : x &&& msk k (n + 1) = x % 2 ^ k + 2 ^ (2 * k) * ((x / 2 ^ (2 * k)) &&& msk k n) := by
  have hp : 0 < 2 ^ k := Nat.two_pow_pos k
  have h2 : 2 ^ k ≤ 2 ^ (2 * k) := Nat.pow_le_pow_right (by decide) (by omega)
  apply Nat.eq_of_testBit_eq
  intro j
  have hlt : x % 2 ^ k < 2 ^ (2 * k) := Nat.lt_of_lt_of_le (Nat.mod_lt _ hp) h2
  rw [Nat.add_comm (x % 2 ^ k), Nat.testBit_two_pow_mul_add _ hlt, Nat.testBit_and, show msk k (n + 1) = (2 ^ k - 1) + 2 ^ (2 * k) * msk k n from rfl, Nat.add_comm (2 ^ k - 1), Nat.testBit_two_pow_mul_add _ (by omega : 2 ^ k - 1 < 2 ^ (2 * k))]
  by_cases hj : j < 2 * k
  · rw [if_pos hj, if_pos hj, low_mask, Nat.testBit_mod_two_pow]
    cases x.testBit j <;> simp
  · rw [if_neg hj, if_neg hj, Nat.testBit_and, Nat.testBit_div_two_pow, show j - 2 * k + 2 * k = j by omega]
/-- sums of pairs of digits -/
def prs (k : Nat) : Nat → Nat → Nat
  | 0, _ => 0
  | n + 1, x => (x % 2 ^ k + x / 2 ^ k % 2 ^ k) + 2 ^ (2 * k) * prs k n (x / 2 ^ (2 * k))
theorem prs_step (k : Nat) : ∀ n x, ((x / 2 ^ k) &&& msk k n) + (x &&& msk k n) = prs k n x
  | 0, x => by simp [msk, prs]
  | n + 1, x => by
    rw [and_msk, and_msk, prs, ← prs_step k n (x / 2 ^ (2 * k)), Nat.mul_add]
    have e : x / 2 ^ k / 2 ^ (2 * k) = x / 2 ^ (2 * k) / 2 ^ k := by rw [Nat.div_div_eq_div_mul, Nat.div_div_eq_div_mul, Nat.mul_comm]
    rw [e]
    omega
/-- the sum of n digits of k bits -/
def dgs (k : Nat) : Nat → Nat → Nat
  | 0, _ => 0
  | n + 1, x => x % 2 ^ k + dgs k n (x / 2 ^ k)
theorem dgs_prs (k : Nat) (hk : 1 ≤ k) : ∀ n x, dgs (2 * k) n (prs k n x) = dgs k (2 * n) x
  | 0, x => rfl
  | n + 1, x => by
    have hp : 0 < 2 ^ k := Nat.two_pow_pos k
    have hp2 : 0 < 2 ^ (2 * k) := Nat.two_pow_pos _
    have h2 : 2 * 2 ^ k ≤ 2 ^ (2 * k) := by
      rw [show 2 * k = k + k by omega, Nat.pow_add]
      have : 2 ≤ 2 ^ k := by
        have := Nat.pow_le_pow_right (n := 2) (by decide) hk
        simpa using this
      exact Nat.mul_le_mul_right _ this
    have l1 := Nat.mod_lt x hp
    have l2 := Nat.mod_lt (x / 2 ^ k) hp
    rw [show 2 * (n + 1) = 2 * n + 1 + 1 by omega, dgs, dgs, dgs, prs, Nat.add_mul_mod_self_left, Nat.mod_eq_of_lt (show x % 2 ^ k + x / 2 ^ k % 2 ^ k < 2 ^ (2 * k) by omega), Nat.add_mul_div_left _ _ hp2, Nat.div_eq_of_lt (show x % 2 ^ k + x / 2 ^ k % 2 ^ k < 2 ^ (2 * k) by omega), Nat.zero_add, dgs_prs k hk n]
    rw [Nat.div_div_eq_div_mul, ← Nat.pow_add, show k + k = 2 * k by omega]
    omega
theorem prs_lt (k : Nat) (hk : 1 ≤ k) : ∀ n x, prs k n x < 2 ^ (2 * k * n)
  | 0, x => by simp [prs]
  | n + 1, x => by
    have hp : 0 < 2 ^ k := Nat.two_pow_pos k
    have h2 : 2 * 2 ^ k ≤ 2 ^ (2 * k) := by
      rw [show 2 * k = k + k by omega, Nat.pow_add]
      have : 2 ≤ 2 ^ k := by
        have := Nat.pow_le_pow_right (n := 2) (by decide) hk
        simpa using this
      exact Nat.mul_le_mul_right _ this
    have l1 := Nat.mod_lt x hp
    have l2 := Nat.mod_lt (x / 2 ^ k) hp
    have ih := prs_lt k hk n (x / 2 ^ (2 * k))
    rw [prs, Nat.mul_succ, Nat.add_comm (2 * k * n), Nat.pow_add]
    calc _ < 2 ^ (2 * k) + 2 ^ (2 * k) * prs k n (x / 2 ^ (2 * k)) := by omega
      _ = 2 ^ (2 * k) * (prs k n (x / 2 ^ (2 * k)) + 1) := by rw [Nat.mul_add, Nat.mul_one, Nat.add_comm]
      _ ≤ 2 ^ (2 * k) * 2 ^ (2 * k * n) := Nat.mul_le_mul_left _ ih
theorem dgs_one : ∀ n x, dgs 1 n x = popAux n x
  | 0, _ => rfl
  | n + 1, x => by rw [dgs, popAux, dgs_one n]
/-- no digit of 4 bits is above 4: the sum of two neighbours stands in each second digit -/
theorem nib_step : ∀ n x, (∀ j, j < 2 * n → x / 16 ^ j % 16 ≤ 4) → x < 256 ^ n → (x / 16 + x) &&& msk 4 n = prs 4 n x
  | 0, x, _, _ => by simp [msk, prs]
  | n + 1, x, h, hx => by
    rw [and_msk, prs]
    have a0 := h 0 (by omega)
    have a1 := h 1 (by omega)
    simp only [Nat.pow_zero, Nat.div_one, Nat.pow_one] at a0 a1
    have hy : x / 256 < 256 ^ n := by
      rw [Nat.pow_succ, Nat.mul_comm] at hx
      exact Nat.div_lt_of_lt_mul hx
    have a2 : x / 256 % 16 ≤ 4 := by
      by_cases hn : n = 0
      · subst hn; simp at hy; omega
      · have := h 2 (by omega)
        simpa using this
    have ih := nib_step n (x / 256) (fun j hj => by
      have := h (j + 2) (by omega)
      rw [Nat.pow_add, show 16 ^ j * 16 ^ 2 = 256 * 16 ^ j by rw [Nat.mul_comm]] at this
      rw [Nat.div_div_eq_div_mul]
      exact this) hy
    show (x / 16 + x) % 16 + 256 * (((x / 16 + x) / 256) &&& msk 4 n) = (x % 16 + x / 16 % 16) + 256 * prs 4 n (x / 256)
    rw [← ih]
    have ex : x = x % 16 + 16 * (x / 16 % 16) + 256 * (x / 256) := by omega
    have ex2 : x / 16 = x / 16 % 16 + 16 * (x / 256) := by omega
    have e1 : (x / 16 + x) % 16 = x % 16 + x / 16 % 16 := by omega
    have e2 : (x / 16 + x) / 256 = x / 256 / 16 + x / 256 := by
      generalize x / 256 = y at *
      generalize x % 16 = a at *
      generalize x / 16 % 16 = b at *
      rw [ex2, ex]
      obtain ⟨y0, y1, hy⟩ : ∃ y0 y1, y = y0 + 16 * y1 ∧ y0 = y % 16 := ⟨y % 16, y / 16, by omega, rfl⟩
      omega
    rw [e1, e2]
theorem prs_dig (k d : Nat) (hk : 1 ≤ k) (hd : 2 * d < 2 ^ (2 * k)) : ∀ n x, (∀ j, j < 2 * n → x / 2 ^ (k * j) % 2 ^ k ≤ d) → ∀ j, prs k n x / 2 ^ (2 * k * j) % 2 ^ (2 * k) ≤ 2 * d
  | 0, x, _, j => by simp [prs]
  | n + 1, x, h, j => by
    have a0 := h 0 (by omega)
    have a1 := h 1 (by omega)
    simp only [Nat.mul_zero, Nat.pow_zero, Nat.div_one, Nat.mul_one] at a0 a1
    have hp2 : 0 < 2 ^ (2 * k) := Nat.two_pow_pos _
    rw [prs]
    cases j with
    | zero =>
      rw [Nat.mul_zero, Nat.pow_zero, Nat.div_one, Nat.add_mul_mod_self_left, Nat.mod_eq_of_lt (show x % 2 ^ k + x / 2 ^ k % 2 ^ k < 2 ^ (2 * k) by omega)]
      omega
    | succ j =>
      rw [Nat.mul_succ, Nat.add_comm (2 * k * j), Nat.pow_add, ← Nat.div_div_eq_div_mul, Nat.add_mul_div_left _ _ hp2, Nat.div_eq_of_lt (show x % 2 ^ k + x / 2 ^ k % 2 ^ k < 2 ^ (2 * k) by omega), Nat.zero_add]
      refine prs_dig k d hk hd n _ (fun i hi => ?_) j
      have := h (i + 2) (by omega)
      rw [Nat.mul_add, Nat.add_comm (k * i), Nat.pow_add, ← Nat.div_div_eq_div_mul, Nat.mul_comm k 2] at this
      exact this
theorem bytes_sum (y : Nat) (hy : y < 18446744073709551616) (h : ∀ j, y / 2 ^ (8 * j) % 256 ≤ 8) :
    ((((y + y / 256) + (y + y / 256) / 65536) + ((y + y / 256) + (y + y / 256) / 65536) / 4294967296) % 128) = dgs 8 8 y := by
  have h0 := h 0
  have h1 := h 1
  have h2 := h 2
  have h3 := h 3
  have h4 := h 4
  have h5 := h 5
  have h6 := h 6
  have h7 := h 7
  simp only [Nat.reduceMul, Nat.reducePow, Nat.mul_zero, Nat.pow_zero, Nat.div_one] at h0 h1 h2 h3 h4 h5 h6 h7
  simp only [dgs, Nat.reducePow]
  have d2 : y / 65536 = y / 256 / 256 := by omega
  have d3 : y / 16777216 = y / 256 / 256 / 256 := by omega
  have d4 : y / 4294967296 = y / 256 / 256 / 256 / 256 := by omega
  have d5 : y / 1099511627776 = y / 256 / 256 / 256 / 256 / 256 := by omega
  have d6 : y / 281474976710656 = y / 256 / 256 / 256 / 256 / 256 / 256 := by omega
  have d7 : y / 72057594037927936 = y / 256 / 256 / 256 / 256 / 256 / 256 / 256 := by omega
  rw [d2] at h2
  rw [d3] at h3
  rw [d4] at h4
  rw [d5] at h5
  rw [d6] at h6
  rw [d7] at h7
  clear d2 d3 d4 d5 d6 d7 h
  obtain ⟨y1, e1⟩ : ∃ y1, y / 256 = y1 := ⟨_, rfl⟩
  rw [e1] at h1 h2 h3 h4 h5 h6 h7 ⊢
  obtain ⟨y2, e2⟩ : ∃ y2, y1 / 256 = y2 := ⟨_, rfl⟩
  rw [e2] at h2 h3 h4 h5 h6 h7 ⊢
  obtain ⟨y3, e3⟩ : ∃ y3, y2 / 256 = y3 := ⟨_, rfl⟩
  rw [e3] at h3 h4 h5 h6 h7 ⊢
  obtain ⟨y4, e4⟩ : ∃ y4, y3 / 256 = y4 := ⟨_, rfl⟩
  rw [e4] at h4 h5 h6 h7 ⊢
  obtain ⟨y5, e5⟩ : ∃ y5, y4 / 256 = y5 := ⟨_, rfl⟩
  rw [e5] at h5 h6 h7 ⊢
  obtain ⟨y6, e6⟩ : ∃ y6, y5 / 256 = y6 := ⟨_, rfl⟩
  rw [e6] at h6 h7 ⊢
  obtain ⟨y7, e7⟩ : ∃ y7, y6 / 256 = y7 := ⟨_, rfl⟩
  rw [e7] at h7 ⊢
  have l1 : y1 < 72057594037927936 := by omega
  have l2 : y2 < 281474976710656 := by omega
  have l3 : y3 < 1099511627776 := by omega
  have l4 : y4 < 4294967296 := by omega
  have l5 : y5 < 16777216 := by omega
  have l6 : y6 < 65536 := by omega
  have l7 : y7 < 256 := by omega
  obtain ⟨c0, f0, g0⟩ : ∃ c, y = c + 256 * y1 ∧ c = y % 256 := ⟨_, by omega, rfl⟩
  obtain ⟨c1, f1, g1⟩ : ∃ c, y1 = c + 256 * y2 ∧ c = y1 % 256 := ⟨_, by omega, rfl⟩
  obtain ⟨c2, f2, g2⟩ : ∃ c, y2 = c + 256 * y3 ∧ c = y2 % 256 := ⟨_, by omega, rfl⟩
  obtain ⟨c3, f3, g3⟩ : ∃ c, y3 = c + 256 * y4 ∧ c = y3 % 256 := ⟨_, by omega, rfl⟩
  obtain ⟨c4, f4, g4⟩ : ∃ c, y4 = c + 256 * y5 ∧ c = y4 % 256 := ⟨_, by omega, rfl⟩
  obtain ⟨c5, f5, g5⟩ : ∃ c, y5 = c + 256 * y6 ∧ c = y5 % 256 := ⟨_, by omega, rfl⟩
  obtain ⟨c6, f6, g6⟩ : ∃ c, y6 = c + 256 * y7 ∧ c = y6 % 256 := ⟨_, by omega, rfl⟩
  rw [← g0] at h0 ⊢
  rw [← g1] at h1 ⊢
  rw [← g2] at h2 ⊢
  rw [← g3] at h3 ⊢
  rw [← g4] at h4 ⊢
  rw [← g5] at h5 ⊢
  rw [← g6] at h6 ⊢
  rw [Nat.mod_eq_of_lt l7] at h7 ⊢
  clear g0 g1 g2 g3 g4 g5 g6 e1 e2 e3 e4 e5 e6 e7 l1 l2 l3 l4 l5 l6 l7 hy
  have s1 : (y + y1) / 65536 = y2 + y3 := by omega
  rw [s1]
  clear s1
  have s2 : (y + y1 + (y2 + y3)) / 4294967296 = y4 + y5 + y6 + y7 := by omega
  rw [s2]
  omega
end Go.Proofs.YtfgmapnanaahaaaGreatDoorW.BitsM
