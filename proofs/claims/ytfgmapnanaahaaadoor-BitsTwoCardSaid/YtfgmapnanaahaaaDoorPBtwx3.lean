/- A text written by my program wip/gen/p2.py out of the translation and of my foreign texts; not trusted: Lean checks it. -/
import Derived.Test.YtfgmapnanaahaaaDoorPBtwx0
import Derived.Test.YtfgmapnanaahaaaDoorPBtwx1
import Derived.Test.YtfgmapnanaahaaaDoorPBtwx2
namespace Go.Proofs.YtfgmapnanaahaaaDoor.PBtw
open Go.RowKit Go.Proofs.YtfgmapnanaahaaaDoorW.PrintWords Go.Proofs.YtfgmapnanaahaaaDoorW.PrintLast Go.Proofs.YtfgmapnanaahaaaDoorW.PrintMore
attribute [local go_sem] max2_int min2_int max_two min_two max_three min_three max_four min_four   -- for this text's walks alone
set_option linter.unusedVariables false
set_option linter.unusedSimpArgs false

/-! ### provostlaw01_BitsTwo: function 9 -/
section
open Go Go.Lib Go.Proofs.YtfgmapnanaahaaaDoorW.Rng Go.Proofs.YtfgmapnanaahaaaDoorW.BitsM Go.Proofs.YtfgmapnanaahaaaDoorW.Tab
/-- is z in the word -/
def twoHas (a : Nat) (z : Int) : Bool := decide (0 ≤ z) && decide (z < 64) && a.testBit z.toNat
theorem twoHas_out {a : Nat} {z : Int} (h : (decide (0 ≤ z) && decide (z < 64)) = false) : twoHas a z = false := by unfold twoHas; rw [h]; rfl
theorem twoHas_and (a b : Nat) (z : Int) : twoHas (a &&& b) z = (twoHas a z && twoHas b z) := by
  unfold twoHas; rw [Nat.testBit_and]
  cases decide (0 ≤ z) <;> cases decide (z < 64) <;> simp
theorem twoHas_or (a b : Nat) (z : Int) : twoHas (a ||| b) z = (twoHas a z || twoHas b z) := by
  unfold twoHas; rw [Nat.testBit_or]
  cases decide (0 ≤ z) <;> cases decide (z < 64) <;> simp
theorem twoHas_xor (a b : Nat) (z : Int) : twoHas (a ^^^ b) z = (twoHas a z != twoHas b z) := by
  unfold twoHas; rw [Nat.testBit_xor]
  cases decide (0 ≤ z) <;> cases decide (z < 64) <;> simp
theorem two_max {b : Nat} (h : b < 18446744073709551616) (j : Nat) : (18446744073709551615 - b).testBit j = (decide (j < 64) && !b.testBit j) := by
  have e : (18446744073709551615 - b) = 2 ^ 64 - (b + 1) := by
    have : (2 : Nat) ^ 64 = 18446744073709551616 := rfl
    omega
  rw [e, Nat.testBit_two_pow_sub_succ (show b < 2 ^ 64 from h)]
theorem twoHas_minus (a : Nat) {b : Nat} (h : b < 18446744073709551616) (z : Int) : twoHas (a &&& (18446744073709551615 - b)) z = (twoHas a z && !twoHas b z) := by
  unfold twoHas; rw [Nat.testBit_and, two_max h]
  by_cases h0 : 0 ≤ z
  · by_cases h1 : z < 64
    · rw [decide_eq_true h0, decide_eq_true h1, decide_eq_true (show z.toNat < 64 by omega)]; simp
    · rw [decide_eq_false h1]; simp
  · rw [decide_eq_false h0]; simp
theorem twoHas_not (a : Nat) (z : Int) : twoHas (18446744073709551615 ^^^ a) z = ((decide (0 ≤ z) && decide (z < 64)) && !twoHas a z) := by
  unfold twoHas
  by_cases h0 : 0 ≤ z
  · by_cases h1 : z < 64
    · have := not_bits (W := 64) (a := a) (j := z.toNat) (by omega)
      rw [show (2 : Nat) ^ 64 - 1 = 18446744073709551615 from rfl] at this
      rw [decide_eq_true h0, decide_eq_true h1, this]; simp
    · rw [decide_eq_false h1]; simp
  · rw [decide_eq_false h0]; simp
def twoSub (a b : Nat) : Nat → Bool
  | 0 => true
  | n + 1 => twoSub a b n && (!twoHas a ((n : Int) - 2) || twoHas b ((n : Int) - 2))
def twoMet (a b : Nat) : Nat → Bool
  | 0 => false
  | n + 1 => twoMet a b n || (twoHas a ((n : Int) - 2) && twoHas b ((n : Int) - 2))
theorem twoHas_at (a n : Nat) : twoHas a ((n : Int) - 2) = true ↔ ∃ j, j + 2 = n ∧ j < 64 ∧ a.testBit j = true := by
  unfold twoHas
  constructor
  · intro h
    simp only [Bool.and_eq_true, decide_eq_true_eq] at h
    exact ⟨((n : Int) - 2).toNat, by omega, by omega, h.2⟩
  · rintro ⟨j, rfl, h1, h2⟩
    simp only [Bool.and_eq_true, decide_eq_true_eq]
    have e : (((j + 2 : Nat) : Int) - 2).toNat = j := by omega
    rw [e]
    exact ⟨⟨by omega, by omega⟩, h2⟩
theorem twoSub_iff (a b : Nat) : ∀ n, twoSub a b n = true ↔ ∀ j, j < 64 → j + 2 < n → a.testBit j = true → b.testBit j = true
  | 0 => by simp [twoSub]
  | n + 1 => by
    rw [twoSub, Bool.and_eq_true, twoSub_iff a b n, Bool.or_eq_true]
    constructor
    · rintro ⟨h1, h2⟩ j hj hjn ha
      by_cases e : j + 2 = n
      · have hA := (twoHas_at a n).2 ⟨j, e, hj, ha⟩
        rcases h2 with h2 | h2
        · rw [hA] at h2; cases h2
        · obtain ⟨j', e', _, h3⟩ := (twoHas_at b n).1 h2
          rw [show j = j' by omega]; exact h3
      · exact h1 j hj (by omega) ha
    · intro h
      refine ⟨fun j h1 h2 h3 => h j h1 (by omega) h3, ?_⟩
      cases hA : twoHas a ((n : Int) - 2) with
      | false => exact .inl rfl
      | true =>
        obtain ⟨j, e, hj, h3⟩ := (twoHas_at a n).1 hA
        exact .inr ((twoHas_at b n).2 ⟨j, e, hj, h j hj (by omega) h3⟩)
theorem twoMet_iff (a b : Nat) : ∀ n, twoMet a b n = true ↔ ∃ j, j < 64 ∧ j + 2 < n ∧ a.testBit j = true ∧ b.testBit j = true
  | 0 => by simp [twoMet]
  | n + 1 => by
    rw [twoMet, Bool.or_eq_true, twoMet_iff a b n, Bool.and_eq_true]
    constructor
    · rintro (⟨j, h1, h2, h3⟩ | ⟨h1, h2⟩)
      · exact ⟨j, h1, by omega, h3⟩
      · obtain ⟨j, e, hj, h3⟩ := (twoHas_at a n).1 h1
        obtain ⟨j', e', _, h4⟩ := (twoHas_at b n).1 h2
        exact ⟨j, hj, by omega, h3, by rw [show j = j' by omega]; exact h4⟩
    · rintro ⟨j, h1, h2, h3, h4⟩
      by_cases e : j + 2 = n
      · exact .inr ⟨(twoHas_at a n).2 ⟨j, e, h1, h3⟩, (twoHas_at b n).2 ⟨j, e, h1, h4⟩⟩
      · exact .inl ⟨j, h1, by omega, h3, h4⟩
theorem two_subv (a b : Nat) (ha : a < 18446744073709551616) (h2 : b < 18446744073709551616) : bits_Set_uint64_Sub.f (a : Int) (b : Int) = some (twoSub a b 69) := by
  unfold bits_Set_uint64_Sub.f
  rw [u64_andNot_nat a b ha h2]
  congr 1
  rw [Bool.eq_iff_iff, twoSub_iff]
  have e : ((((a &&& (18446744073709551615 - b) : Nat) : Int) == 0) = true) ↔ (a &&& (18446744073709551615 - b)) = 0 := by simp
  rw [e]
  constructor
  · intro h j hj _ hA
    have := congrArg (fun x => Nat.testBit x j) h
    simp only [Nat.testBit_and, two_max h2, hA, decide_eq_true hj, Nat.zero_testBit, Bool.true_and] at this
    cases hB : b.testBit j with
    | true => rfl
    | false => rw [hB] at this; cases this
  · intro h
    apply Nat.eq_of_testBit_eq
    intro j
    rw [Nat.testBit_and, two_max h2, Nat.zero_testBit]
    by_cases hj : j < 64
    · cases hA : a.testBit j with
      | false => rfl
      | true => rw [h j hj (by omega) hA]; simp
    · rw [decide_eq_false hj]; simp
theorem two_metv (a b : Nat) (ha : a < 18446744073709551616) (h2 : b < 18446744073709551616) : bits_Set_uint64_Meets.f (a : Int) (b : Int) = some (twoMet a b 69) := by
  unfold bits_Set_uint64_Meets.f
  rw [u64_and_nat a b ha h2]
  congr 1
  rw [Bool.eq_iff_iff, twoMet_iff]
  have e : ((((a &&& b : Nat) : Int) != 0) = true) ↔ (a &&& b) ≠ 0 := by simp
  rw [e]
  constructor
  · intro h
    apply Classical.byContradiction
    intro hc
    apply h
    apply Nat.eq_of_testBit_eq
    intro j
    rw [Nat.testBit_and, Nat.zero_testBit]
    cases hA : a.testBit j with
    | false => rfl
    | true =>
      cases hB : b.testBit j with
      | false => rfl
      | true =>
        exfalso
        apply hc
        refine ⟨j, ?_, ?_, hA, hB⟩
        · apply Classical.byContradiction
          intro hj
          rw [lt_of_bits (W := 64) ha (by omega)] at hA
          cases hA
        · have : j < 64 := by
            apply Classical.byContradiction
            intro hj
            rw [lt_of_bits (W := 64) ha (by omega)] at hA
            cases hA
          omega
  · rintro ⟨j, _, _, hA, hB⟩ h
    have := congrArg (fun x => Nat.testBit x j) h
    simp [Nat.testBit_and, hA, hB] at this
def twoCmp (a b : Nat) : Int := if (a : Int) < b then -1 else if (a : Int) > b then 1 else 0
theorem two_rcmp (a b : Nat) : provostref01_Cmp.f (a : Int) (b : Int) = some (twoCmp a b) := by
  unfold provostref01_Cmp.f twoCmp
  split
  · rfl
  · split <;> rfl
theorem two_scmp (a b : Nat) : bits_Set_uint64_Cmp.f (a : Int) (b : Int) = some (twoCmp a b) := by
  unfold bits_Set_uint64_Cmp.f cmp_Compare_uint64.f cmp_isNaN_uint64.f twoCmp
  have e1 : ((a : Int) != (a : Int)) = false := by simp
  have e2 : ((b : Int) != (b : Int)) = false := by simp
  rw [e1, e2]
  simp only [Option.bind_some, Bool.false_eq_true, if_false]
  split <;> (try split) <;> simp_all
theorem two_cself (a : Nat) : twoCmp a a = 0 := by
  unfold twoCmp
  rw [if_neg (by omega), if_neg (by omega)]
/-- what stands while the law runs -/
def TwoSit (w0 : World) (g4 g5 : Nat) (a b : Nat) (i k : Int) (W : World) : Prop :=
  W.heap[w0.heap.size]? = some (.cells #[.int .u64 a, .int .u64 b, .int .i64 i, .int .i64 k] 24 (0, 0)) ∧ Boxed W g4 26 (.int .u64 a) ∧ Boxed W g5 26 (.int .u64 b) ∧ TabW W ∧ Below w0.heap.size w0 W
theorem TwoSit.below {w0 : World} {g4 g5 a b : Nat} {i k : Int} {W W' : World} (h : TwoSit w0 g4 g5 a b i k W) (hw : Below W.heap.size W W') : TwoSit w0 g4 g5 a b i k W' := by
  obtain ⟨h1, h4, h5, hT, hB⟩ := h
  exact ⟨(hw.block _ (blk_lt h1)).trans h1, (hw.block _ h4.lt).trans h4, (hw.block _ h5.lt).trans h5, tab_below hT hw, hB.trans (hw.mono hB.size)⟩
theorem TwoSit.drew {w0 : World} {g4 g5 a b : Nat} {i k : Int} {W : World} (h : TwoSit w0 g4 g5 a b i k W) : TwoSit w0 g4 g5 a b i k W.drew := ⟨h.1, h.2.1, h.2.2.1, h.2.2.2.1, below_drew h.2.2.2.2⟩
theorem TwoSit.c4 {w0 : World} {g4 g5 a b : Nat} {i k : Int} {W : World} (h : TwoSit w0 g4 g5 a b i k W) : W.cell? ⟨g4, 0, none⟩ = some (.int .u64 a) := h.2.1.cell
theorem TwoSit.c5 {w0 : World} {g4 g5 a b : Nat} {i k : Int} {W : World} (h : TwoSit w0 g4 g5 a b i k W) : W.cell? ⟨g5, 0, none⟩ = some (.int .u64 b) := h.2.2.1.cell
theorem TwoSit.ca {w0 : World} {g4 g5 a b : Nat} {i k : Int} {W : World} (h : TwoSit w0 g4 g5 a b i k W) : W.cell? ⟨w0.heap.size, 0, none⟩ = some (.int .u64 a) := (blk_cell h.1 0).trans rfl
theorem TwoSit.cb {w0 : World} {g4 g5 a b : Nat} {i k : Int} {W : World} (h : TwoSit w0 g4 g5 a b i k W) : W.cell? ⟨w0.heap.size, 1, none⟩ = some (.int .u64 b) := (blk_cell h.1 1).trans rfl
theorem two_wz (n : Nat) (h : n < 69) : wrap64 ((n : Int) - 2 + 1) = ((n + 1 : Nat) : Int) - 2 := by
  unfold wrap64
  omega
theorem TwoSit.drewN {w0 : World} {g4 g5 a b : Nat} {i k : Int} {W : World} (h : TwoSit w0 g4 g5 a b i k W) (nd : Nat) : TwoSit w0 g4 g5 a b i k (W.drewN nd) := ⟨h.1, h.2.1, h.2.2.1, h.2.2.2.1, h.2.2.2.2.trans (pw_below_drewN (Below.refl _ W) nd |>.mono h.2.2.2.2.size)⟩
theorem TwoSit.tab {w0 : World} {g4 g5 a b : Nat} {i k : Int} {W : World} (h : TwoSit w0 g4 g5 a b i k W) : TabW W := h.2.2.2.1
def provostlaw01_BitsTwo.T16 : Bool × List (List Nat × List Nat) := (true, [([], []), ([], []), ([0, 1], [0, 1]), ([], []), ([2, 3], [2, 3]), ([4, 2], [4]), ([5], [5]), ([5], [5]), ([6, 7, 5, 5], [5, 6, 7]), ([5], [5]), ([8, 9, 5], [5, 8, 9]), ([5, 10], [5, 10]), ([11, 8], [11]), ([12], [12]), ([12], [12]), ([13, 14, 12, 12], [12, 13, 14]), ([12], [12]), ([16, 12], [12, 16]), ([12], [12]), ([18, 12], [12, 18]), ([17, 19, 15, 12], [12, 17, 19]), ([15, 20, 12], [12, 15, 20]), ([12, 21], [12, 21]), ([22, 20], [22]), ([23], [23]), ([23], [23]), ([24, 25, 23, 23], [23, 24, 25]), ([26, 23], [23, 26]), ([23, 27], [23, 27]), ([28, 26], [28]), ([29], [29]), ([30, 29, 29], [29, 30]), ([29], [29]), ([32, 29], [29, 32]), ([31, 33, 29], [29, 31, 33]), ([29, 34], [29, 34]), ([35, 31], [35]), ([36], [36]), ([37, 36, 36], [36, 37]), ([36], [36]), ([39, 36], [36, 39]), ([38, 40, 36], [36, 38, 40]), ([36, 41], [36, 41]), ([42, 38], [42]), ([43, 43], [43]), ([43, 44], [43, 44]), ([45, 44, 0, 1, 2, 3, 4, 5, 6, 7, 8, 9, 10, 11, 12, 13, 14, 15, 16, 17, 18, 19, 20, 21, 22, 23, 24, 25, 26, 27, 28, 29, 30, 31, 32, 33, 34, 35, 36, 37, 38, 39, 40, 41, 42, 43, 44, 45], [45])])
def provostlaw01_BitsTwo.B16 : List Nat := [0, 0, 3, 0, 15, 31, 63, 63, 255, 63, 1023, 2047, 4095, 8191, 8191, 32767, 8191, 73727, 8191, 270335, 1048575, 2097151, 4194303, 8388607, 16777215, 16777215, 67108863, 134217727, 268435455, 536870911, 1073741823, 2147483647, 1073741823, 5368709119, 17179869183, 34359738367, 68719476735, 137438953471, 274877906943, 137438953471, 687194767359, 2199023255551, 4398046511103, 8796093022207, 17592186044415, 35184372088831, 70368744177663]
theorem provostlaw01_BitsTwo.tab16 : rtab .any (opsOf Tryd.f9 16) = provostlaw01_BitsTwo.T16 := by kernel_rfl
theorem provostlaw01_BitsTwo.bits16 : waitsOk provostlaw01_BitsTwo.T16.2 provostlaw01_BitsTwo.B16 = true := by kernel_rfl
set_option maxRecDepth 100000 in
set_option maxHeartbeats 8000000 in
theorem provostlaw01_BitsTwo.walk (a b : Nat) (ha : a < 18446744073709551616) (hb64 : b < 18446744073709551616) (i k : Int) (w : World) (hT : TabW w) :
    Calls Tryd.prog 9 #[.agg #[.int .u64 a, .int .u64 b, .int .i64 i, .int .i64 k]] w fun e W' => e = .returned (.bool true) ∧ Below w.heap.size w W' := by
  have HOA := Aside0.mk (show bits_Set_uint64_Of.f 0 (a : Int) = some (a : Int) from rfl)
  have HOB := Aside0.mk (show bits_Set_uint64_Of.f 0 (b : Int) = some (b : Int) from rfl)
  have HW := Aside0.mk (show provostlaw01_wakes.f = some true from by decide +kernel)
  have hAN : bits_Set_uint64_And.f (a : Int) (b : Int) = some ((a &&& b : Nat) : Int) := by unfold bits_Set_uint64_And.f; rw [u64_and_nat a b ha hb64]
  have hOR : bits_Set_uint64_Or.f (a : Int) (b : Int) = some ((a ||| b : Nat) : Int) := by unfold bits_Set_uint64_Or.f; rw [u64_or_nat a b ha hb64]
  have hMI : bits_Set_uint64_Minus.f (a : Int) (b : Int) = some ((a &&& (18446744073709551615 - b) : Nat) : Int) := by unfold bits_Set_uint64_Minus.f; rw [u64_andNot_nat a b ha hb64]
  have hXO : bits_Set_uint64_Xor.f (a : Int) (b : Int) = some ((a ^^^ b : Nat) : Int) := by unfold bits_Set_uint64_Xor.f; rw [u64_xor_nat a b ha hb64]
  have hNO : bits_Set_uint64_Not.f (a : Int) = some ((18446744073709551615 ^^^ a : Nat) : Int) := by unfold bits_Set_uint64_Not.f; rw [show (18446744073709551615 : Int) = ((18446744073709551615 : Nat) : Int) from rfl, u64_xor_nat 18446744073709551615 a (by decide) ha]
  have hFA := fun z => (has64_eq a ha z).trans (show _ = some (twoHas a z) from rfl)
  have hFB := fun z => (has64_eq b hb64 z).trans (show _ = some (twoHas b z) from rfl)
  have hFAN := fun z => (has64_eq (a &&& b) (Nat.lt_of_le_of_lt Nat.and_le_left ha) z).trans (congrArg some (twoHas_and a b z))
  have hFOR := fun z => (has64_eq (a ||| b) (Nat.or_lt_two_pow (n := 64) ha hb64) z).trans (congrArg some (twoHas_or a b z))
  have hFMI := fun z => (has64_eq (a &&& (18446744073709551615 - b)) (Nat.lt_of_le_of_lt Nat.and_le_left ha) z).trans (congrArg some (twoHas_minus a hb64 z))
  have hFXO := fun z => (has64_eq (a ^^^ b) (Nat.xor_lt_two_pow (n := 64) ha hb64) z).trans (congrArg some (twoHas_xor a b z))
  have hFNO := fun z => (has64_eq (18446744073709551615 ^^^ a) (Nat.xor_lt_two_pow (n := 64) (by decide) ha) z).trans (congrArg some (twoHas_not a z))
  have hSV := two_subv a b ha hb64
  have hMV := two_metv a b ha hb64
  have hCV := two_scmp a b
  have hRV := two_rcmp a b
  have hCS := (two_scmp a a).trans (congrArg some (two_cself a))
  have _hWDA_ := True.intro
  have hWDA : bits_Set_uint64_Word.f (a : Int) = some (a : Int) := rfl
  have hWDB : bits_Set_uint64_Word.f (b : Int) = some (b : Int) := rfl
  generalize (a &&& b : Nat) = an at *
  generalize (a ||| b : Nat) = orw at *
  generalize (a &&& (18446744073709551615 - b) : Nat) = mi at *
  generalize (a ^^^ b : Nat) = xo at *
  generalize (18446744073709551615 ^^^ a : Nat) = no at *
  generalize twoCmp a b = cv at *
  have HAN := Aside0.mk hAN; have HOR := Aside0.mk hOR; have HMI := Aside0.mk hMI; have HXO := Aside0.mk hXO; have HNO := Aside0.mk hNO
  have HFA := Aside0.mk hFA; have HFB := Aside0.mk hFB; have HFAN := Aside0.mk hFAN; have HFOR := Aside0.mk hFOR; have HFMI := Aside0.mk hFMI; have HFXO := Aside0.mk hFXO; have HFNO := Aside0.mk hFNO
  have HSV := Aside0.mk hSV; have HMV := Aside0.mk hMV; have HCV := Aside0.mk hCV; have HRV := Aside0.mk hRV; have HCS := Aside0.mk hCS; have HWDA := Aside0.mk hWDA; have HWDB := Aside0.mk hWDB
  have HTW := Aside0.mk hT
  clear hT hAN hOR hMI hXO hNO hFA hFB hFAN hFOR hFMI hFXO hFNO hSV hMV hCV hRV hCS hWDA hWDB ha hb64
  go_enter Tryd.func9, Tryd.ntmps9
  go_wp2_with (first | (go_at_call 11; (with_reducible refine (bits_Set_uint64_Of.calls 0 a a _ HOA.out).mono ?_); rintro e w1 ⟨rfl, hb1⟩; have y1 : ((w.alloc (.cells #[.int .u64 a, .int .u64 b, .int .i64 i, .int .i64 k] 24)).alloc (.cells #[.int .u64 0] 26)).heap[w.heap.size]? = some (.cells #[.int .u64 a, .int .u64 b, .int .i64 i, .int .i64 k] 24) := blk_alloc (World.alloc_heap_new w _) _; have y3 : ((w.alloc (.cells #[.int .u64 a, .int .u64 b, .int .i64 i, .int .i64 k] 24)).alloc (.cells #[.int .u64 0] 26)).heap[w.heap.size + 1]? = some (.cells #[.int .u64 0] 26) := (by have := World.alloc_heap_new (w.alloc (.cells #[.int .u64 a, .int .u64 b, .int .i64 i, .int .i64 k] 24)) (.cells #[.int .u64 0] 26); rwa [World.size_alloc] at this); have yB : Below w.heap.size w ((w.alloc (.cells #[.int .u64 a, .int .u64 b, .int .i64 i, .int .i64 k] 24)).alloc (.cells #[.int .u64 0] 26)) := ((Below.refl _ w).alloc (Nat.le_refl _) _).alloc (by simp) _; have X1 := Aside0.mk ((hb1.block _ (blk_lt y1)).trans y1); have X3 := Aside0.mk ((hb1.block _ (blk_lt y3)).trans y3); have HT1 := Aside0.mk (tab_below HTW.out (yB.trans (hb1.mono yB.size))); have HB1 := Aside0.mk (yB.trans (hb1.mono yB.size)); have hz1 : (w1.alloc (.cells #[.int .u64 a] 26)).cell? ⟨w.heap.size + 1, 0, none⟩ = some (.int .u64 0) := (blk_cell (blk_alloc X3.out _) 0).trans rfl; have hz2 : (w1.alloc (.cells #[.int .u64 a] 26)).cell? ⟨w.heap.size, 1, none⟩ = some (.int .u64 b) := (blk_cell (blk_alloc X1.out _) 1).trans rfl; clear y1 y3 yB hb1) | (go_at_call 11; (with_reducible refine (bits_Set_uint64_Of.calls 0 b b _ HOB.out).mono ?_); rintro e w2 ⟨rfl, hb2⟩; have y1 := blk_alloc X1.out (.cells #[.int .u64 a] 26); have y4 := Boxed.new w1 26 (.int .u64 a); have yB := HB1.out.alloc HB1.out.size (.cells #[.int .u64 a] 26); have yT := tab_below HT1.out ((Below.refl _ w1).alloc (Nat.le_refl _) (.cells #[.int .u64 a] 26)); have S2 := Aside0.mk (show TwoSit w w1.heap.size w2.heap.size a b i k (w2.alloc (.cells #[.int .u64 b] 26)) from ⟨blk_alloc ((hb2.block _ (blk_lt y1)).trans y1) _, Boxed.alloc (show Boxed w2 w1.heap.size 26 (.int .u64 a) from (hb2.block _ y4.lt).trans y4) _, Boxed.new _ _ _, tab_below (tab_below yT hb2) ((Below.refl _ w2).alloc (Nat.le_refl _) _), (yB.trans (hb2.mono yB.size)).alloc (yB.trans (hb2.mono yB.size)).size _⟩); clear hz1 hz2 y1 y4 yB yT hb2))
  generalize w2.alloc (.cells #[.int .u64 b] 26) = W0 at *
  have hS0 := S2.out
  clear S2 X1 X3 HT1 HB1 HTW
  generalize w1.heap.size = g4 at *
  generalize w2.heap.size = g5 at *
  go_loopw [6, 7, 8] (fun v6 v7 v8 wr => ∃ n : Nat, n ≤ 69 ∧ v6 = .bool (twoSub a b n) ∧ v7 = .bool (twoMet a b n) ∧ v8 = .int .i64 ((n : Int) - 2) ∧ Aside0 (TwoSit w g4 g5 a b i k wr)) (fun _ _ v8 _ => (70 - RowKit.intOf v8).toNat)
  case atStart => exact ⟨0, by omega, rfl, rfl, rfl, ⟨hS0⟩⟩
  case round =>
    clear hS0
    obtain ⟨n, hn, rfl, rfl, rfl, ST⟩ := hrel
    have hc4 := ST.out.c4
    have hc5 := ST.out.c5
    by_cases hlt : n < 69
    · obtain ⟨z, hz⟩ : ∃ z : Int, z = (n : Int) - 2 := ⟨_, rfl⟩
      have hs1 : twoSub a b (n + 1) = (twoSub a b n && (!twoHas a ((n : Int) - 2) || twoHas b ((n : Int) - 2))) := rfl
      have hm1 : twoMet a b (n + 1) = (twoMet a b n || (twoHas a ((n : Int) - 2) && twoHas b ((n : Int) - 2))) := rfl
      have hw1 := two_wz n hlt
      rw [← hz] at hs1 hm1 hw1 ⊢
      have F1 := Aside0.mk (HFA.out z); have F2 := Aside0.mk (HFB.out z); have F3 := Aside0.mk (HFAN.out z); have F4 := Aside0.mk (HFOR.out z); have F5 := Aside0.mk (HFMI.out z); have F6 := Aside0.mk (HFXO.out z); have F7 := Aside0.mk (HFNO.out z)
      have hoa : (decide (0 ≤ z) && decide (z < 64)) = false → twoHas a z = false := twoHas_out
      have hob : (decide (0 ≤ z) && decide (z < 64)) = false → twoHas b z = false := twoHas_out
      have hz67 : decide (z < 67) = true := decide_eq_true (by omega)
      generalize twoSub a b n = sv at *
      generalize twoMet a b n = mv at *
      generalize twoHas a z = P at *
      generalize twoHas b z = Q at *
      have HS1 := Aside0.mk hs1; have HM1 := Aside0.mk hm1; have HWZ := Aside0.mk hw1; have HZ := Aside0.mk hz
      clear hs1 hm1 hw1
      have hzr : -2 ≤ z ∧ z < 67 := by omega
      clear hz HFA HFB HFAN HFOR HFMI HFXO HFNO
      by_cases h0 : 0 ≤ z
      · by_cases h6 : z < 64
        · cases P with
          | true =>
            cases Q with
            | true =>
              have d0 : decide (0 ≤ z) = true := decide_eq_true h0
              have d0' : decide (z ≥ 0) = true := d0
              have d6 : decide (z < 64) = true := decide_eq_true h6
              have hwz : wrap64 (z + 1) = z + 1 := by unfold wrap64; omega
              have F7' : Aside0 (bits_Set_uint64_Has.f (no : Int) z = some false) := ⟨by have := F7.out; rw [d0, d6] at this; exact this⟩
              clear hoa hob F7 hzr h0 h6
              cases sv <;> cases mv
              all_goals (
                go_wp2_with (first | (go_at_call 23; (first | (with_reducible refine (bits_Set_uint64_Has.calls a z true _ (F1.out.trans rfl)).mono ?_) | (with_reducible refine (bits_Set_uint64_Has.calls b z true _ (F2.out.trans rfl)).mono ?_) | (with_reducible refine (bits_Set_uint64_Has.calls an z true _ (F3.out.trans rfl)).mono ?_) | (with_reducible refine (bits_Set_uint64_Has.calls orw z true _ (F4.out.trans rfl)).mono ?_) | (with_reducible refine (bits_Set_uint64_Has.calls mi z false _ (F5.out.trans rfl)).mono ?_) | (with_reducible refine (bits_Set_uint64_Has.calls xo z false _ (F6.out.trans rfl)).mono ?_) | (with_reducible refine (bits_Set_uint64_Has.calls no z false _ (F7'.out.trans rfl)).mono ?_)); rintro e wn ⟨rfl, hbn⟩; replace ST := Aside0.mk (ST.out.below hbn); replace hc4 := ST.out.c4; replace hc5 := ST.out.c5; clear hbn) | (go_at_call 36; (with_reducible refine (bits_Set_uint64_And.calls a b an _ HAN.out).mono ?_); rintro e wn ⟨rfl, hbn⟩; replace ST := Aside0.mk (ST.out.below hbn); replace hc4 := ST.out.c4; replace hc5 := ST.out.c5; clear hbn) | (go_at_call 37; (with_reducible refine (bits_Set_uint64_Or.calls a b orw _ HOR.out).mono ?_); rintro e wn ⟨rfl, hbn⟩; replace ST := Aside0.mk (ST.out.below hbn); replace hc4 := ST.out.c4; replace hc5 := ST.out.c5; clear hbn) | (go_at_call 38; (with_reducible refine (bits_Set_uint64_Minus.calls a b mi _ HMI.out).mono ?_); rintro e wn ⟨rfl, hbn⟩; replace ST := Aside0.mk (ST.out.below hbn); replace hc4 := ST.out.c4; replace hc5 := ST.out.c5; clear hbn) | (go_at_call 39; (with_reducible refine (bits_Set_uint64_Xor.calls a b xo _ HXO.out).mono ?_); rintro e wn ⟨rfl, hbn⟩; replace ST := Aside0.mk (ST.out.below hbn); replace hc4 := ST.out.c4; replace hc5 := ST.out.c5; clear hbn) | (go_at_call 29; (with_reducible refine (bits_Set_uint64_Not.calls a no _ HNO.out).mono ?_); rintro e wn ⟨rfl, hbn⟩; replace ST := Aside0.mk (ST.out.below hbn); replace hc4 := ST.out.c4; replace hc5 := ST.out.c5; clear hbn))
                go_roundw
                case rel => exact ⟨n + 1, by omega, by rw [HS1.out]; rfl, by rw [HM1.out]; rfl, by rw [← HWZ.out], ST⟩
                case measure => have hq := HZ.out; simp only [RowKit.intOf]; omega)
            | false =>
              have d0 : decide (0 ≤ z) = true := decide_eq_true h0
              have d0' : decide (z ≥ 0) = true := d0
              have d6 : decide (z < 64) = true := decide_eq_true h6
              have hwz : wrap64 (z + 1) = z + 1 := by unfold wrap64; omega
              have F7' : Aside0 (bits_Set_uint64_Has.f (no : Int) z = some false) := ⟨by have := F7.out; rw [d0, d6] at this; exact this⟩
              clear hoa hob F7 hzr h0 h6
              cases sv <;> cases mv
              all_goals (
                go_wp2_with (first | (go_at_call 23; (first | (with_reducible refine (bits_Set_uint64_Has.calls a z true _ (F1.out.trans rfl)).mono ?_) | (with_reducible refine (bits_Set_uint64_Has.calls b z false _ (F2.out.trans rfl)).mono ?_) | (with_reducible refine (bits_Set_uint64_Has.calls an z false _ (F3.out.trans rfl)).mono ?_) | (with_reducible refine (bits_Set_uint64_Has.calls orw z true _ (F4.out.trans rfl)).mono ?_) | (with_reducible refine (bits_Set_uint64_Has.calls mi z true _ (F5.out.trans rfl)).mono ?_) | (with_reducible refine (bits_Set_uint64_Has.calls xo z true _ (F6.out.trans rfl)).mono ?_) | (with_reducible refine (bits_Set_uint64_Has.calls no z false _ (F7'.out.trans rfl)).mono ?_)); rintro e wn ⟨rfl, hbn⟩; replace ST := Aside0.mk (ST.out.below hbn); replace hc4 := ST.out.c4; replace hc5 := ST.out.c5; clear hbn) | (go_at_call 36; (with_reducible refine (bits_Set_uint64_And.calls a b an _ HAN.out).mono ?_); rintro e wn ⟨rfl, hbn⟩; replace ST := Aside0.mk (ST.out.below hbn); replace hc4 := ST.out.c4; replace hc5 := ST.out.c5; clear hbn) | (go_at_call 37; (with_reducible refine (bits_Set_uint64_Or.calls a b orw _ HOR.out).mono ?_); rintro e wn ⟨rfl, hbn⟩; replace ST := Aside0.mk (ST.out.below hbn); replace hc4 := ST.out.c4; replace hc5 := ST.out.c5; clear hbn) | (go_at_call 38; (with_reducible refine (bits_Set_uint64_Minus.calls a b mi _ HMI.out).mono ?_); rintro e wn ⟨rfl, hbn⟩; replace ST := Aside0.mk (ST.out.below hbn); replace hc4 := ST.out.c4; replace hc5 := ST.out.c5; clear hbn) | (go_at_call 39; (with_reducible refine (bits_Set_uint64_Xor.calls a b xo _ HXO.out).mono ?_); rintro e wn ⟨rfl, hbn⟩; replace ST := Aside0.mk (ST.out.below hbn); replace hc4 := ST.out.c4; replace hc5 := ST.out.c5; clear hbn) | (go_at_call 29; (with_reducible refine (bits_Set_uint64_Not.calls a no _ HNO.out).mono ?_); rintro e wn ⟨rfl, hbn⟩; replace ST := Aside0.mk (ST.out.below hbn); replace hc4 := ST.out.c4; replace hc5 := ST.out.c5; clear hbn))
                go_roundw
                case rel => exact ⟨n + 1, by omega, by rw [HS1.out]; rfl, by rw [HM1.out]; rfl, by rw [← HWZ.out], ST⟩
                case measure => have hq := HZ.out; simp only [RowKit.intOf]; omega)
          | false =>
            cases Q with
            | true =>
              have d0 : decide (0 ≤ z) = true := decide_eq_true h0
              have d0' : decide (z ≥ 0) = true := d0
              have d6 : decide (z < 64) = true := decide_eq_true h6
              have hwz : wrap64 (z + 1) = z + 1 := by unfold wrap64; omega
              have F7' : Aside0 (bits_Set_uint64_Has.f (no : Int) z = some true) := ⟨by have := F7.out; rw [d0, d6] at this; exact this⟩
              clear hoa hob F7 hzr h0 h6
              cases sv <;> cases mv
              all_goals (
                go_wp2_with (first | (go_at_call 23; (first | (with_reducible refine (bits_Set_uint64_Has.calls a z false _ (F1.out.trans rfl)).mono ?_) | (with_reducible refine (bits_Set_uint64_Has.calls b z true _ (F2.out.trans rfl)).mono ?_) | (with_reducible refine (bits_Set_uint64_Has.calls an z false _ (F3.out.trans rfl)).mono ?_) | (with_reducible refine (bits_Set_uint64_Has.calls orw z true _ (F4.out.trans rfl)).mono ?_) | (with_reducible refine (bits_Set_uint64_Has.calls mi z false _ (F5.out.trans rfl)).mono ?_) | (with_reducible refine (bits_Set_uint64_Has.calls xo z true _ (F6.out.trans rfl)).mono ?_) | (with_reducible refine (bits_Set_uint64_Has.calls no z true _ (F7'.out.trans rfl)).mono ?_)); rintro e wn ⟨rfl, hbn⟩; replace ST := Aside0.mk (ST.out.below hbn); replace hc4 := ST.out.c4; replace hc5 := ST.out.c5; clear hbn) | (go_at_call 36; (with_reducible refine (bits_Set_uint64_And.calls a b an _ HAN.out).mono ?_); rintro e wn ⟨rfl, hbn⟩; replace ST := Aside0.mk (ST.out.below hbn); replace hc4 := ST.out.c4; replace hc5 := ST.out.c5; clear hbn) | (go_at_call 37; (with_reducible refine (bits_Set_uint64_Or.calls a b orw _ HOR.out).mono ?_); rintro e wn ⟨rfl, hbn⟩; replace ST := Aside0.mk (ST.out.below hbn); replace hc4 := ST.out.c4; replace hc5 := ST.out.c5; clear hbn) | (go_at_call 38; (with_reducible refine (bits_Set_uint64_Minus.calls a b mi _ HMI.out).mono ?_); rintro e wn ⟨rfl, hbn⟩; replace ST := Aside0.mk (ST.out.below hbn); replace hc4 := ST.out.c4; replace hc5 := ST.out.c5; clear hbn) | (go_at_call 39; (with_reducible refine (bits_Set_uint64_Xor.calls a b xo _ HXO.out).mono ?_); rintro e wn ⟨rfl, hbn⟩; replace ST := Aside0.mk (ST.out.below hbn); replace hc4 := ST.out.c4; replace hc5 := ST.out.c5; clear hbn) | (go_at_call 29; (with_reducible refine (bits_Set_uint64_Not.calls a no _ HNO.out).mono ?_); rintro e wn ⟨rfl, hbn⟩; replace ST := Aside0.mk (ST.out.below hbn); replace hc4 := ST.out.c4; replace hc5 := ST.out.c5; clear hbn))
                go_roundw
                case rel => exact ⟨n + 1, by omega, by rw [HS1.out]; rfl, by rw [HM1.out]; rfl, by rw [← HWZ.out], ST⟩
                case measure => have hq := HZ.out; simp only [RowKit.intOf]; omega)
            | false =>
              have d0 : decide (0 ≤ z) = true := decide_eq_true h0
              have d0' : decide (z ≥ 0) = true := d0
              have d6 : decide (z < 64) = true := decide_eq_true h6
              have hwz : wrap64 (z + 1) = z + 1 := by unfold wrap64; omega
              have F7' : Aside0 (bits_Set_uint64_Has.f (no : Int) z = some true) := ⟨by have := F7.out; rw [d0, d6] at this; exact this⟩
              clear hoa hob F7 hzr h0 h6
              cases sv <;> cases mv
              all_goals (
                go_wp2_with (first | (go_at_call 23; (first | (with_reducible refine (bits_Set_uint64_Has.calls a z false _ (F1.out.trans rfl)).mono ?_) | (with_reducible refine (bits_Set_uint64_Has.calls b z false _ (F2.out.trans rfl)).mono ?_) | (with_reducible refine (bits_Set_uint64_Has.calls an z false _ (F3.out.trans rfl)).mono ?_) | (with_reducible refine (bits_Set_uint64_Has.calls orw z false _ (F4.out.trans rfl)).mono ?_) | (with_reducible refine (bits_Set_uint64_Has.calls mi z false _ (F5.out.trans rfl)).mono ?_) | (with_reducible refine (bits_Set_uint64_Has.calls xo z false _ (F6.out.trans rfl)).mono ?_) | (with_reducible refine (bits_Set_uint64_Has.calls no z true _ (F7'.out.trans rfl)).mono ?_)); rintro e wn ⟨rfl, hbn⟩; replace ST := Aside0.mk (ST.out.below hbn); replace hc4 := ST.out.c4; replace hc5 := ST.out.c5; clear hbn) | (go_at_call 36; (with_reducible refine (bits_Set_uint64_And.calls a b an _ HAN.out).mono ?_); rintro e wn ⟨rfl, hbn⟩; replace ST := Aside0.mk (ST.out.below hbn); replace hc4 := ST.out.c4; replace hc5 := ST.out.c5; clear hbn) | (go_at_call 37; (with_reducible refine (bits_Set_uint64_Or.calls a b orw _ HOR.out).mono ?_); rintro e wn ⟨rfl, hbn⟩; replace ST := Aside0.mk (ST.out.below hbn); replace hc4 := ST.out.c4; replace hc5 := ST.out.c5; clear hbn) | (go_at_call 38; (with_reducible refine (bits_Set_uint64_Minus.calls a b mi _ HMI.out).mono ?_); rintro e wn ⟨rfl, hbn⟩; replace ST := Aside0.mk (ST.out.below hbn); replace hc4 := ST.out.c4; replace hc5 := ST.out.c5; clear hbn) | (go_at_call 39; (with_reducible refine (bits_Set_uint64_Xor.calls a b xo _ HXO.out).mono ?_); rintro e wn ⟨rfl, hbn⟩; replace ST := Aside0.mk (ST.out.below hbn); replace hc4 := ST.out.c4; replace hc5 := ST.out.c5; clear hbn) | (go_at_call 29; (with_reducible refine (bits_Set_uint64_Not.calls a no _ HNO.out).mono ?_); rintro e wn ⟨rfl, hbn⟩; replace ST := Aside0.mk (ST.out.below hbn); replace hc4 := ST.out.c4; replace hc5 := ST.out.c5; clear hbn))
                go_roundw
                case rel => exact ⟨n + 1, by omega, by rw [HS1.out]; rfl, by rw [HM1.out]; rfl, by rw [← HWZ.out], ST⟩
                case measure => have hq := HZ.out; simp only [RowKit.intOf]; omega)
        · skip
          have d0 : decide (0 ≤ z) = true := decide_eq_true h0
          have d0' : decide (z ≥ 0) = true := d0
          have d6 : decide (z < 64) = false := decide_eq_false h6
          have hPf := hoa (by rw [d0, d6]; rfl); have hQf := hob (by rw [d0, d6]; rfl)
          subst hPf hQf
          have hwz : wrap64 (z + 1) = z + 1 := by unfold wrap64; omega
          have F7' : Aside0 (bits_Set_uint64_Has.f (no : Int) z = some false) := ⟨by have := F7.out; rw [d0, d6] at this; exact this⟩
          clear hoa hob F7 hzr h0 h6
          cases sv <;> cases mv
          all_goals (
            go_wp2_with (first | (go_at_call 23; (first | (with_reducible refine (bits_Set_uint64_Has.calls a z false _ (F1.out.trans rfl)).mono ?_) | (with_reducible refine (bits_Set_uint64_Has.calls b z false _ (F2.out.trans rfl)).mono ?_) | (with_reducible refine (bits_Set_uint64_Has.calls an z false _ (F3.out.trans rfl)).mono ?_) | (with_reducible refine (bits_Set_uint64_Has.calls orw z false _ (F4.out.trans rfl)).mono ?_) | (with_reducible refine (bits_Set_uint64_Has.calls mi z false _ (F5.out.trans rfl)).mono ?_) | (with_reducible refine (bits_Set_uint64_Has.calls xo z false _ (F6.out.trans rfl)).mono ?_) | (with_reducible refine (bits_Set_uint64_Has.calls no z false _ (F7'.out.trans rfl)).mono ?_)); rintro e wn ⟨rfl, hbn⟩; replace ST := Aside0.mk (ST.out.below hbn); replace hc4 := ST.out.c4; replace hc5 := ST.out.c5; clear hbn) | (go_at_call 36; (with_reducible refine (bits_Set_uint64_And.calls a b an _ HAN.out).mono ?_); rintro e wn ⟨rfl, hbn⟩; replace ST := Aside0.mk (ST.out.below hbn); replace hc4 := ST.out.c4; replace hc5 := ST.out.c5; clear hbn) | (go_at_call 37; (with_reducible refine (bits_Set_uint64_Or.calls a b orw _ HOR.out).mono ?_); rintro e wn ⟨rfl, hbn⟩; replace ST := Aside0.mk (ST.out.below hbn); replace hc4 := ST.out.c4; replace hc5 := ST.out.c5; clear hbn) | (go_at_call 38; (with_reducible refine (bits_Set_uint64_Minus.calls a b mi _ HMI.out).mono ?_); rintro e wn ⟨rfl, hbn⟩; replace ST := Aside0.mk (ST.out.below hbn); replace hc4 := ST.out.c4; replace hc5 := ST.out.c5; clear hbn) | (go_at_call 39; (with_reducible refine (bits_Set_uint64_Xor.calls a b xo _ HXO.out).mono ?_); rintro e wn ⟨rfl, hbn⟩; replace ST := Aside0.mk (ST.out.below hbn); replace hc4 := ST.out.c4; replace hc5 := ST.out.c5; clear hbn) | (go_at_call 29; (with_reducible refine (bits_Set_uint64_Not.calls a no _ HNO.out).mono ?_); rintro e wn ⟨rfl, hbn⟩; replace ST := Aside0.mk (ST.out.below hbn); replace hc4 := ST.out.c4; replace hc5 := ST.out.c5; clear hbn))
            go_roundw
            case rel => exact ⟨n + 1, by omega, by rw [HS1.out]; rfl, by rw [HM1.out]; rfl, by rw [← HWZ.out], ST⟩
            case measure => have hq := HZ.out; simp only [RowKit.intOf]; omega)
      · skip
        have d0 : decide (0 ≤ z) = false := decide_eq_false h0
        have d0' : decide (z ≥ 0) = false := d0
        have hPf := hoa (by rw [d0]; rfl); have hQf := hob (by rw [d0]; rfl)
        subst hPf hQf
        have hwz : wrap64 (z + 1) = z + 1 := by unfold wrap64; omega
        have F7' : Aside0 (bits_Set_uint64_Has.f (no : Int) z = some false) := ⟨by have := F7.out; rw [d0] at this; exact this⟩
        clear hoa hob F7 hzr h0
        cases sv <;> cases mv
        all_goals (
          go_wp2_with (first | (go_at_call 23; (first | (with_reducible refine (bits_Set_uint64_Has.calls a z false _ (F1.out.trans rfl)).mono ?_) | (with_reducible refine (bits_Set_uint64_Has.calls b z false _ (F2.out.trans rfl)).mono ?_) | (with_reducible refine (bits_Set_uint64_Has.calls an z false _ (F3.out.trans rfl)).mono ?_) | (with_reducible refine (bits_Set_uint64_Has.calls orw z false _ (F4.out.trans rfl)).mono ?_) | (with_reducible refine (bits_Set_uint64_Has.calls mi z false _ (F5.out.trans rfl)).mono ?_) | (with_reducible refine (bits_Set_uint64_Has.calls xo z false _ (F6.out.trans rfl)).mono ?_) | (with_reducible refine (bits_Set_uint64_Has.calls no z false _ (F7'.out.trans rfl)).mono ?_)); rintro e wn ⟨rfl, hbn⟩; replace ST := Aside0.mk (ST.out.below hbn); replace hc4 := ST.out.c4; replace hc5 := ST.out.c5; clear hbn) | (go_at_call 36; (with_reducible refine (bits_Set_uint64_And.calls a b an _ HAN.out).mono ?_); rintro e wn ⟨rfl, hbn⟩; replace ST := Aside0.mk (ST.out.below hbn); replace hc4 := ST.out.c4; replace hc5 := ST.out.c5; clear hbn) | (go_at_call 37; (with_reducible refine (bits_Set_uint64_Or.calls a b orw _ HOR.out).mono ?_); rintro e wn ⟨rfl, hbn⟩; replace ST := Aside0.mk (ST.out.below hbn); replace hc4 := ST.out.c4; replace hc5 := ST.out.c5; clear hbn) | (go_at_call 38; (with_reducible refine (bits_Set_uint64_Minus.calls a b mi _ HMI.out).mono ?_); rintro e wn ⟨rfl, hbn⟩; replace ST := Aside0.mk (ST.out.below hbn); replace hc4 := ST.out.c4; replace hc5 := ST.out.c5; clear hbn) | (go_at_call 39; (with_reducible refine (bits_Set_uint64_Xor.calls a b xo _ HXO.out).mono ?_); rintro e wn ⟨rfl, hbn⟩; replace ST := Aside0.mk (ST.out.below hbn); replace hc4 := ST.out.c4; replace hc5 := ST.out.c5; clear hbn) | (go_at_call 29; (with_reducible refine (bits_Set_uint64_Not.calls a no _ HNO.out).mono ?_); rintro e wn ⟨rfl, hbn⟩; replace ST := Aside0.mk (ST.out.below hbn); replace hc4 := ST.out.c4; replace hc5 := ST.out.c5; clear hbn))
          go_roundw
          case rel => exact ⟨n + 1, by omega, by rw [HS1.out]; rfl, by rw [HM1.out]; rfl, by rw [← HWZ.out], ST⟩
          case measure => have hq := HZ.out; simp only [RowKit.intOf]; omega)
    · obtain rfl : n = 69 := by omega
      generalize twoSub a b 69 = sv at *
      generalize twoMet a b 69 = mv at *
      have HWa := HW
      have hST := ST.out
      go_wp2
      refine start_ (n := 47) (S := fun w' => TwoSit w g4 g5 a b i k w') (ds := []) #[false, false, false, false, false, false, false, false, false, false, false, false, false, false, false, false, false, false, false, false, false, false, false, false, false, false, false, false, false, false, false, false, false, false, false, false, false, false, false, false, false, false, false, false, false, false, false] (by kernel_rfl) rfl rfl (hST.drew) (fun hHeld => ?_); refine with_tabW provostlaw01_BitsTwo.tab16 provostlaw01_BitsTwo.bits16 (fun HT_ HW_ => ?_)
      refine take_ (i := 0) (N := (some 109)) (v := ?_) (a' := ?_) #[true, false, false, false, false, false, false, false, false, false, false, false, false, false, false, false, false, false, false, false, false, false, false, false, false, false, false, false, false, false, false, false, false, false, false, false, false, false, false, false, false, false, false, false, false, false, false] rfl rfl (take_ofW HT_.out HW_.out (by kernel_rfl)) (fun _ _ _ h => h) (Or.inl ⟨by rfl, ?_⟩) hHeld ?_ ?_
      rotate_left
      · intro w' s0; have q4 := s0.c4; have q5 := s0.c5; have q6 := s0.ca; have q7 := s0.cb
        go_simp
        with_reducible rfl
      rotate_left
      · simp only [Act.put, List.setIfInBounds_toArray, List.set_cons_zero, List.set_cons_succ, i64_w, i32_w]
        rfl
      refine take_ (i := 1) (N := (some 110)) (v := ?_) (a' := ?_) #[true, true, false, false, false, false, false, false, false, false, false, false, false, false, false, false, false, false, false, false, false, false, false, false, false, false, false, false, false, false, false, false, false, false, false, false, false, false, false, false, false, false, false, false, false, false, false] rfl rfl (take_ofW HT_.out HW_.out (by kernel_rfl)) (fun _ _ _ h => h) (Or.inl ⟨by rfl, ?_⟩) hHeld ?_ ?_
      rotate_left
      · intro w' s0; have q4 := s0.c4; have q5 := s0.c5; have q6 := s0.ca; have q7 := s0.cb
        go_simp
        with_reducible rfl
      rotate_left
      · simp only [Act.put, List.setIfInBounds_toArray, List.set_cons_zero, List.set_cons_succ, i64_w, i32_w]
        rfl
      refine pure_ (i := 3) (N := (some 112)) (v := ?_) (a' := ?_) #[true, true, false, true, false, false, false, false, false, false, false, false, false, false, false, false, false, false, false, false, false, false, false, false, false, false, false, false, false, false, false, false, false, false, false, false, false, false, false, false, false, false, false, false, false, false, false] rfl rfl (any_of HT_.out (by kernel_rfl)) (fun _ _ _ h => h) (Or.inl ⟨by rfl, ?_⟩) ?_ ?_
      rotate_left
      · intro w'
        go_simp
        with_reducible rfl
      rotate_left
      · simp only [Act.put, List.setIfInBounds_toArray, List.set_cons_zero, List.set_cons_succ, i64_w, i32_w]
        rfl
      refine one_ (i := 2) (N := (some 111)) #[true, true, true, true, false, false, false, false, false, false, false, false, false, false, false, false, false, false, false, false, false, false, false, false, false, false, false, false, false, false, false, false, false, false, false, false, false, false, false, false, false, false, false, false, false, false, false] rfl rfl (one_of HT_.out (by kernel_rfl)) (by decide) (fun K hK => ?_)
      refine goes_ Tryd.func20 (by kernel_rfl) rfl #[.agg #[.int .u64 a], .agg #[.int .u64 b]] (by rfl) rfl rfl (by (try simp only [List.map_toArray, List.map_cons, List.map_nil]); first | done | rfl) ?_
      (with_reducible refine (bits_Set_uint64_Sub.calls a b sv _ HSV.out).mono ?_)
      rintro e w2 ⟨rfl, hb2⟩
      refine ⟨_, rfl, ?_⟩
      have S2 := TwoSit.below hHeld hb2
      clear hb2
      refine hK.out _ _ (S2) (fun hHeld => ?_)
      clear hK K
      refine norm_ (a' := ?_) ?_ ?_
      rotate_left
      · show Act.put _ (some 111) _ = _
        simp only [Act.put, List.setIfInBounds_toArray, List.set_cons_zero, List.set_cons_succ, i64_w, i32_w]
        rfl
      refine pure_ (i := 4) (N := (some 113)) (v := ?_) (a' := ?_) #[true, true, true, true, true, false, false, false, false, false, false, false, false, false, false, false, false, false, false, false, false, false, false, false, false, false, false, false, false, false, false, false, false, false, false, false, false, false, false, false, false, false, false, false, false, false, false] rfl rfl (any_of HT_.out (by kernel_rfl)) (fun _ _ _ h => h) (Or.inl ⟨by rfl, ?_⟩) ?_ ?_
      rotate_left
      · intro w'
        go_simp
        with_reducible rfl
      rotate_left
      · simp only [Act.put, List.setIfInBounds_toArray, List.set_cons_zero, List.set_cons_succ, i64_w, i32_w]
        rfl
      refine pure_ (i := 5) (N := (some 114)) (v := ?_) (a' := ?_) #[true, true, true, true, true, true, false, false, false, false, false, false, false, false, false, false, false, false, false, false, false, false, false, false, false, false, false, false, false, false, false, false, false, false, false, false, false, false, false, false, false, false, false, false, false, false, false] rfl rfl (any_of HT_.out (by kernel_rfl)) (fun _ _ _ h => h) (Or.inl ⟨by rfl, ?_⟩) ?_ ?_
      rotate_left
      · intro w'
        go_simp
        with_reducible rfl
      rotate_left
      · simp only [Act.put, List.setIfInBounds_toArray, List.set_cons_zero, List.set_cons_succ, i64_w, i32_w]
        rfl
      refine take_ (i := 6) (N := (some 115)) (v := ?_) (a' := ?_) #[true, true, true, true, true, true, true, false, false, false, false, false, false, false, false, false, false, false, false, false, false, false, false, false, false, false, false, false, false, false, false, false, false, false, false, false, false, false, false, false, false, false, false, false, false, false, false] rfl rfl (take_ofW HT_.out HW_.out (by kernel_rfl)) (fun _ _ _ h => h) (Or.inl ⟨by rfl, ?_⟩) hHeld ?_ ?_
      rotate_left
      · intro w' s0; have q4 := s0.c4; have q5 := s0.c5; have q6 := s0.ca; have q7 := s0.cb
        go_simp
        with_reducible rfl
      rotate_left
      · simp only [Act.put, List.setIfInBounds_toArray, List.set_cons_zero, List.set_cons_succ, i64_w, i32_w]
        rfl
      refine take_ (i := 7) (N := (some 116)) (v := ?_) (a' := ?_) #[true, true, true, true, true, true, true, true, false, false, false, false, false, false, false, false, false, false, false, false, false, false, false, false, false, false, false, false, false, false, false, false, false, false, false, false, false, false, false, false, false, false, false, false, false, false, false] rfl rfl (take_ofW HT_.out HW_.out (by kernel_rfl)) (fun _ _ _ h => h) (Or.inl ⟨by rfl, ?_⟩) hHeld ?_ ?_
      rotate_left
      · intro w' s0; have q4 := s0.c4; have q5 := s0.c5; have q6 := s0.ca; have q7 := s0.cb
        go_simp
        with_reducible rfl
      rotate_left
      · simp only [Act.put, List.setIfInBounds_toArray, List.set_cons_zero, List.set_cons_succ, i64_w, i32_w]
        rfl
      refine pure_ (i := 9) (N := (some 118)) (v := ?_) (a' := ?_) #[true, true, true, true, true, true, true, true, false, true, false, false, false, false, false, false, false, false, false, false, false, false, false, false, false, false, false, false, false, false, false, false, false, false, false, false, false, false, false, false, false, false, false, false, false, false, false] rfl rfl (any_of HT_.out (by kernel_rfl)) (fun _ _ _ h => h) (Or.inl ⟨by rfl, ?_⟩) ?_ ?_
      rotate_left
      · intro w'
        go_simp
        with_reducible rfl
      rotate_left
      · simp only [Act.put, List.setIfInBounds_toArray, List.set_cons_zero, List.set_cons_succ, i64_w, i32_w]
        rfl
      refine one_ (i := 8) (N := (some 117)) #[true, true, true, true, true, true, true, true, true, true, false, false, false, false, false, false, false, false, false, false, false, false, false, false, false, false, false, false, false, false, false, false, false, false, false, false, false, false, false, false, false, false, false, false, false, false, false] rfl rfl (one_of HT_.out (by kernel_rfl)) (by decide) (fun K hK => ?_)
      refine goes_ Tryd.func40 (by kernel_rfl) rfl #[.agg #[.int .u64 a], .agg #[.int .u64 b]] (by rfl) rfl rfl (by (try simp only [List.map_toArray, List.map_cons, List.map_nil]); first | done | rfl) ?_
      (with_reducible refine (bits_Set_uint64_Meets.calls a b mv _ HMV.out).mono ?_)
      rintro e w2 ⟨rfl, hb2⟩
      refine ⟨_, rfl, ?_⟩
      have S2 := TwoSit.below hHeld hb2
      clear hb2
      refine hK.out _ _ (S2) (fun hHeld => ?_)
      clear hK K
      refine norm_ (a' := ?_) ?_ ?_
      rotate_left
      · show Act.put _ (some 117) _ = _
        simp only [Act.put, List.setIfInBounds_toArray, List.set_cons_zero, List.set_cons_succ, i64_w, i32_w]
        rfl
      refine pure_ (i := 10) (N := (some 119)) (v := ?_) (a' := ?_) #[true, true, true, true, true, true, true, true, true, true, true, false, false, false, false, false, false, false, false, false, false, false, false, false, false, false, false, false, false, false, false, false, false, false, false, false, false, false, false, false, false, false, false, false, false, false, false] rfl rfl (any_of HT_.out (by kernel_rfl)) (fun _ _ _ h => h) (Or.inl ⟨by rfl, ?_⟩) ?_ ?_
      rotate_left
      · intro w'
        go_simp
        with_reducible rfl
      rotate_left
      · simp only [Act.put, List.setIfInBounds_toArray, List.set_cons_zero, List.set_cons_succ, i64_w, i32_w]
        rfl
      refine pure_ (i := 11) (N := (some 120)) (v := ?_) (a' := ?_) #[true, true, true, true, true, true, true, true, true, true, true, true, false, false, false, false, false, false, false, false, false, false, false, false, false, false, false, false, false, false, false, false, false, false, false, false, false, false, false, false, false, false, false, false, false, false, false] rfl rfl (any_of HT_.out (by kernel_rfl)) (fun _ _ _ h => h) (Or.inl ⟨by rfl, ?_⟩) ?_ ?_
      rotate_left
      · intro w'
        go_simp
        with_reducible rfl
      rotate_left
      · simp only [Act.put, List.setIfInBounds_toArray, List.set_cons_zero, List.set_cons_succ, i64_w, i32_w]
        rfl
      refine pure_ (i := 12) (N := (some 121)) (v := ?_) (a' := ?_) #[true, true, true, true, true, true, true, true, true, true, true, true, true, false, false, false, false, false, false, false, false, false, false, false, false, false, false, false, false, false, false, false, false, false, false, false, false, false, false, false, false, false, false, false, false, false, false] rfl rfl (any_of HT_.out (by kernel_rfl)) (fun _ _ _ h => h) (Or.inl ⟨by rfl, ?_⟩) ?_ ?_
      rotate_left
      · intro w'
        go_simp
        with_reducible rfl
      rotate_left
      · simp only [Act.put, List.setIfInBounds_toArray, List.set_cons_zero, List.set_cons_succ, i64_w, i32_w]
        rfl
      refine take_ (i := 13) (N := (some 122)) (v := ?_) (a' := ?_) #[true, true, true, true, true, true, true, true, true, true, true, true, true, true, false, false, false, false, false, false, false, false, false, false, false, false, false, false, false, false, false, false, false, false, false, false, false, false, false, false, false, false, false, false, false, false, false] rfl rfl (take_ofW HT_.out HW_.out (by kernel_rfl)) (fun _ _ _ h => h) (Or.inl ⟨by rfl, ?_⟩) hHeld ?_ ?_
      rotate_left
      · intro w' s0; have q4 := s0.c4; have q5 := s0.c5; have q6 := s0.ca; have q7 := s0.cb
        go_simp
        with_reducible rfl
      rotate_left
      · simp only [Act.put, List.setIfInBounds_toArray, List.set_cons_zero, List.set_cons_succ, i64_w, i32_w]
        rfl
      refine take_ (i := 14) (N := (some 123)) (v := ?_) (a' := ?_) #[true, true, true, true, true, true, true, true, true, true, true, true, true, true, true, false, false, false, false, false, false, false, false, false, false, false, false, false, false, false, false, false, false, false, false, false, false, false, false, false, false, false, false, false, false, false, false] rfl rfl (take_ofW HT_.out HW_.out (by kernel_rfl)) (fun _ _ _ h => h) (Or.inl ⟨by rfl, ?_⟩) hHeld ?_ ?_
      rotate_left
      · intro w' s0; have q4 := s0.c4; have q5 := s0.c5; have q6 := s0.ca; have q7 := s0.cb
        go_simp
        with_reducible rfl
      rotate_left
      · simp only [Act.put, List.setIfInBounds_toArray, List.set_cons_zero, List.set_cons_succ, i64_w, i32_w]
        rfl
      refine pure_ (i := 16) (N := (some 125)) (v := ?_) (a' := ?_) #[true, true, true, true, true, true, true, true, true, true, true, true, true, true, true, false, true, false, false, false, false, false, false, false, false, false, false, false, false, false, false, false, false, false, false, false, false, false, false, false, false, false, false, false, false, false, false] rfl rfl (any_of HT_.out (by kernel_rfl)) (fun _ _ _ h => h) (Or.inl ⟨by rfl, ?_⟩) ?_ ?_
      rotate_left
      · intro w'
        go_simp
        with_reducible rfl
      rotate_left
      · simp only [Act.put, List.setIfInBounds_toArray, List.set_cons_zero, List.set_cons_succ, i64_w, i32_w]
        rfl
      refine take_ (i := 17) (N := (some 126)) (v := ?_) (a' := ?_) #[true, true, true, true, true, true, true, true, true, true, true, true, true, true, true, false, true, true, false, false, false, false, false, false, false, false, false, false, false, false, false, false, false, false, false, false, false, false, false, false, false, false, false, false, false, false, false] rfl rfl (take_ofW HT_.out HW_.out (by kernel_rfl)) (fun _ _ _ h => h) (Or.inl ⟨by rfl, ?_⟩) hHeld ?_ ?_
      rotate_left
      · intro w' s0; have q4 := s0.c4; have q5 := s0.c5; have q6 := s0.ca; have q7 := s0.cb
        go_simp
        with_reducible rfl
      rotate_left
      · simp only [Act.put, List.setIfInBounds_toArray, List.set_cons_zero, List.set_cons_succ, i64_w, i32_w]
        rfl
      refine pure_ (i := 18) (N := (some 127)) (v := ?_) (a' := ?_) #[true, true, true, true, true, true, true, true, true, true, true, true, true, true, true, false, true, true, true, false, false, false, false, false, false, false, false, false, false, false, false, false, false, false, false, false, false, false, false, false, false, false, false, false, false, false, false] rfl rfl (any_of HT_.out (by kernel_rfl)) (fun _ _ _ h => h) (Or.inl ⟨by rfl, ?_⟩) ?_ ?_
      rotate_left
      · intro w'
        go_simp
        with_reducible rfl
      rotate_left
      · simp only [Act.put, List.setIfInBounds_toArray, List.set_cons_zero, List.set_cons_succ, i64_w, i32_w]
        rfl
      refine take_ (i := 19) (N := (some 128)) (v := ?_) (a' := ?_) #[true, true, true, true, true, true, true, true, true, true, true, true, true, true, true, false, true, true, true, true, false, false, false, false, false, false, false, false, false, false, false, false, false, false, false, false, false, false, false, false, false, false, false, false, false, false, false] rfl rfl (take_ofW HT_.out HW_.out (by kernel_rfl)) (fun _ _ _ h => h) (Or.inl ⟨by rfl, ?_⟩) hHeld ?_ ?_
      rotate_left
      · intro w' s0; have q4 := s0.c4; have q5 := s0.c5; have q6 := s0.ca; have q7 := s0.cb
        go_simp
        with_reducible rfl
      rotate_left
      · simp only [Act.put, List.setIfInBounds_toArray, List.set_cons_zero, List.set_cons_succ, i64_w, i32_w]
        rfl
      refine one_ (i := 15) (N := (some 124)) #[true, true, true, true, true, true, true, true, true, true, true, true, true, true, true, true, true, true, true, true, false, false, false, false, false, false, false, false, false, false, false, false, false, false, false, false, false, false, false, false, false, false, false, false, false, false, false] rfl rfl (one_of HT_.out (by kernel_rfl)) (by decide) (fun K hK => ?_)
      refine goes_ Tryd.func41 (by kernel_rfl) rfl #[.agg #[.int .u64 a], .agg #[.int .u64 b]] (by rfl) rfl rfl (by (try simp only [List.map_toArray, List.map_cons, List.map_nil]); first | done | rfl) ?_
      (with_reducible refine (bits_Set_uint64_Cmp.calls a b cv _ HCV.out).mono ?_)
      rintro e w2 ⟨rfl, hb2⟩
      refine ⟨_, rfl, ?_⟩
      have S2 := TwoSit.below hHeld hb2
      clear hb2
      refine hK.out _ _ (S2) (fun hHeld => ?_)
      clear hK K
      refine norm_ (a' := ?_) ?_ ?_
      rotate_left
      · show Act.put _ (some 124) _ = _
        simp only [Act.put, List.setIfInBounds_toArray, List.set_cons_zero, List.set_cons_succ, i64_w, i32_w]
        rfl
      refine one_ (i := 20) (N := (some 129)) #[true, true, true, true, true, true, true, true, true, true, true, true, true, true, true, true, true, true, true, true, true, false, false, false, false, false, false, false, false, false, false, false, false, false, false, false, false, false, false, false, false, false, false, false, false, false, false] rfl rfl (one_of HT_.out (by kernel_rfl)) (by decide) (fun K hK => ?_)
      refine goes_ Tryd.func42 (by kernel_rfl) rfl #[.int .u64 a, .int .u64 b] (by rfl) rfl rfl (by (try simp only [List.map_toArray, List.map_cons, List.map_nil]); first | done | rfl) ?_
      (with_reducible refine (provostref01_Cmp.calls a b cv _ HRV.out).mono ?_)
      rintro e w2 ⟨rfl, ⟨⟨nd, rfl⟩⟩⟩
      refine ⟨_, rfl, ?_⟩
      have S2 := TwoSit.drewN hHeld nd
      refine hK.out _ _ (S2) (fun hHeld => ?_)
      clear hK K
      refine norm_ (a' := ?_) ?_ ?_
      rotate_left
      · show Act.put _ (some 129) _ = _
        simp only [Act.put, List.setIfInBounds_toArray, List.set_cons_zero, List.set_cons_succ, i64_w, i32_w]
        rfl
      refine pure_ (i := 21) (N := (some 130)) (v := ?_) (a' := ?_) #[true, true, true, true, true, true, true, true, true, true, true, true, true, true, true, true, true, true, true, true, true, true, false, false, false, false, false, false, false, false, false, false, false, false, false, false, false, false, false, false, false, false, false, false, false, false, false] rfl rfl (any_of HT_.out (by kernel_rfl)) (fun _ _ _ h => h) (Or.inl ⟨by rfl, ?_⟩) ?_ ?_
      rotate_left
      · intro w'
        go_simp
        with_reducible rfl
      rotate_left
      · simp only [Act.put, List.setIfInBounds_toArray, List.set_cons_zero, List.set_cons_succ, i64_w, i32_w]
        rfl
      refine pure_ (i := 22) (N := (some 131)) (v := ?_) (a' := ?_) #[true, true, true, true, true, true, true, true, true, true, true, true, true, true, true, true, true, true, true, true, true, true, true, false, false, false, false, false, false, false, false, false, false, false, false, false, false, false, false, false, false, false, false, false, false, false, false] rfl rfl (any_of HT_.out (by kernel_rfl)) (fun _ _ _ h => h) (Or.inl ⟨by rfl, ?_⟩) ?_ ?_
      rotate_left
      · intro w'
        go_simp
        with_reducible rfl
      rotate_left
      · simp only [Act.put, List.setIfInBounds_toArray, List.set_cons_zero, List.set_cons_succ, i64_w, i32_w]
        rfl
      refine pure_ (i := 23) (N := (some 132)) (v := ?_) (a' := ?_) #[true, true, true, true, true, true, true, true, true, true, true, true, true, true, true, true, true, true, true, true, true, true, true, true, false, false, false, false, false, false, false, false, false, false, false, false, false, false, false, false, false, false, false, false, false, false, false] rfl rfl (any_of HT_.out (by kernel_rfl)) (fun _ _ _ h => h) (Or.inl ⟨by rfl, ?_⟩) ?_ ?_
      rotate_left
      · intro w'
        go_simp
        with_reducible rfl
      rotate_left
      · simp only [Act.put, List.setIfInBounds_toArray, List.set_cons_zero, List.set_cons_succ, i64_w, i32_w]
        rfl
      refine take_ (i := 24) (N := (some 133)) (v := ?_) (a' := ?_) #[true, true, true, true, true, true, true, true, true, true, true, true, true, true, true, true, true, true, true, true, true, true, true, true, true, false, false, false, false, false, false, false, false, false, false, false, false, false, false, false, false, false, false, false, false, false, false] rfl rfl (take_ofW HT_.out HW_.out (by kernel_rfl)) (fun _ _ _ h => h) (Or.inl ⟨by rfl, ?_⟩) hHeld ?_ ?_
      rotate_left
      · intro w' s0; have q4 := s0.c4; have q5 := s0.c5; have q6 := s0.ca; have q7 := s0.cb
        go_simp
        with_reducible rfl
      rotate_left
      · simp only [Act.put, List.setIfInBounds_toArray, List.set_cons_zero, List.set_cons_succ, i64_w, i32_w]
        rfl
      refine take_ (i := 25) (N := (some 134)) (v := ?_) (a' := ?_) #[true, true, true, true, true, true, true, true, true, true, true, true, true, true, true, true, true, true, true, true, true, true, true, true, true, true, false, false, false, false, false, false, false, false, false, false, false, false, false, false, false, false, false, false, false, false, false] rfl rfl (take_ofW HT_.out HW_.out (by kernel_rfl)) (fun _ _ _ h => h) (Or.inl ⟨by rfl, ?_⟩) hHeld ?_ ?_
      rotate_left
      · intro w' s0; have q4 := s0.c4; have q5 := s0.c5; have q6 := s0.ca; have q7 := s0.cb
        go_simp
        with_reducible rfl
      rotate_left
      · simp only [Act.put, List.setIfInBounds_toArray, List.set_cons_zero, List.set_cons_succ, i64_w, i32_w]
        rfl
      refine one_ (i := 26) (N := (some 135)) #[true, true, true, true, true, true, true, true, true, true, true, true, true, true, true, true, true, true, true, true, true, true, true, true, true, true, true, false, false, false, false, false, false, false, false, false, false, false, false, false, false, false, false, false, false, false, false] rfl rfl (one_of HT_.out (by kernel_rfl)) (by decide) (fun K hK => ?_)
      refine goes_ Tryd.func41 (by kernel_rfl) rfl #[.agg #[.int .u64 a], .agg #[.int .u64 a]] (by rfl) rfl rfl (by (try simp only [List.map_toArray, List.map_cons, List.map_nil]); first | done | rfl) ?_
      (with_reducible refine (bits_Set_uint64_Cmp.calls a a 0 _ HCS.out).mono ?_)
      rintro e w2 ⟨rfl, hb2⟩
      refine ⟨_, rfl, ?_⟩
      have S2 := TwoSit.below hHeld hb2
      clear hb2
      refine hK.out _ _ (S2) (fun hHeld => ?_)
      clear hK K
      refine norm_ (a' := ?_) ?_ ?_
      rotate_left
      · show Act.put _ (some 135) _ = _
        simp only [Act.put, List.setIfInBounds_toArray, List.set_cons_zero, List.set_cons_succ, i64_w, i32_w]
        rfl
      refine pure_ (i := 27) (N := (some 136)) (v := ?_) (a' := ?_) #[true, true, true, true, true, true, true, true, true, true, true, true, true, true, true, true, true, true, true, true, true, true, true, true, true, true, true, true, false, false, false, false, false, false, false, false, false, false, false, false, false, false, false, false, false, false, false] rfl rfl (any_of HT_.out (by kernel_rfl)) (fun _ _ _ h => h) (Or.inl ⟨by rfl, ?_⟩) ?_ ?_
      rotate_left
      · intro w'
        go_simp
        with_reducible rfl
      rotate_left
      · simp only [Act.put, List.setIfInBounds_toArray, List.set_cons_zero, List.set_cons_succ, i64_w, i32_w]
        rfl
      refine pure_ (i := 28) (N := (some 137)) (v := ?_) (a' := ?_) #[true, true, true, true, true, true, true, true, true, true, true, true, true, true, true, true, true, true, true, true, true, true, true, true, true, true, true, true, true, false, false, false, false, false, false, false, false, false, false, false, false, false, false, false, false, false, false] rfl rfl (any_of HT_.out (by kernel_rfl)) (fun _ _ _ h => h) (Or.inl ⟨by rfl, ?_⟩) ?_ ?_
      rotate_left
      · intro w'
        go_simp
        with_reducible rfl
      rotate_left
      · simp only [Act.put, List.setIfInBounds_toArray, List.set_cons_zero, List.set_cons_succ, i64_w, i32_w]
        rfl
      refine pure_ (i := 29) (N := (some 138)) (v := ?_) (a' := ?_) #[true, true, true, true, true, true, true, true, true, true, true, true, true, true, true, true, true, true, true, true, true, true, true, true, true, true, true, true, true, true, false, false, false, false, false, false, false, false, false, false, false, false, false, false, false, false, false] rfl rfl (any_of HT_.out (by kernel_rfl)) (fun _ _ _ h => h) (Or.inl ⟨by rfl, ?_⟩) ?_ ?_
      rotate_left
      · intro w'
        go_simp
        with_reducible rfl
      rotate_left
      · simp only [Act.put, List.setIfInBounds_toArray, List.set_cons_zero, List.set_cons_succ, i64_w, i32_w]
        rfl
      refine take_ (i := 30) (N := (some 139)) (v := ?_) (a' := ?_) #[true, true, true, true, true, true, true, true, true, true, true, true, true, true, true, true, true, true, true, true, true, true, true, true, true, true, true, true, true, true, true, false, false, false, false, false, false, false, false, false, false, false, false, false, false, false, false] rfl rfl (take_ofW HT_.out HW_.out (by kernel_rfl)) (fun _ _ _ h => h) (Or.inl ⟨by rfl, ?_⟩) hHeld ?_ ?_
      rotate_left
      · intro w' s0; have q4 := s0.c4; have q5 := s0.c5; have q6 := s0.ca; have q7 := s0.cb
        go_simp
        with_reducible rfl
      rotate_left
      · simp only [Act.put, List.setIfInBounds_toArray, List.set_cons_zero, List.set_cons_succ, i64_w, i32_w]
        rfl
      refine pure_ (i := 32) (N := (some 141)) (v := ?_) (a' := ?_) #[true, true, true, true, true, true, true, true, true, true, true, true, true, true, true, true, true, true, true, true, true, true, true, true, true, true, true, true, true, true, true, false, true, false, false, false, false, false, false, false, false, false, false, false, false, false, false] rfl rfl (any_of HT_.out (by kernel_rfl)) (fun _ _ _ h => h) (Or.inl ⟨by rfl, ?_⟩) ?_ ?_
      rotate_left
      · intro w'
        go_simp
        with_reducible rfl
      rotate_left
      · simp only [Act.put, List.setIfInBounds_toArray, List.set_cons_zero, List.set_cons_succ, i64_w, i32_w]
        rfl
      refine take_ (i := 33) (N := (some 142)) (v := ?_) (a' := ?_) #[true, true, true, true, true, true, true, true, true, true, true, true, true, true, true, true, true, true, true, true, true, true, true, true, true, true, true, true, true, true, true, false, true, true, false, false, false, false, false, false, false, false, false, false, false, false, false] rfl rfl (take_ofW HT_.out HW_.out (by kernel_rfl)) (fun _ _ _ h => h) (Or.inl ⟨by rfl, ?_⟩) hHeld ?_ ?_
      rotate_left
      · intro w' s0; have q4 := s0.c4; have q5 := s0.c5; have q6 := s0.ca; have q7 := s0.cb
        go_simp
        with_reducible rfl
      rotate_left
      · simp only [Act.put, List.setIfInBounds_toArray, List.set_cons_zero, List.set_cons_succ, i64_w, i32_w]
        rfl
      refine one_ (i := 31) (N := (some 140)) #[true, true, true, true, true, true, true, true, true, true, true, true, true, true, true, true, true, true, true, true, true, true, true, true, true, true, true, true, true, true, true, true, true, true, false, false, false, false, false, false, false, false, false, false, false, false, false] rfl rfl (one_of HT_.out (by kernel_rfl)) (by decide) (fun K hK => ?_)
      refine goes_ Tryd.func21 (by kernel_rfl) rfl #[.agg #[.int .u64 a]] (by rfl) rfl rfl (by (try simp only [List.map_toArray, List.map_cons, List.map_nil]); first | done | rfl) ?_
      (with_reducible refine (bits_Set_uint64_Word.calls a a _ HWDA.out).mono ?_)
      rintro e w2 ⟨rfl, hb2⟩
      refine ⟨_, rfl, ?_⟩
      have S2 := TwoSit.below hHeld hb2
      clear hb2
      refine hK.out _ _ (S2) (fun hHeld => ?_)
      clear hK K
      refine norm_ (a' := ?_) ?_ ?_
      rotate_left
      · show Act.put _ (some 140) _ = _
        simp only [Act.put, List.setIfInBounds_toArray, List.set_cons_zero, List.set_cons_succ, i64_w, i32_w]
        rfl
      refine pure_ (i := 34) (N := (some 143)) (v := ?_) (a' := ?_) #[true, true, true, true, true, true, true, true, true, true, true, true, true, true, true, true, true, true, true, true, true, true, true, true, true, true, true, true, true, true, true, true, true, true, true, false, false, false, false, false, false, false, false, false, false, false, false] rfl rfl (any_of HT_.out (by kernel_rfl)) (fun _ _ _ h => h) (Or.inl ⟨by rfl, ?_⟩) ?_ ?_
      rotate_left
      · intro w'
        go_simp
        with_reducible rfl
      rotate_left
      · simp only [Act.put, List.setIfInBounds_toArray, List.set_cons_zero, List.set_cons_succ, i64_w, i32_w]
        rfl
      refine pure_ (i := 35) (N := (some 144)) (v := ?_) (a' := ?_) #[true, true, true, true, true, true, true, true, true, true, true, true, true, true, true, true, true, true, true, true, true, true, true, true, true, true, true, true, true, true, true, true, true, true, true, true, false, false, false, false, false, false, false, false, false, false, false] rfl rfl (any_of HT_.out (by kernel_rfl)) (fun _ _ _ h => h) (Or.inl ⟨by rfl, ?_⟩) ?_ ?_
      rotate_left
      · intro w'
        go_simp
        with_reducible rfl
      rotate_left
      · simp only [Act.put, List.setIfInBounds_toArray, List.set_cons_zero, List.set_cons_succ, i64_w, i32_w]
        rfl
      refine pure_ (i := 36) (N := (some 145)) (v := ?_) (a' := ?_) #[true, true, true, true, true, true, true, true, true, true, true, true, true, true, true, true, true, true, true, true, true, true, true, true, true, true, true, true, true, true, true, true, true, true, true, true, true, false, false, false, false, false, false, false, false, false, false] rfl rfl (any_of HT_.out (by kernel_rfl)) (fun _ _ _ h => h) (Or.inl ⟨by rfl, ?_⟩) ?_ ?_
      rotate_left
      · intro w'
        go_simp
        with_reducible rfl
      rotate_left
      · simp only [Act.put, List.setIfInBounds_toArray, List.set_cons_zero, List.set_cons_succ, i64_w, i32_w]
        rfl
      refine take_ (i := 37) (N := (some 146)) (v := ?_) (a' := ?_) #[true, true, true, true, true, true, true, true, true, true, true, true, true, true, true, true, true, true, true, true, true, true, true, true, true, true, true, true, true, true, true, true, true, true, true, true, true, true, false, false, false, false, false, false, false, false, false] rfl rfl (take_ofW HT_.out HW_.out (by kernel_rfl)) (fun _ _ _ h => h) (Or.inl ⟨by rfl, ?_⟩) hHeld ?_ ?_
      rotate_left
      · intro w' s0; have q4 := s0.c4; have q5 := s0.c5; have q6 := s0.ca; have q7 := s0.cb
        go_simp
        with_reducible rfl
      rotate_left
      · simp only [Act.put, List.setIfInBounds_toArray, List.set_cons_zero, List.set_cons_succ, i64_w, i32_w]
        rfl
      refine pure_ (i := 39) (N := (some 148)) (v := ?_) (a' := ?_) #[true, true, true, true, true, true, true, true, true, true, true, true, true, true, true, true, true, true, true, true, true, true, true, true, true, true, true, true, true, true, true, true, true, true, true, true, true, true, false, true, false, false, false, false, false, false, false] rfl rfl (any_of HT_.out (by kernel_rfl)) (fun _ _ _ h => h) (Or.inl ⟨by rfl, ?_⟩) ?_ ?_
      rotate_left
      · intro w'
        go_simp
        with_reducible rfl
      rotate_left
      · simp only [Act.put, List.setIfInBounds_toArray, List.set_cons_zero, List.set_cons_succ, i64_w, i32_w]
        rfl
      refine take_ (i := 40) (N := (some 149)) (v := ?_) (a' := ?_) #[true, true, true, true, true, true, true, true, true, true, true, true, true, true, true, true, true, true, true, true, true, true, true, true, true, true, true, true, true, true, true, true, true, true, true, true, true, true, false, true, true, false, false, false, false, false, false] rfl rfl (take_ofW HT_.out HW_.out (by kernel_rfl)) (fun _ _ _ h => h) (Or.inl ⟨by rfl, ?_⟩) hHeld ?_ ?_
      rotate_left
      · intro w' s0; have q4 := s0.c4; have q5 := s0.c5; have q6 := s0.ca; have q7 := s0.cb
        go_simp
        with_reducible rfl
      rotate_left
      · simp only [Act.put, List.setIfInBounds_toArray, List.set_cons_zero, List.set_cons_succ, i64_w, i32_w]
        rfl
      refine one_ (i := 38) (N := (some 147)) #[true, true, true, true, true, true, true, true, true, true, true, true, true, true, true, true, true, true, true, true, true, true, true, true, true, true, true, true, true, true, true, true, true, true, true, true, true, true, true, true, true, false, false, false, false, false, false] rfl rfl (one_of HT_.out (by kernel_rfl)) (by decide) (fun K hK => ?_)
      refine goes_ Tryd.func21 (by kernel_rfl) rfl #[.agg #[.int .u64 b]] (by rfl) rfl rfl (by (try simp only [List.map_toArray, List.map_cons, List.map_nil]); first | done | rfl) ?_
      (with_reducible refine (bits_Set_uint64_Word.calls b b _ HWDB.out).mono ?_)
      rintro e w2 ⟨rfl, hb2⟩
      refine ⟨_, rfl, ?_⟩
      have S2 := TwoSit.below hHeld hb2
      clear hb2
      refine hK.out _ _ (S2) (fun hHeld => ?_)
      clear hK K
      refine norm_ (a' := ?_) ?_ ?_
      rotate_left
      · show Act.put _ (some 147) _ = _
        simp only [Act.put, List.setIfInBounds_toArray, List.set_cons_zero, List.set_cons_succ, i64_w, i32_w]
        rfl
      refine pure_ (i := 41) (N := (some 150)) (v := ?_) (a' := ?_) #[true, true, true, true, true, true, true, true, true, true, true, true, true, true, true, true, true, true, true, true, true, true, true, true, true, true, true, true, true, true, true, true, true, true, true, true, true, true, true, true, true, true, false, false, false, false, false] rfl rfl (any_of HT_.out (by kernel_rfl)) (fun _ _ _ h => h) (Or.inl ⟨by rfl, ?_⟩) ?_ ?_
      rotate_left
      · intro w'
        go_simp
        with_reducible rfl
      rotate_left
      · simp only [Act.put, List.setIfInBounds_toArray, List.set_cons_zero, List.set_cons_succ, i64_w, i32_w]
        rfl
      refine pure_ (i := 42) (N := (some 151)) (v := ?_) (a' := ?_) #[true, true, true, true, true, true, true, true, true, true, true, true, true, true, true, true, true, true, true, true, true, true, true, true, true, true, true, true, true, true, true, true, true, true, true, true, true, true, true, true, true, true, true, false, false, false, false] rfl rfl (any_of HT_.out (by kernel_rfl)) (fun _ _ _ h => h) (Or.inl ⟨by rfl, ?_⟩) ?_ ?_
      rotate_left
      · intro w'
        go_simp
        with_reducible rfl
      rotate_left
      · simp only [Act.put, List.setIfInBounds_toArray, List.set_cons_zero, List.set_cons_succ, i64_w, i32_w]
        rfl
      refine pure_ (i := 43) (N := (some 152)) (v := ?_) (a' := ?_) #[true, true, true, true, true, true, true, true, true, true, true, true, true, true, true, true, true, true, true, true, true, true, true, true, true, true, true, true, true, true, true, true, true, true, true, true, true, true, true, true, true, true, true, true, false, false, false] rfl rfl (any_of HT_.out (by kernel_rfl)) (fun _ _ _ h => h) (Or.inl ⟨by rfl, ?_⟩) ?_ ?_
      rotate_left
      · intro w'
        go_simp
        with_reducible rfl
      rotate_left
      · simp only [Act.put, List.setIfInBounds_toArray, List.set_cons_zero, List.set_cons_succ, i64_w, i32_w]
        rfl
      refine one_ (i := 44) (N := (some 153)) #[true, true, true, true, true, true, true, true, true, true, true, true, true, true, true, true, true, true, true, true, true, true, true, true, true, true, true, true, true, true, true, true, true, true, true, true, true, true, true, true, true, true, true, true, true, false, false] rfl rfl (one_of HT_.out (by kernel_rfl)) (by decide) (fun K hK => ?_)
      refine goes_ Tryd.func14 (by kernel_rfl) rfl #[] (by rfl) rfl rfl (by (try simp only [List.map_toArray, List.map_cons, List.map_nil]); first | done | rfl) ?_
      (with_reducible refine (provostlaw01_wakes.calls true _ HW.out ⟨TwoSit.tab hHeld⟩).mono ?_)
      rintro e w2 ⟨rfl, hb2⟩
      refine ⟨_, rfl, ?_⟩
      have S2 := TwoSit.below hHeld hb2
      clear hb2
      refine hK.out _ _ (S2) (fun hHeld => ?_)
      clear hK K
      refine norm_ (a' := ?_) ?_ ?_
      rotate_left
      · show Act.put _ (some 153) _ = _
        simp only [Act.put, List.setIfInBounds_toArray, List.set_cons_zero, List.set_cons_succ, i64_w, i32_w]
        rfl
      refine pure_ (i := 45) (N := (some 154)) (v := ?_) (a' := ?_) #[true, true, true, true, true, true, true, true, true, true, true, true, true, true, true, true, true, true, true, true, true, true, true, true, true, true, true, true, true, true, true, true, true, true, true, true, true, true, true, true, true, true, true, true, true, true, false] rfl rfl (any_of HT_.out (by kernel_rfl)) (fun _ _ _ h => h) (Or.inl ⟨by rfl, ?_⟩) ?_ ?_
      rotate_left
      · intro w'
        go_simp
        with_reducible rfl
      rotate_left
      · simp only [Act.put, List.setIfInBounds_toArray, List.set_cons_zero, List.set_cons_succ, i64_w, i32_w]
        rfl
      refine pure_ (i := 46) (N := (some 2)) (v := ?_) (a' := ?_) #[true, true, true, true, true, true, true, true, true, true, true, true, true, true, true, true, true, true, true, true, true, true, true, true, true, true, true, true, true, true, true, true, true, true, true, true, true, true, true, true, true, true, true, true, true, true, true] rfl rfl (any_of HT_.out (by kernel_rfl)) (fun _ _ _ h => h) (Or.inl ⟨by rfl, ?_⟩) ?_ ?_
      rotate_left
      · intro w'
        go_simp
        with_reducible rfl
      rotate_left
      · simp only [Act.put, List.setIfInBounds_toArray, List.set_cons_zero, List.set_cons_succ, i64_w, i32_w]
        rfl
      refine done_ (done_of HT_.out (by kernel_rfl)) ?_
      go_wp2
      go_ret
      exact ⟨rfl, hHeld.2.2.2.2⟩
end


end Go.Proofs.YtfgmapnanaahaaaDoor.PBtw
