/- BitsOne: what a set of each width tells of itself and of any two numbers. -/
import Derived.Test.YtfgmapnanaahaaaGreatDoorPBonx9
import Derived.Test.YtfgmapnanaahaaaGreatDoorPureOneRef
namespace Go.Proofs.YtfgmapnanaahaaaGreatDoor.Pure
open Go Go.RowKit Go.Lib Go.Proofs.YtfgmapnanaahaaaGreatDoor.PBon Go.Proofs.YtfgmapnanaahaaaGreatDoorW.PrintWords Go.Proofs.YtfgmapnanaahaaaGreatDoorW.BitsM Go.Proofs.YtfgmapnanaahaaaGreatDoorW.PrintMore
theorem pfr_8 (a : Nat) (h : a < 256) (n : Nat) : pfr a (min n 64) 0 = pfr a (min n 8) 0 := by
  by_cases hn : n ≤ 8
  · rw [Nat.min_eq_left (by omega), Nat.min_eq_left hn]
  · obtain ⟨m, hm⟩ : ∃ m, min n 64 = 8 + m := ⟨min n 64 - 8, by omega⟩
    rw [hm, Nat.min_eq_right (show 8 ≤ n by omega), pfr_app, pfr_none (n := m) (fun j h1 h2 => lt_of_bits (W := 8) h (show 8 ≤ j by omega)), List.append_nil]
theorem refNth (a : Nat) (h : a < 18446744073709551616) (k : Int) (_hk : k ≤ 9223372036854775807) : provostref01_Nth.f 300 (a : Int) k = some (nth a k) := by
  unfold provostref01_Nth.f
  rw [refPl a h, Option.bind_some, List.length_map]
  unfold nth
  by_cases h0 : k < 0
  · rw [if_pos h0, if_pos h0, provostref01_Nth.j0, if_pos rfl]
  · obtain ⟨j, rfl⟩ := Int.eq_ofNat_of_zero_le (show 0 ≤ k by omega)
    rw [if_neg h0, if_neg h0, provostref01_Nth.j0, Int.toNat_natCast]
    by_cases h1 : j < (pl a 0).length
    · rw [if_neg (by rw [decide_eq_false (by omega)]; simp), if_pos (by omega), List.length_map, if_pos (by omega), rd_map _ j h1, List.getElem?_eq_getElem h1]
    · rw [if_pos (decide_eq_true (by omega)), List.getElem?_eq_none (by omega)]
theorem refInts_l0 (l : List Int) (hl : l.length ≤ 64) (k : Nat) : ∀ d j : Nat, l.length - j = d → j ≤ l.length → provostkeep_Ints.l0 (d + 1 + k) l l (j : Int) = some true
  | 0, j, hd, hj => by
    rw [show 0 + 1 + k = k + 1 by omega, provostkeep_Ints.l0, if_neg (by omega)]
  | d + 1, j, hd, hj => by
    have hw : wrap64 ((j : Int) + 1) = ((j + 1 : Nat) : Int) := by unfold wrap64; omega
    rw [show d + 1 + 1 + k = (d + 1 + k) + 1 by omega, provostkeep_Ints.l0, if_pos (by omega), if_pos (by omega), if_pos (by omega), if_pos rfl, hw]
    exact refInts_l0 l hl k d (j + 1) (by omega) (by omega)
theorem refInts (l : List Int) (hl : l.length ≤ 64) : provostkeep_Ints.f 300 l l = some true := by
  unfold provostkeep_Ints.f
  rw [if_pos rfl]
  obtain ⟨k, hk⟩ : ∃ k, 300 = l.length + 1 + k := ⟨299 - l.length, by omega⟩
  have e := refInts_l0 l hl k l.length 0 (by omega) (by omega)
  rw [← hk] at e
  exact e
theorem refHas_in (a : Nat) (h : a < 18446744073709551616) (n : Nat) (hn : n ≤ 64) (i : Int) : provostref01_Has.f (a : Int) (n : Int) i = some (decide (0 ≤ i) && decide (i < (n : Int)) && a.testBit i.toNat) := by
  by_cases h0 : 0 ≤ i
  · obtain ⟨j, rfl⟩ := Int.eq_ofNat_of_zero_le h0
    by_cases h1 : j < n
    · rw [refHas_eq a h n j h1 hn, decide_eq_true h0, decide_eq_true (by omega), Int.toNat_natCast]; rfl
    · unfold provostref01_Has.f
      rw [if_pos (show (j : Int) ≥ 0 by omega), if_neg (by omega), decide_eq_false (show ¬ (j : Int) < (n : Int) by omega)]; simp
  · unfold provostref01_Has.f
    rw [if_neg (by omega), decide_eq_false h0]; simp
theorem refPlAt64 (a : Nat) (ha : a < 18446744073709551616) : provostref01_Places.f 300 (a : Int) 64 = some ((pl a 0).map (fun x : Nat => (x : Int))) :=
  refPlaces_eq a (by omega) 64 (by decide) (fun x h1 _ => lt_of_bits (W := 64) ha h1) 235
theorem with64_in (a j : Nat) (ha : a < 18446744073709551616) (hj : j < 64) : bits_Set_uint64_With.f (a : Int) (j : Int) = some (((a ||| 2 ^ j : Nat) : Int), 0) := by
  have hp : 2 ^ j < 2 ^ 64 := Nat.pow_lt_pow_right (by decide) hj
  unfold bits_Set_uint64_With.f
  rw [within64_eq, Option.bind_some, decide_eq_true (by omega), decide_eq_true (by omega), Bool.true_and, if_pos rfl, if_pos (by omega), shl64 j hj, u64_or_nat a (2 ^ j) ha hp]
theorem with64_out (a : Nat) (i : Int) (h : (decide (0 ≤ i) && decide (i < 64)) = false) : bits_Set_uint64_With.f (a : Int) i = some (0, 1) := by
  unfold bits_Set_uint64_With.f
  rw [within64_eq, Option.bind_some, h, if_neg (by simp)]
theorem without64_in (a j : Nat) (ha : a < 18446744073709551616) (hj : j < 64) : bits_Set_uint64_Without.f (a : Int) (j : Int) = some ((if a.testBit j = true then a - 2 ^ j else a : Nat) : Int) := by
  have hp : 2 ^ j < 2 ^ 64 := Nat.pow_lt_pow_right (by decide) hj
  unfold bits_Set_uint64_Without.f
  rw [within64_eq, Option.bind_some, decide_eq_true (by omega), decide_eq_true (by omega), Bool.true_and, if_pos rfl, if_pos (by omega), shl64 j hj, u64_andNot_nat a (2 ^ j) ha hp]
  congr 2
  exact without_nat (W := 64) ha hj
theorem without64_out (a : Nat) (i : Int) (h : (decide (0 ≤ i) && decide (i < 64)) = false) : bits_Set_uint64_Without.f (a : Int) i = some (a : Int) := by
  unfold bits_Set_uint64_Without.f
  rw [within64_eq, Option.bind_some, h, if_neg (by simp)]
theorem one64_all (a : Nat) (ha : a < 18446744073709551616) (i k : Int) (hk : k ≤ 9223372036854775807) (w : World) (hT : Go.Proofs.YtfgmapnanaahaaaGreatDoorW.Tab.TabW w) :
    Calls Tryz.prog 25 #[.int .u64 a, .int .i64 i, .int .i64 k] w fun e w' => e = .returned (.bool true) ∧ Below w.heap.size w w' := by
  have ha64 : a < 18446744073709551616 := by omega
  by_cases hin : 0 ≤ i ∧ i < 64
  · obtain ⟨j, rfl⟩ := Int.eq_ofNat_of_zero_le hin.1
    have hj : j < 64 := by omega
    have hp : 2 ^ j < 2 ^ 64 := Nat.pow_lt_pow_right (by decide) (by omega)
    have ho : a ||| 2 ^ j < 2 ^ 64 := Nat.or_lt_two_pow ha (Nat.pow_lt_pow_right (by decide) hj)
    have hone : provostref01_One.f (j : Int) = some ((2 ^ j : Nat) : Int) := by unfold provostref01_One.f; rw [if_pos (by omega), shl64 j (by omega)]
    have hor : Go.bits .or .u64 (a : Int) ((2 ^ j : Nat) : Int) = ((a ||| 2 ^ j : Nat) : Int) := u64_or_nat a (2 ^ j) ha64 hp
    have hha := has64_eq a ha (j : Int)
    have hhr := refHas_in a ha64 64 (by decide) (j : Int)
    rw [decide_eq_true (show 0 ≤ (j : Int) by omega), decide_eq_true (show (j : Int) < 64 by omega), Int.toNat_natCast, Bool.true_and, Bool.true_and] at hha
    rw [decide_eq_true (show 0 ≤ (j : Int) by omega), decide_eq_true (show (j : Int) < ((64 : Nat) : Int) by omega), Int.toNat_natCast, Bool.true_and, Bool.true_and] at hhr
    have hwo := without64_in a j ha hj
    by_cases hb : a.testBit j = true
    · rw [hb] at hha hhr
      rw [if_pos hb] at hwo
      obtain ⟨hle, _⟩ := bit_less j a 0 hb
      have hsub : IntKind.u64.wrap ((a : Int) - ((2 ^ j : Nat) : Int)) = ((a - 2 ^ j : Nat) : Int) := by rw [IntKind.wrap_u64]; generalize 2 ^ j = q at *; omega
      have hs : a - 2 ^ j < 18446744073709551616 := Nat.lt_of_le_of_lt (Nat.sub_le _ _) ha
      exact (provostlaw01_one64.has a (j : Int) k 300 ((a - 2 ^ j : Nat) : Int) ((pl a 0).length : Nat) (nx a 0) (lastOf (pl a 0)) (nx a ((j : Int)).toNat) ((pfr a (min ((j : Int)).toNat 64) 0).length : Nat) (nth a k) ((pl a 0).map (fun x : Nat => (x : Int))) (textF a) ((a ||| 2 ^ j : Nat) : Int)
        ⟨with64_in a j ha hj⟩ ⟨hwo⟩ ⟨hha⟩ ⟨hhr⟩ ⟨len64_eq a ha⟩ ⟨refLen a ha64⟩ ⟨low64_eq a ha 299⟩ ⟨refLow a ha64⟩ ⟨high64_eq a ha⟩ ⟨refHigh a ha64⟩ ⟨next64_eq a ha (j : Int) 299⟩ ⟨refNext a ha64 (j : Int)⟩ ⟨rank64_eq a ha (j : Int)⟩ ⟨refRank a ha64 (j : Int)⟩
        ⟨by unfold bits_Set_uint64_Nth.f; rw [if_pos (by omega), if_pos hk, Int.toNat_natCast]⟩ ⟨refNth a ha64 k hk⟩ ⟨by unfold bits_Set_uint64_Places.f; rw [if_pos (by omega), Int.toNat_natCast]⟩ ⟨refPlAt64 a ha⟩ ⟨refInts _ (by rw [List.length_map]; exact pl_len a 0)⟩
        ⟨by unfold bits_Set_uint64_Text.f; rw [if_pos (by omega), Int.toNat_natCast]⟩ ⟨refText a ha64⟩ ⟨width64_eq _⟩ _ ⟨hone⟩ hor (by omega) (by omega) hsub w hT)
    · rw [show a.testBit j = false by simpa using hb] at hha hhr
      rw [if_neg hb] at hwo
      exact (provostlaw01_one64.no a (j : Int) k 300  ((pl a 0).length : Nat) (nx a 0) (lastOf (pl a 0)) (nx a ((j : Int)).toNat) ((pfr a (min ((j : Int)).toNat 64) 0).length : Nat) (nth a k) ((pl a 0).map (fun x : Nat => (x : Int))) (textF a) ((a ||| 2 ^ j : Nat) : Int)
        ⟨with64_in a j ha hj⟩ ⟨hwo⟩ ⟨hha⟩ ⟨hhr⟩ ⟨len64_eq a ha⟩ ⟨refLen a ha64⟩ ⟨low64_eq a ha 299⟩ ⟨refLow a ha64⟩ ⟨high64_eq a ha⟩ ⟨refHigh a ha64⟩ ⟨next64_eq a ha (j : Int) 299⟩ ⟨refNext a ha64 (j : Int)⟩ ⟨rank64_eq a ha (j : Int)⟩ ⟨refRank a ha64 (j : Int)⟩
        ⟨by unfold bits_Set_uint64_Nth.f; rw [if_pos (by omega), if_pos hk, Int.toNat_natCast]⟩ ⟨refNth a ha64 k hk⟩ ⟨by unfold bits_Set_uint64_Places.f; rw [if_pos (by omega), Int.toNat_natCast]⟩ ⟨refPlAt64 a ha⟩ ⟨refInts _ (by rw [List.length_map]; exact pl_len a 0)⟩
        ⟨by unfold bits_Set_uint64_Text.f; rw [if_pos (by omega), Int.toNat_natCast]⟩ ⟨refText a ha64⟩ ⟨width64_eq _⟩ _ ⟨hone⟩ hor (by omega) (by omega) w hT)
  · have hf : (decide (0 ≤ i) && decide (i < 64)) = false := by
      by_cases h0 : 0 ≤ i
      · rw [decide_eq_false (show ¬ i < 64 from fun h => hin ⟨h0, h⟩), Bool.and_false]
      · rw [decide_eq_false h0, Bool.false_and]
    have hha := has64_eq a ha i
    have hhr := refHas_in a ha64 64 (by decide) i
    rw [hf, Bool.false_and] at hha
    rw [show (decide (0 ≤ i) && decide (i < ((64 : Nat) : Int))) = false from hf, Bool.false_and] at hhr
    exact (provostlaw01_one64.out a i k 300  ((pl a 0).length : Nat) (nx a 0) (lastOf (pl a 0)) (nx a (i).toNat) ((pfr a (min (i).toNat 64) 0).length : Nat) (nth a k) ((pl a 0).map (fun x : Nat => (x : Int))) (textF a) 
        ⟨with64_out a i hf⟩ ⟨without64_out a i hf⟩ ⟨hha⟩ ⟨hhr⟩ ⟨len64_eq a ha⟩ ⟨refLen a ha64⟩ ⟨low64_eq a ha 299⟩ ⟨refLow a ha64⟩ ⟨high64_eq a ha⟩ ⟨refHigh a ha64⟩ ⟨next64_eq a ha i 299⟩ ⟨refNext a ha64 i⟩ ⟨rank64_eq a ha i⟩ ⟨refRank a ha64 i⟩
        ⟨by unfold bits_Set_uint64_Nth.f; rw [if_pos (by omega), if_pos hk, Int.toNat_natCast]⟩ ⟨refNth a ha64 k hk⟩ ⟨by unfold bits_Set_uint64_Places.f; rw [if_pos (by omega), Int.toNat_natCast]⟩ ⟨refPlAt64 a ha⟩ ⟨refInts _ (by rw [List.length_map]; exact pl_len a 0)⟩
        ⟨by unfold bits_Set_uint64_Text.f; rw [if_pos (by omega), Int.toNat_natCast]⟩ ⟨refText a ha64⟩ ⟨width64_eq _⟩ hin w hT)
theorem refPlAt8 (a : Nat) (ha : a < 256) : provostref01_Places.f 300 (a : Int) 8 = some ((pl a 0).map (fun x : Nat => (x : Int))) :=
  refPlaces_eq a (by omega) 8 (by decide) (fun x h1 _ => lt_of_bits (W := 8) ha h1) 291
theorem with8_in (a j : Nat) (ha : a < 256) (hj : j < 8) : bits_Set_uint8_With.f (a : Int) (j : Int) = some (((a ||| 2 ^ j : Nat) : Int), 0) := by
  have hp : 2 ^ j < 2 ^ 8 := Nat.pow_lt_pow_right (by decide) hj
  unfold bits_Set_uint8_With.f
  rw [within8_eq, Option.bind_some, decide_eq_true (by omega), decide_eq_true (by omega), Bool.true_and, if_pos rfl, if_pos (by omega), shl8 j hj, u8_or_nat a (2 ^ j) ha hp]
theorem with8_out (a : Nat) (i : Int) (h : (decide (0 ≤ i) && decide (i < 8)) = false) : bits_Set_uint8_With.f (a : Int) i = some (0, 1) := by
  unfold bits_Set_uint8_With.f
  rw [within8_eq, Option.bind_some, h, if_neg (by simp)]
theorem without8_in (a j : Nat) (ha : a < 256) (hj : j < 8) : bits_Set_uint8_Without.f (a : Int) (j : Int) = some ((if a.testBit j = true then a - 2 ^ j else a : Nat) : Int) := by
  have hp : 2 ^ j < 2 ^ 8 := Nat.pow_lt_pow_right (by decide) hj
  unfold bits_Set_uint8_Without.f
  rw [within8_eq, Option.bind_some, decide_eq_true (by omega), decide_eq_true (by omega), Bool.true_and, if_pos rfl, if_pos (by omega), shl8 j hj, u8_andNot_nat a (2 ^ j) ha hp]
  congr 2
  exact without_nat (W := 8) ha hj
theorem without8_out (a : Nat) (i : Int) (h : (decide (0 ≤ i) && decide (i < 8)) = false) : bits_Set_uint8_Without.f (a : Int) i = some (a : Int) := by
  unfold bits_Set_uint8_Without.f
  rw [within8_eq, Option.bind_some, h, if_neg (by simp)]
theorem one8_all (a : Nat) (ha : a < 256) (i k : Int) (hk : k ≤ 9223372036854775807) (w : World) (hT : Go.Proofs.YtfgmapnanaahaaaGreatDoorW.Tab.TabW w) :
    Calls Tryz.prog 26 #[.int .u8 a, .int .i64 i, .int .i64 k] w fun e w' => e = .returned (.bool true) ∧ Below w.heap.size w w' := by
  have ha64 : a < 18446744073709551616 := by omega
  by_cases hin : 0 ≤ i ∧ i < 8
  · obtain ⟨j, rfl⟩ := Int.eq_ofNat_of_zero_le hin.1
    have hj : j < 8 := by omega
    have hp : 2 ^ j < 2 ^ 64 := Nat.pow_lt_pow_right (by decide) (by omega)
    have ho : a ||| 2 ^ j < 2 ^ 8 := Nat.or_lt_two_pow ha (Nat.pow_lt_pow_right (by decide) hj)
    have hone : provostref01_One.f (j : Int) = some ((2 ^ j : Nat) : Int) := by unfold provostref01_One.f; rw [if_pos (by omega), shl64 j (by omega)]
    have hor : Go.bits .or .u64 (a : Int) ((2 ^ j : Nat) : Int) = ((a ||| 2 ^ j : Nat) : Int) := u64_or_nat a (2 ^ j) ha64 hp
    have hha := has8_eq a ha (j : Int)
    have hhr := refHas_in a ha64 8 (by decide) (j : Int)
    rw [decide_eq_true (show 0 ≤ (j : Int) by omega), decide_eq_true (show (j : Int) < 8 by omega), Int.toNat_natCast, Bool.true_and, Bool.true_and] at hha
    rw [decide_eq_true (show 0 ≤ (j : Int) by omega), decide_eq_true (show (j : Int) < ((8 : Nat) : Int) by omega), Int.toNat_natCast, Bool.true_and, Bool.true_and] at hhr
    have hwo := without8_in a j ha hj
    by_cases hb : a.testBit j = true
    · rw [hb] at hha hhr
      rw [if_pos hb] at hwo
      obtain ⟨hle, _⟩ := bit_less j a 0 hb
      have hsub : IntKind.u64.wrap ((a : Int) - ((2 ^ j : Nat) : Int)) = ((a - 2 ^ j : Nat) : Int) := by rw [IntKind.wrap_u64]; generalize 2 ^ j = q at *; omega
      have hs : a - 2 ^ j < 256 := Nat.lt_of_le_of_lt (Nat.sub_le _ _) ha
      exact (provostlaw01_one8.has a (j : Int) k 300 ((a - 2 ^ j : Nat) : Int) ((pl a 0).length : Nat) (nx a 0) (lastOf (pl a 0)) (nx a ((j : Int)).toNat) ((pfr a (min ((j : Int)).toNat 64) 0).length : Nat) (nth a k) ((pl a 0).map (fun x : Nat => (x : Int))) (textF a) ((a ||| 2 ^ j : Nat) : Int)
        ⟨with8_in a j ha hj⟩ ⟨hwo⟩ ⟨hha⟩ ⟨hhr⟩ ⟨len8_eq a ha⟩ ⟨refLen a ha64⟩ ⟨low8_eq a ha 299⟩ ⟨refLow a ha64⟩ ⟨high8_eq a ha⟩ ⟨refHigh a ha64⟩ ⟨next8_eq a ha (j : Int) 299⟩ ⟨refNext a ha64 (j : Int)⟩ ⟨(rank8_eq a ha (j : Int)).trans (by rw [pfr_8 a ha])⟩ ⟨refRank a ha64 (j : Int)⟩
        ⟨by unfold bits_Set_uint8_Nth.f; rw [if_pos (by omega), if_pos hk, Int.toNat_natCast]⟩ ⟨refNth a ha64 k hk⟩ ⟨by unfold bits_Set_uint8_Places.f; rw [if_pos (by omega), Int.toNat_natCast]⟩ ⟨refPlAt8 a ha⟩ ⟨refInts _ (by rw [List.length_map]; exact pl_len a 0)⟩
        ⟨by unfold bits_Set_uint8_Text.f; rw [if_pos (by omega), Int.toNat_natCast]⟩ ⟨refText a ha64⟩ ⟨width8_eq _⟩ _ ⟨hone⟩ hor (by omega) (by omega) hsub (by rw [IntKind.wrap_u64]; omega) (by rw [IntKind.wrap_u64]; omega) (by rw [IntKind.wrap_u64]; generalize a - 2 ^ j = q at *; omega) w hT)
    · rw [show a.testBit j = false by simpa using hb] at hha hhr
      rw [if_neg hb] at hwo
      exact (provostlaw01_one8.no a (j : Int) k 300  ((pl a 0).length : Nat) (nx a 0) (lastOf (pl a 0)) (nx a ((j : Int)).toNat) ((pfr a (min ((j : Int)).toNat 64) 0).length : Nat) (nth a k) ((pl a 0).map (fun x : Nat => (x : Int))) (textF a) ((a ||| 2 ^ j : Nat) : Int)
        ⟨with8_in a j ha hj⟩ ⟨hwo⟩ ⟨hha⟩ ⟨hhr⟩ ⟨len8_eq a ha⟩ ⟨refLen a ha64⟩ ⟨low8_eq a ha 299⟩ ⟨refLow a ha64⟩ ⟨high8_eq a ha⟩ ⟨refHigh a ha64⟩ ⟨next8_eq a ha (j : Int) 299⟩ ⟨refNext a ha64 (j : Int)⟩ ⟨(rank8_eq a ha (j : Int)).trans (by rw [pfr_8 a ha])⟩ ⟨refRank a ha64 (j : Int)⟩
        ⟨by unfold bits_Set_uint8_Nth.f; rw [if_pos (by omega), if_pos hk, Int.toNat_natCast]⟩ ⟨refNth a ha64 k hk⟩ ⟨by unfold bits_Set_uint8_Places.f; rw [if_pos (by omega), Int.toNat_natCast]⟩ ⟨refPlAt8 a ha⟩ ⟨refInts _ (by rw [List.length_map]; exact pl_len a 0)⟩
        ⟨by unfold bits_Set_uint8_Text.f; rw [if_pos (by omega), Int.toNat_natCast]⟩ ⟨refText a ha64⟩ ⟨width8_eq _⟩ _ ⟨hone⟩ hor (by omega) (by omega) (by rw [IntKind.wrap_u64]; omega) (by rw [IntKind.wrap_u64]; omega) w hT)
  · have hf : (decide (0 ≤ i) && decide (i < 8)) = false := by
      by_cases h0 : 0 ≤ i
      · rw [decide_eq_false (show ¬ i < 8 from fun h => hin ⟨h0, h⟩), Bool.and_false]
      · rw [decide_eq_false h0, Bool.false_and]
    have hha := has8_eq a ha i
    have hhr := refHas_in a ha64 8 (by decide) i
    rw [hf, Bool.false_and] at hha
    rw [show (decide (0 ≤ i) && decide (i < ((8 : Nat) : Int))) = false from hf, Bool.false_and] at hhr
    exact (provostlaw01_one8.out a i k 300  ((pl a 0).length : Nat) (nx a 0) (lastOf (pl a 0)) (nx a (i).toNat) ((pfr a (min (i).toNat 64) 0).length : Nat) (nth a k) ((pl a 0).map (fun x : Nat => (x : Int))) (textF a) 
        ⟨with8_out a i hf⟩ ⟨without8_out a i hf⟩ ⟨hha⟩ ⟨hhr⟩ ⟨len8_eq a ha⟩ ⟨refLen a ha64⟩ ⟨low8_eq a ha 299⟩ ⟨refLow a ha64⟩ ⟨high8_eq a ha⟩ ⟨refHigh a ha64⟩ ⟨next8_eq a ha i 299⟩ ⟨refNext a ha64 i⟩ ⟨(rank8_eq a ha i).trans (by rw [pfr_8 a ha])⟩ ⟨refRank a ha64 i⟩
        ⟨by unfold bits_Set_uint8_Nth.f; rw [if_pos (by omega), if_pos hk, Int.toNat_natCast]⟩ ⟨refNth a ha64 k hk⟩ ⟨by unfold bits_Set_uint8_Places.f; rw [if_pos (by omega), Int.toNat_natCast]⟩ ⟨refPlAt8 a ha⟩ ⟨refInts _ (by rw [List.length_map]; exact pl_len a 0)⟩
        ⟨by unfold bits_Set_uint8_Text.f; rw [if_pos (by omega), Int.toNat_natCast]⟩ ⟨refText a ha64⟩ ⟨width8_eq _⟩ hin (by rw [IntKind.wrap_u64]; omega) w hT)
theorem one_walk (a0 a1 a2 a3 : Int) (w : World) (g0 : (Lit.int .u64 a0).wf = true) (_g1 : (Lit.int .u64 a1).wf = true) (_g2 : (Lit.int .i64 a2).wf = true) (g3 : (Lit.int .i64 a3).wf = true) (hT : Go.Proofs.YtfgmapnanaahaaaGreatDoorW.Tab.TabW w) :
    Calls Tryz.prog 3 #[.agg #[.int .u64 a0, .int .u64 a1, .int .i64 a2, .int .i64 a3]] w fun e w' => e = .returned (.bool true) ∧ Below w.heap.size w w' := by
  simp [Lit.wf, IntKind.min, IntKind.max, IntKind.signed, IntKind.bits] at g0 g3
  obtain ⟨a, rfl⟩ := Int.eq_ofNat_of_zero_le g0.1
  have ha : a < 18446744073709551616 := by omega
  obtain ⟨v, hv⟩ : ∃ v : Nat, v = a % 65536 := ⟨_, rfl⟩
  obtain ⟨u, hu⟩ : ∃ u : Nat, u = a % 4294967296 := ⟨_, rfl⟩
  obtain ⟨c, hc⟩ : ∃ c : Nat, c = a % 256 := ⟨_, rfl⟩
  have hv6 : v < 65536 := by omega
  have hu2 : u < 4294967296 := by omega
  have hc8 : c < 256 := by omega
  have n1 := not_sub (W := 16) (v := v) hv6
  have n2 := not_sub (W := 32) (v := u) hu2
  rw [show (2 : Nat) ^ 16 - 1 = 65535 from rfl] at n1
  rw [show (2 : Nat) ^ 32 - 1 = 4294967295 from rfl] at n2
  have hN1 := not16_eq v hv6
  have hN2 := not32_eq u hu2
  rw [n1] at hN1
  rw [n2] at hN2
  exact provostlaw01_BitsOne.walk a v u a1 a2 a3 300 ((pl v 0).length : Nat) ((pl u 0).length : Nat) (lastOf (pl v 0)) (lastOf (pl u 0)) ((65535 - v : Nat) : Int) ((4294967295 - u : Nat) : Int) 65535 4294967295 ((65535 - v : Nat) : Int) ((4294967295 - u : Nat) : Int) (c : Int)
    (decide (0 ≤ a2) && decide (a2 < 16) && v.testBit a2.toNat) (decide (0 ≤ a2) && decide (a2 < 32) && u.testBit a2.toNat) (textF v) (textF u)
    ⟨len16_eq v hv6⟩ ⟨refLen v (by omega)⟩ ⟨len32_eq u hu2⟩ ⟨refLen u (by omega)⟩ ⟨high16_eq v hv6⟩ ⟨refHigh v (by omega)⟩ ⟨high32_eq u hu2⟩ ⟨refHigh u (by omega)⟩
    ⟨has16_eq v hv6 a2⟩ ⟨refHas_in v (by omega) 16 (by decide) a2⟩ ⟨has32_eq u hu2 a2⟩ ⟨refHas_in u (by omega) 32 (by decide) a2⟩
    ⟨by unfold bits_Set_uint16_Text.f; rw [if_pos (by omega), Int.toNat_natCast]⟩ ⟨refText v (by omega)⟩ ⟨by unfold bits_Set_uint32_Text.f; rw [if_pos (by omega), Int.toNat_natCast]⟩ ⟨refText u (by omega)⟩
    ⟨hN1⟩ ⟨hN2⟩ ⟨refFull.1⟩ ⟨refFull.2⟩ ⟨fun W h => one64_all a ha a2 a3 (by omega) W h⟩ ⟨fun W h => one8_all c hc8 a2 a3 (by omega) W h⟩ ⟨by decide +kernel⟩ ⟨width16_eq _⟩ ⟨width32_eq _⟩
    (by rw [IntKind.wrap_u16]; omega) (by rw [IntKind.wrap_u32']; omega) (by rw [IntKind.wrap_u64]; omega) (by rw [IntKind.wrap_u64]; omega) (by rw [IntKind.wrap_u64]; omega) (by rw [IntKind.wrap_u64]; omega) (by rw [IntKind.wrap_u64]; omega) (by rw [IntKind.wrap_u64]; omega) (by rw [IntKind.wrap_u8']; omega) w hT
end Go.Proofs.YtfgmapnanaahaaaGreatDoor.Pure
