/- A text written by my program wip/gen/p2.py out of the translation and of my foreign texts; not trusted: Lean checks it. -/
import Derived.Test.YtpcnpmcknknfcaaShelf
import Derived.Test.YtpcnpmcknknfcaaPLshx0
import Derived.Test.YtpcnpmcknknfcaaPLshx2
namespace Go.Proofs.Ytpcnpmcknknfcaa.PLsh
open Go.RowKit Go.Proofs.YtpcnpmcknknfcaaW.PrintWords Go.Proofs.YtpcnpmcknknfcaaW.PrintLast Go.Proofs.YtpcnpmcknknfcaaW.PrintMore
attribute [local go_sem] max2_int min2_int max_two min_two max_three min_three max_four min_four   -- for this text's walks alone
set_option linter.unusedVariables false
set_option linter.unusedSimpArgs false

/-! ### lex_number: function 105 -/
section
open Go
open Go.Proofs.YtpcnpmcknknfcaaW.Mine
def isDig (c : Int) : Bool := decide (c ≥ 48) && decide (c ≤ 57)
def isSml (c : Int) : Bool := decide (c ≥ 97) && decide (c ≤ 122)
def isIn (c : Int) : Bool := isSml c || isDig c || c == 45
def notNl (c : Int) : Bool := c != 10
theorem dig_f (c : Int) : lex_digit.f c = some (isDig c) := by
  unfold lex_digit.f isDig
  by_cases h : c ≥ 48
  · rw [if_pos h, decide_eq_true h, Bool.true_and]
  · rw [if_neg h, decide_eq_false h, Bool.false_and]
theorem sml_f (c : Int) : lex_small.f c = some (isSml c) := by
  unfold lex_small.f isSml
  by_cases h : c ≥ 97
  · rw [if_pos h, decide_eq_true h, Bool.true_and]
  · rw [if_neg h, decide_eq_false h, Bool.false_and]
theorem in_f (c : Int) : lex_inName.f c = some (isIn c) := by
  unfold lex_inName.f isIn
  rw [sml_f]
  simp only [Option.bind_some]
  rw [dig_f]
  simp only [Option.bind_some]
  cases isSml c <;> cases isDig c <;> simp
/-- how many bytes a text begins with that are of a kind -/
def bgn (p : Int → Bool) (s : ByteArray) : Nat := ((bytesOf s).takeWhile p).length
theorem bt_of (s : ByteArray) (k : Nat) (h : k < s.size) : ∃ hh : k < (bytesOf s).length, (bytesOf s)[k] = bt s k := by
  have hl := bytesOf_length s
  refine ⟨by omega, ?_⟩
  have := bt_at s (k : Int)
  simp only [Int.toNat_natCast] at this
  rw [← this h]
  simp [bytesOf, ByteArray.getElem_eq_getElem_data]
theorem tw_len (p : Int → Bool) : ∀ (l : List Int) (k : Nat), k ≤ l.length → (∀ j (h : j < l.length), j < k → p l[j] = true) → (k = l.length ∨ ∃ h : k < l.length, p l[k] = false) → (l.takeWhile p).length = k
  | [], k, h, _, _ => by simp at h; simp [h]
  | x :: r, 0, _, _, h2 => by
    rcases h2 with h | ⟨h, h3⟩
    · simp at h
    · simp at h3; simp [List.takeWhile, h3]
  | x :: r, k + 1, h, h1, h2 => by
    have hx : p x = true := h1 0 (by simp) (by omega)
    have := tw_len p r k (by simpa using h) (fun j hj hjk => by have := h1 (j + 1) (by simp; omega) (by omega); simpa using this) (by
      rcases h2 with h | ⟨h, h3⟩
      · exact Or.inl (by simpa using h)
      · exact Or.inr ⟨by simpa using h, by simpa using h3⟩)
    simp [List.takeWhile, hx, this]
theorem bgn_eq (p : Int → Bool) (s : ByteArray) (k : Nat) (hk : k ≤ s.size) (h1 : ∀ j : Nat, j < k → p (bt s j) = true) (h2 : k = s.size ∨ p (bt s k) = false) : bgn p s = k := by
  have hl := bytesOf_length s
  refine tw_len p (bytesOf s) k (by omega) (fun j hj hjk => ?_) ?_
  · obtain ⟨_, e⟩ := bt_of s j (by omega)
    rw [e]; exact h1 j hjk
  · rcases Nat.lt_or_ge k s.size with h | h
    · obtain ⟨hh, e⟩ := bt_of s k h
      refine Or.inr ⟨hh, ?_⟩
      rw [e]
      exact h2.resolve_left (by omega)
    · exact Or.inl (by omega)
theorem bgn_le (p : Int → Bool) (s : ByteArray) : bgn p s ≤ s.size := by
  have h := List.Sublist.length_le (List.takeWhile_sublist (p := p) (l := bytesOf s))
  rw [bytesOf_length] at h
  exact h
set_option maxHeartbeats 1000000 in
theorem begins_dig (s : ByteArray) (hs : s.size ≤ 9223372036854775807) (w : World) : Calls Try.prog 67 #[.string s, Value.func (.func 104) #[] #[]] w fun e w' => e = .returned (.int .i64 (bgn isDig s : Nat)) ∧ Drawn0 w w' := by
  go_enter Try.func67, Try.ntmps67
  go_wp2
  go_loopw [5] (fun i wr => ∃ k : Nat, k ≤ s.size ∧ i = .int .i64 k ∧ (∀ j : Nat, j < k → isDig (bt s j) = true) ∧ Drawn0 w wr) (fun i _ => s.size - (intOf i).toNat)
  case atStart => exact ⟨0, by omega, rfl, fun j hj => by omega, by first | exact Drawn0.refl w | exact (Drawn0.refl w).step _⟩
  case round =>
    obtain ⟨k, hk, rfl, hall, hd⟩ := hrel
    have HA := Aside0.mk hall
    have HD := Aside0.mk hd
    clear hall hd
    by_cases hlt : k < s.size
    · have c0 : decide ((k : Int) < (s.size : Int)) = true := decide_eq_true (by omega)
      have c1 : decide (k < s.size) = true := decide_eq_true hlt
      have hx : ∀ h : k < s.size, ((s[k]'h).toNat : Int) = bt s k := fun h => by have := bt_at s (k : Int); simp only [Int.toNat_natCast] at this; exact this h
      have q1 := eq_true hlt
      have q2 : ((k : Int) < (s.size : Int)) = True := eq_true (by omega)
      obtain ⟨b0, b1⟩ := bt_range s k
      by_cases hp : isDig (bt s k) = true
      · have HP := Aside0.mk hp
        have HPK : Aside0 (∀ j : Nat, j < k + 1 → isDig (bt s j) = true) := by
          refine ⟨fun j hj => ?_⟩
          rcases Nat.lt_or_ge j k with h | h
          · exact HA.out j h
          · obtain rfl : j = k := by omega
            exact hp
        clear hp HA
        generalize hb : bt s (k : Int) = c at *
        clear hb
        go_wp2_with (go_at_call 104; (with_reducible refine (lex_digit.calls c true _ (by rw [dig_f, HP.out])).mono ?_); rintro e w' ⟨rfl, ⟨⟨nd, rfl⟩⟩⟩)
        go_roundw
        case rel => exact ⟨k + 1, by omega, by go_num, HPK.out, by first | exact HD.out | exact HD.out.step _ | exact (HD.out.step _).step _⟩
        case measure => simp [intOf]; omega
      · have hp0 : isDig (bt s k) = false := Bool.eq_false_iff.mpr hp
        have HP := Aside0.mk hp0
        have HE := Aside0.mk (bgn_eq isDig s k hk HA.out (Or.inr hp0))
        clear hp hp0 HA
        generalize hb : bt s (k : Int) = c at *
        clear hb
        go_wp2_with (go_at_call 104; (with_reducible refine (lex_digit.calls c false _ (by rw [dig_f, HP.out])).mono ?_); rintro e w' ⟨rfl, ⟨⟨nd, rfl⟩⟩⟩)
        go_ret
        rw [HE.out]
        exact ⟨rfl, by first | exact HD.out | exact HD.out.step _ | exact (HD.out.step _).step _⟩
    · obtain rfl : k = s.size := by omega
      have c0 : decide ((s.size : Int) < (s.size : Int)) = false := decide_eq_false (by omega)
      have c1 : decide (s.size < s.size) = false := decide_eq_false (by omega)
      have HE := Aside0.mk (bgn_eq isDig s s.size (Nat.le_refl _) HA.out (Or.inl rfl))
      go_wp2
      go_ret
      rw [HE.out]
      exact ⟨rfl, by first | exact HD.out | exact HD.out.step _ | exact (HD.out.step _).step _⟩
set_option maxHeartbeats 1000000 in
theorem begins_in (s : ByteArray) (hs : s.size ≤ 9223372036854775807) (w : World) : Calls Try.prog 67 #[.string s, Value.func (.func 68) #[] #[]] w fun e w' => e = .returned (.int .i64 (bgn isIn s : Nat)) ∧ Drawn0 w w' := by
  go_enter Try.func67, Try.ntmps67
  go_wp2
  go_loopw [5] (fun i wr => ∃ k : Nat, k ≤ s.size ∧ i = .int .i64 k ∧ (∀ j : Nat, j < k → isIn (bt s j) = true) ∧ Drawn0 w wr) (fun i _ => s.size - (intOf i).toNat)
  case atStart => exact ⟨0, by omega, rfl, fun j hj => by omega, by first | exact Drawn0.refl w | exact (Drawn0.refl w).step _⟩
  case round =>
    obtain ⟨k, hk, rfl, hall, hd⟩ := hrel
    have HA := Aside0.mk hall
    have HD := Aside0.mk hd
    clear hall hd
    by_cases hlt : k < s.size
    · have c0 : decide ((k : Int) < (s.size : Int)) = true := decide_eq_true (by omega)
      have c1 : decide (k < s.size) = true := decide_eq_true hlt
      have hx : ∀ h : k < s.size, ((s[k]'h).toNat : Int) = bt s k := fun h => by have := bt_at s (k : Int); simp only [Int.toNat_natCast] at this; exact this h
      have q1 := eq_true hlt
      have q2 : ((k : Int) < (s.size : Int)) = True := eq_true (by omega)
      obtain ⟨b0, b1⟩ := bt_range s k
      by_cases hp : isIn (bt s k) = true
      · have HP := Aside0.mk hp
        have HPK : Aside0 (∀ j : Nat, j < k + 1 → isIn (bt s j) = true) := by
          refine ⟨fun j hj => ?_⟩
          rcases Nat.lt_or_ge j k with h | h
          · exact HA.out j h
          · obtain rfl : j = k := by omega
            exact hp
        clear hp HA
        generalize hb : bt s (k : Int) = c at *
        clear hb
        go_wp2_with (go_at_call 68; (with_reducible refine (lex_inName.calls c true _ (by rw [in_f, HP.out])).mono ?_); rintro e w' ⟨rfl, ⟨⟨nd, rfl⟩⟩⟩)
        go_roundw
        case rel => exact ⟨k + 1, by omega, by go_num, HPK.out, by first | exact HD.out | exact HD.out.step _ | exact (HD.out.step _).step _⟩
        case measure => simp [intOf]; omega
      · have hp0 : isIn (bt s k) = false := Bool.eq_false_iff.mpr hp
        have HP := Aside0.mk hp0
        have HE := Aside0.mk (bgn_eq isIn s k hk HA.out (Or.inr hp0))
        clear hp hp0 HA
        generalize hb : bt s (k : Int) = c at *
        clear hb
        go_wp2_with (go_at_call 68; (with_reducible refine (lex_inName.calls c false _ (by rw [in_f, HP.out])).mono ?_); rintro e w' ⟨rfl, ⟨⟨nd, rfl⟩⟩⟩)
        go_ret
        rw [HE.out]
        exact ⟨rfl, by first | exact HD.out | exact HD.out.step _ | exact (HD.out.step _).step _⟩
    · obtain rfl : k = s.size := by omega
      have c0 : decide ((s.size : Int) < (s.size : Int)) = false := decide_eq_false (by omega)
      have c1 : decide (s.size < s.size) = false := decide_eq_false (by omega)
      have HE := Aside0.mk (bgn_eq isIn s s.size (Nat.le_refl _) HA.out (Or.inl rfl))
      go_wp2
      go_ret
      rw [HE.out]
      exact ⟨rfl, by first | exact HD.out | exact HD.out.step _ | exact (HD.out.step _).step _⟩
theorem nl_calls (c : Int) (w : World) : Calls Try.prog 102 #[.int .u8 c] w fun e w' => e = .returned (.bool (notNl c)) ∧ Drawn0 w w' := by
  go_enter Try.func102, Try.ntmps102
  go_wp2
  go_ret
  exact ⟨rfl, by first | exact Drawn0.refl w | exact (Drawn0.refl w).step _⟩
set_option maxHeartbeats 1000000 in
theorem begins_nl (s : ByteArray) (hs : s.size ≤ 9223372036854775807) (w : World) : Calls Try.prog 67 #[.string s, Value.func (.func 102) #[] #[]] w fun e w' => e = .returned (.int .i64 (bgn notNl s : Nat)) ∧ Drawn0 w w' := by
  go_enter Try.func67, Try.ntmps67
  go_wp2
  go_loopw [5] (fun i wr => ∃ k : Nat, k ≤ s.size ∧ i = .int .i64 k ∧ (∀ j : Nat, j < k → notNl (bt s j) = true) ∧ Drawn0 w wr) (fun i _ => s.size - (intOf i).toNat)
  case atStart => exact ⟨0, by omega, rfl, fun j hj => by omega, by first | exact Drawn0.refl w | exact (Drawn0.refl w).step _⟩
  case round =>
    obtain ⟨k, hk, rfl, hall, hd⟩ := hrel
    have HA := Aside0.mk hall
    have HD := Aside0.mk hd
    clear hall hd
    by_cases hlt : k < s.size
    · have c0 : decide ((k : Int) < (s.size : Int)) = true := decide_eq_true (by omega)
      have c1 : decide (k < s.size) = true := decide_eq_true hlt
      have hx : ∀ h : k < s.size, ((s[k]'h).toNat : Int) = bt s k := fun h => by have := bt_at s (k : Int); simp only [Int.toNat_natCast] at this; exact this h
      have q1 := eq_true hlt
      have q2 : ((k : Int) < (s.size : Int)) = True := eq_true (by omega)
      obtain ⟨b0, b1⟩ := bt_range s k
      by_cases hp : notNl (bt s k) = true
      · have HP := Aside0.mk hp
        have HPK : Aside0 (∀ j : Nat, j < k + 1 → notNl (bt s j) = true) := by
          refine ⟨fun j hj => ?_⟩
          rcases Nat.lt_or_ge j k with h | h
          · exact HA.out j h
          · obtain rfl : j = k := by omega
            exact hp
        clear hp HA
        generalize hb : bt s (k : Int) = c at *
        clear hb
        go_wp2_with (go_at_call 102; (with_reducible refine (nl_calls c _).mono ?_); rintro e w' ⟨rfl, ⟨⟨nd, rfl⟩⟩⟩; rw [show notNl c = true from HP.out])
        go_roundw
        case rel => exact ⟨k + 1, by omega, by go_num, HPK.out, by first | exact HD.out | exact HD.out.step _ | exact (HD.out.step _).step _⟩
        case measure => simp [intOf]; omega
      · have hp0 : notNl (bt s k) = false := Bool.eq_false_iff.mpr hp
        have HP := Aside0.mk hp0
        have HE := Aside0.mk (bgn_eq notNl s k hk HA.out (Or.inr hp0))
        clear hp hp0 HA
        generalize hb : bt s (k : Int) = c at *
        clear hb
        go_wp2_with (go_at_call 102; (with_reducible refine (nl_calls c _).mono ?_); rintro e w' ⟨rfl, ⟨⟨nd, rfl⟩⟩⟩; rw [show notNl c = false from HP.out])
        go_ret
        rw [HE.out]
        exact ⟨rfl, by first | exact HD.out | exact HD.out.step _ | exact (HD.out.step _).step _⟩
    · obtain rfl : k = s.size := by omega
      have c0 : decide ((s.size : Int) < (s.size : Int)) = false := decide_eq_false (by omega)
      have c1 : decide (s.size < s.size) = false := decide_eq_false (by omega)
      have HE := Aside0.mk (bgn_eq notNl s s.size (Nat.le_refl _) HA.out (Or.inl rfl))
      go_wp2
      go_ret
      rw [HE.out]
      exact ⟨rfl, by first | exact HD.out | exact HD.out.step _ | exact (HD.out.step _).step _⟩
theorem rd_atL (l : List Int) (i : Nat) (h : i < l.length) : rd l (i : Int) = l[i] := by
  unfold rd; rw [Int.toNat_natCast, List.getD_eq_getElem?_getD, List.getElem?_eq_getElem h]; rfl
/-- the number that digits say -/
def valF (l : List Int) : Int := l.foldl (fun v c => 10 * v + (c - 48)) 0
theorem valF_snoc (l : List Int) (c : Int) : valF (l ++ [c]) = 10 * valF l + (c - 48) := by simp [valF]
theorem valF_bd : ∀ (k : Nat) (l : List Int), l.length = k → k ≤ 9 → (∀ c ∈ l, isDig c = true) → 0 ≤ valF l ∧ valF l < 10 ^ k
  | 0, l, h, _, _ => by obtain rfl := List.eq_nil_of_length_eq_zero h; simp [valF]
  | k + 1, l, h, h9, hd => by
    obtain ⟨a, c, rfl⟩ : ∃ a c, l = a ++ [c] := ⟨l.dropLast, l.getLast (by intro e; rw [e] at h; simp at h), (List.dropLast_concat_getLast _).symm⟩
    obtain ⟨h1, h2⟩ := valF_bd k a (by simpa using h) (by omega) (fun x hx => hd x (List.mem_append_left _ hx))
    have hc := hd c (by simp)
    simp only [isDig, Bool.and_eq_true, decide_eq_true_eq] at hc
    rw [valF_snoc, Int.pow_succ]
    omega
theorem valF_9 (k : Nat) (l : List Int) (h : l.length = k) (h9 : k ≤ 9) (hd : ∀ c ∈ l, isDig c = true) : 0 ≤ valF l ∧ valF l ≤ 999999999 := by
  obtain ⟨h1, h2⟩ := valF_bd k l h h9 hd
  refine ⟨h1, ?_⟩
  have : k = 0 ∨ k = 1 ∨ k = 2 ∨ k = 3 ∨ k = 4 ∨ k = 5 ∨ k = 6 ∨ k = 7 ∨ k = 8 ∨ k = 9 := by omega
  rcases this with e | e | e | e | e | e | e | e | e | e <;> rw [e] at h2 <;> simp only [Int.reducePow] at h2 <;> omega
theorem bytesOf_pre (s : ByteArray) (n : Nat) (h : n ≤ s.size) : bytesOf (s.extract 0 n) = (bytesOf s).take n := by
  have hsz : s.data.toList.length = s.size := by simp
  simp only [bytesOf, ByteArray.data_extract, Array.toList_extract, List.extract_eq_take_drop, Nat.sub_zero, List.drop_zero, List.map_take]
theorem pre_size (s : ByteArray) (n : Nat) (h : n ≤ s.size) : (s.extract 0 n).size = n := by rw [ByteArray.size_extract]; omega
theorem tw_all (p : Int → Bool) : ∀ (l : List Int), l.take (l.takeWhile p).length = l.takeWhile p ∧ ∀ c ∈ l.takeWhile p, p c = true
  | [] => ⟨rfl, fun _ h => by cases h⟩
  | x :: r => by
    obtain ⟨h1, h2⟩ := tw_all p r
    by_cases hx : p x = true
    · simp only [List.takeWhile, hx, List.length_cons, List.take_succ_cons, h1, true_and]
      intro c hc
      rcases List.mem_cons.1 hc with h | h
      · rw [h]; exact hx
      · exact h2 c h
    · have hx' : p x = false := Bool.eq_false_iff.mpr hx
      simp [List.takeWhile, hx']
theorem bgn_all (p : Int → Bool) (s : ByteArray) : ∀ c ∈ (bytesOf s).take (bgn p s), p c = true := by
  unfold bgn
  rw [(tw_all p (bytesOf s)).1]
  exact (tw_all p (bytesOf s)).2
def badN (s : ByteArray) (n : Nat) : Prop := n = 0 ∨ n > 9 ∨ (n > 1 ∧ bt s 0 = 48) ∨ (n < s.size ∧ isIn (bt s n) = true)
instance badN_dec (s : ByteArray) (n : Nat) : Decidable (badN s n) := by unfold badN; exact inferInstance
def numF (s : ByteArray) : Int × Int := if badN s (bgn isDig s) then (0, 0) else ((bgn isDig s : Nat), valF ((bytesOf s).take (bgn isDig s)))
set_option maxHeartbeats 2000000 in
set_option maxRecDepth 100000 in
theorem lex_number.good (s : ByteArray) (hs : s.size ≤ 9223372036854775807) (w : World) (hb : ¬ badN s (bgn isDig s)) :
    Calls Try.prog 105 #[.string s] w fun e w' => e = .returned (.tuple #[.int .i64 (bgn isDig s : Nat), .int .i64 (valF ((bytesOf s).take (bgn isDig s)))]) ∧ Below w.heap.size w w' := by
  have hle := bgn_le isDig s
  have hall := bgn_all isDig s
  generalize hn : bgn isDig s = n at *
  have HN := Aside0.mk hn
  have HALL := Aside0.mk hall
  unfold badN at hb
  have hsz := pre_size s n hle
  have hby := bytesOf_pre s n hle
  have HBY := Aside0.mk hby
  have HSZ := Aside0.mk hsz
  have b0 : ((n : Int) == 0) = false := beq_eq_false_iff_ne.2 (by omega)
  have b1 : decide (9 < (n : Int)) = false := decide_eq_false (by omega)
  have p0 : 0 < s.size := by omega
  have q0 := eq_true p0
  have hx0 : ∀ h : 0 < s.size, ((s[0]'h).toNat : Int) = bt s 0 := bt_at s 0
  have i0 : 0 ≤ (n : Int) := by omega
  have i1 : (n : Int) ≤ (s.size : Int) := by omega
  have HS := Aside0.mk hs
  have tl : Calls Try.prog 105 #[.string s] w fun e w' => e = .returned (.tuple #[.int .i64 n, .int .i64 (valF ((bytesOf s).take n))]) ∧ Below w.heap.size w w' := by
    clear hn hall hsz hby
    have hA : ((n : Int) ≤ 1 ∧ decide (1 < (n : Int)) = false) ∨ (decide (1 < (n : Int)) = true ∧ (bt s 0 == 48) = false) := by
      rcases Nat.lt_or_ge 1 n with h | h
      · exact Or.inr ⟨decide_eq_true (by omega), beq_eq_false_iff_ne.2 (fun e => hb (Or.inr (Or.inr (Or.inl ⟨h, e⟩))))⟩
      · exact Or.inl ⟨by omega, decide_eq_false (by omega)⟩
    have hB : (n < s.size ∧ isIn (bt s n) = false) ∨ n = s.size := by
      rcases Nat.lt_or_ge n s.size with h | h
      · exact Or.inl ⟨h, Bool.eq_false_iff.mpr (fun e => hb (Or.inr (Or.inr (Or.inr ⟨h, e⟩))))⟩
      · exact Or.inr (by omega)
    have hn9 : n ≤ 9 := by omega
    clear hb
    rcases hA with ⟨h1, b2⟩ | ⟨b2, b3⟩
    · rcases hB with ⟨h4, hin⟩ | h4
      · have HIN := Aside0.mk hin
        have b4 : decide ((n : Int) < (s.size : Int)) = true := decide_eq_true (by omega)
        have b5 : decide (n < s.size) = true := decide_eq_true h4
        have q4 := eq_true h4
        have hx4 : ∀ h : n < s.size, ((s[n]'h).toNat : Int) = bt s n := fun h => by have := bt_at s (n : Int); simp only [Int.toNat_natCast] at this; exact this h
        clear hin
        go_enter Try.func105, Try.ntmps105
        go_wp2_with (first
          | (go_at_call 67; (with_reducible refine (begins_dig s (by have := HS.out; omega) _).mono ?_); rintro e w' ⟨rfl, ⟨⟨nd, rfl⟩⟩⟩; rw [HN.out])
          | (go_at_call 68; (with_reducible refine (lex_inName.calls (bt s n) false _ (by rw [in_f, HIN.out])).mono ?_); rintro e w' ⟨rfl, ⟨⟨nd2, rfl⟩⟩⟩)
          | ((with_reducible refine gate_dst (N := 38) rfl ?_); refine conv_bytes 9 114 5 (.tmp 37) (s.extract 0 n) Try.underlying9 Try.underlying114 Try.underlying5 (by rw [HSZ.out]; have := HS.out; omega) rfl rfl rfl ?_; intro A c w3 hcap hC hb3; rw [HBY.out, HSZ.out] at hC; rw [HSZ.out] at hcap ⊢; have HC := Aside0.mk hC; have HB := Aside0.mk (show Below w.heap.size w w3 from below_step (pw_below_drewN (Below.refl w.heap.size w) _) hb3); clear hC hb3))
        clear q0 hx0
        go_loop [3, 40] (fun v i => ∃ k : Nat, k ≤ n ∧ i = .int .i64 k ∧ v = .int .i64 (valF (((bytesOf s).take n).take k))) (fun _ i => n - (intOf i).toNat)
        case atStart => exact ⟨0, by omega, rfl, rfl⟩
        case round =>
          obtain ⟨k, hk, rfl, rfl⟩ := hrel
          have hl9 : ((bytesOf s).take n).length = n := by rw [List.length_take, bytesOf_length]; omega
          by_cases hlt : k < n
          · obtain ⟨v0, v1⟩ := valF_9 k (((bytesOf s).take n).take k) (by rw [List.length_take, hl9]; omega) (by omega) (fun c hc => HALL.out c (List.mem_of_mem_take hc))
            obtain ⟨ad, rfl, hy⟩ := Kd.at_int HC.out (k : Int) (by omega) (by omega)
            rw [Int.toNat_natCast] at hy
            have hst : ((bytesOf s).take n).take (k + 1) = ((bytesOf s).take n).take k ++ [rd ((bytesOf s).take n) k] := by
              rw [List.take_succ_eq_append_getElem (by omega), rd_atL _ k (by omega)]
            have hdg := HALL.out (rd ((bytesOf s).take n) k) (by rw [rd_atL _ k (by omega)]; exact List.getElem_mem _)
            simp only [isDig, Bool.and_eq_true, decide_eq_true_eq] at hdg
            have HV : Aside0 (valF (((bytesOf s).take n).take (k + 1)) = 10 * valF (((bytesOf s).take n).take k) + (rd ((bytesOf s).take n) k - 48)) := ⟨by rw [hst, valF_snoc]⟩
            clear hst
            generalize valF (((bytesOf s).take n).take k) = v at *
            generalize rd ((bytesOf s).take n) (k : Int) = c0 at *
            go_wp2
            go_round
            case rel => exact ⟨k + 1, by omega, by go_num, by rw [HV.out]⟩
            case measure => simp [intOf]; omega
          · obtain rfl : k = n := by omega
            go_wp2
            go_ret2
            rw [List.take_of_length_le (by omega)]
            exact ⟨rfl, HB.out⟩
      · have b4 : decide ((n : Int) < (s.size : Int)) = false := decide_eq_false (by omega)
        have b5 : decide (n < s.size) = false := decide_eq_false (by omega)
        have HEQ := Aside0.mk h4
        clear h4
        go_enter Try.func105, Try.ntmps105
        go_wp2_with (first
          | (go_at_call 67; (with_reducible refine (begins_dig s (by have := HS.out; omega) _).mono ?_); rintro e w' ⟨rfl, ⟨⟨nd, rfl⟩⟩⟩; rw [HN.out])
          | ((with_reducible refine gate_dst (N := 38) rfl ?_); refine conv_bytes 9 114 5 (.tmp 37) (s.extract 0 n) Try.underlying9 Try.underlying114 Try.underlying5 (by rw [HSZ.out]; have := HS.out; omega) rfl rfl rfl ?_; intro A c w3 hcap hC hb3; rw [HBY.out, HSZ.out] at hC; rw [HSZ.out] at hcap ⊢; have HC := Aside0.mk hC; have HB := Aside0.mk (show Below w.heap.size w w3 from below_step (pw_below_drewN (Below.refl w.heap.size w) _) hb3); clear hC hb3))
        clear q0 hx0
        go_loop [3, 40] (fun v i => ∃ k : Nat, k ≤ n ∧ i = .int .i64 k ∧ v = .int .i64 (valF (((bytesOf s).take n).take k))) (fun _ i => n - (intOf i).toNat)
        case atStart => exact ⟨0, by omega, rfl, rfl⟩
        case round =>
          obtain ⟨k, hk, rfl, rfl⟩ := hrel
          have hl9 : ((bytesOf s).take n).length = n := by rw [List.length_take, bytesOf_length]; omega
          by_cases hlt : k < n
          · obtain ⟨v0, v1⟩ := valF_9 k (((bytesOf s).take n).take k) (by rw [List.length_take, hl9]; omega) (by omega) (fun c hc => HALL.out c (List.mem_of_mem_take hc))
            obtain ⟨ad, rfl, hy⟩ := Kd.at_int HC.out (k : Int) (by omega) (by omega)
            rw [Int.toNat_natCast] at hy
            have hst : ((bytesOf s).take n).take (k + 1) = ((bytesOf s).take n).take k ++ [rd ((bytesOf s).take n) k] := by
              rw [List.take_succ_eq_append_getElem (by omega), rd_atL _ k (by omega)]
            have hdg := HALL.out (rd ((bytesOf s).take n) k) (by rw [rd_atL _ k (by omega)]; exact List.getElem_mem _)
            simp only [isDig, Bool.and_eq_true, decide_eq_true_eq] at hdg
            have HV : Aside0 (valF (((bytesOf s).take n).take (k + 1)) = 10 * valF (((bytesOf s).take n).take k) + (rd ((bytesOf s).take n) k - 48)) := ⟨by rw [hst, valF_snoc]⟩
            clear hst
            generalize valF (((bytesOf s).take n).take k) = v at *
            generalize rd ((bytesOf s).take n) (k : Int) = c0 at *
            go_wp2
            go_round
            case rel => exact ⟨k + 1, by omega, by go_num, by rw [HV.out]⟩
            case measure => simp [intOf]; omega
          · obtain rfl : k = n := by omega
            go_wp2
            go_ret2
            rw [List.take_of_length_le (by omega)]
            exact ⟨rfl, HB.out⟩
    · rcases hB with ⟨h4, hin⟩ | h4
      · have HIN := Aside0.mk hin
        have b4 : decide ((n : Int) < (s.size : Int)) = true := decide_eq_true (by omega)
        have b5 : decide (n < s.size) = true := decide_eq_true h4
        have q4 := eq_true h4
        have hx4 : ∀ h : n < s.size, ((s[n]'h).toNat : Int) = bt s n := fun h => by have := bt_at s (n : Int); simp only [Int.toNat_natCast] at this; exact this h
        clear hin
        go_enter Try.func105, Try.ntmps105
        go_wp2_with (first
          | (go_at_call 67; (with_reducible refine (begins_dig s (by have := HS.out; omega) _).mono ?_); rintro e w' ⟨rfl, ⟨⟨nd, rfl⟩⟩⟩; rw [HN.out])
          | (go_at_call 68; (with_reducible refine (lex_inName.calls (bt s n) false _ (by rw [in_f, HIN.out])).mono ?_); rintro e w' ⟨rfl, ⟨⟨nd2, rfl⟩⟩⟩)
          | ((with_reducible refine gate_dst (N := 38) rfl ?_); refine conv_bytes 9 114 5 (.tmp 37) (s.extract 0 n) Try.underlying9 Try.underlying114 Try.underlying5 (by rw [HSZ.out]; have := HS.out; omega) rfl rfl rfl ?_; intro A c w3 hcap hC hb3; rw [HBY.out, HSZ.out] at hC; rw [HSZ.out] at hcap ⊢; have HC := Aside0.mk hC; have HB := Aside0.mk (show Below w.heap.size w w3 from below_step (pw_below_drewN (Below.refl w.heap.size w) _) hb3); clear hC hb3))
        clear q0 hx0
        go_loop [3, 40] (fun v i => ∃ k : Nat, k ≤ n ∧ i = .int .i64 k ∧ v = .int .i64 (valF (((bytesOf s).take n).take k))) (fun _ i => n - (intOf i).toNat)
        case atStart => exact ⟨0, by omega, rfl, rfl⟩
        case round =>
          obtain ⟨k, hk, rfl, rfl⟩ := hrel
          have hl9 : ((bytesOf s).take n).length = n := by rw [List.length_take, bytesOf_length]; omega
          by_cases hlt : k < n
          · obtain ⟨v0, v1⟩ := valF_9 k (((bytesOf s).take n).take k) (by rw [List.length_take, hl9]; omega) (by omega) (fun c hc => HALL.out c (List.mem_of_mem_take hc))
            obtain ⟨ad, rfl, hy⟩ := Kd.at_int HC.out (k : Int) (by omega) (by omega)
            rw [Int.toNat_natCast] at hy
            have hst : ((bytesOf s).take n).take (k + 1) = ((bytesOf s).take n).take k ++ [rd ((bytesOf s).take n) k] := by
              rw [List.take_succ_eq_append_getElem (by omega), rd_atL _ k (by omega)]
            have hdg := HALL.out (rd ((bytesOf s).take n) k) (by rw [rd_atL _ k (by omega)]; exact List.getElem_mem _)
            simp only [isDig, Bool.and_eq_true, decide_eq_true_eq] at hdg
            have HV : Aside0 (valF (((bytesOf s).take n).take (k + 1)) = 10 * valF (((bytesOf s).take n).take k) + (rd ((bytesOf s).take n) k - 48)) := ⟨by rw [hst, valF_snoc]⟩
            clear hst
            generalize valF (((bytesOf s).take n).take k) = v at *
            generalize rd ((bytesOf s).take n) (k : Int) = c0 at *
            go_wp2
            go_round
            case rel => exact ⟨k + 1, by omega, by go_num, by rw [HV.out]⟩
            case measure => simp [intOf]; omega
          · obtain rfl : k = n := by omega
            go_wp2
            go_ret2
            rw [List.take_of_length_le (by omega)]
            exact ⟨rfl, HB.out⟩
      · have b4 : decide ((n : Int) < (s.size : Int)) = false := decide_eq_false (by omega)
        have b5 : decide (n < s.size) = false := decide_eq_false (by omega)
        have HEQ := Aside0.mk h4
        clear h4
        go_enter Try.func105, Try.ntmps105
        go_wp2_with (first
          | (go_at_call 67; (with_reducible refine (begins_dig s (by have := HS.out; omega) _).mono ?_); rintro e w' ⟨rfl, ⟨⟨nd, rfl⟩⟩⟩; rw [HN.out])
          | ((with_reducible refine gate_dst (N := 38) rfl ?_); refine conv_bytes 9 114 5 (.tmp 37) (s.extract 0 n) Try.underlying9 Try.underlying114 Try.underlying5 (by rw [HSZ.out]; have := HS.out; omega) rfl rfl rfl ?_; intro A c w3 hcap hC hb3; rw [HBY.out, HSZ.out] at hC; rw [HSZ.out] at hcap ⊢; have HC := Aside0.mk hC; have HB := Aside0.mk (show Below w.heap.size w w3 from below_step (pw_below_drewN (Below.refl w.heap.size w) _) hb3); clear hC hb3))
        clear q0 hx0
        go_loop [3, 40] (fun v i => ∃ k : Nat, k ≤ n ∧ i = .int .i64 k ∧ v = .int .i64 (valF (((bytesOf s).take n).take k))) (fun _ i => n - (intOf i).toNat)
        case atStart => exact ⟨0, by omega, rfl, rfl⟩
        case round =>
          obtain ⟨k, hk, rfl, rfl⟩ := hrel
          have hl9 : ((bytesOf s).take n).length = n := by rw [List.length_take, bytesOf_length]; omega
          by_cases hlt : k < n
          · obtain ⟨v0, v1⟩ := valF_9 k (((bytesOf s).take n).take k) (by rw [List.length_take, hl9]; omega) (by omega) (fun c hc => HALL.out c (List.mem_of_mem_take hc))
            obtain ⟨ad, rfl, hy⟩ := Kd.at_int HC.out (k : Int) (by omega) (by omega)
            rw [Int.toNat_natCast] at hy
            have hst : ((bytesOf s).take n).take (k + 1) = ((bytesOf s).take n).take k ++ [rd ((bytesOf s).take n) k] := by
              rw [List.take_succ_eq_append_getElem (by omega), rd_atL _ k (by omega)]
            have hdg := HALL.out (rd ((bytesOf s).take n) k) (by rw [rd_atL _ k (by omega)]; exact List.getElem_mem _)
            simp only [isDig, Bool.and_eq_true, decide_eq_true_eq] at hdg
            have HV : Aside0 (valF (((bytesOf s).take n).take (k + 1)) = 10 * valF (((bytesOf s).take n).take k) + (rd ((bytesOf s).take n) k - 48)) := ⟨by rw [hst, valF_snoc]⟩
            clear hst
            generalize valF (((bytesOf s).take n).take k) = v at *
            generalize rd ((bytesOf s).take n) (k : Int) = c0 at *
            go_wp2
            go_round
            case rel => exact ⟨k + 1, by omega, by go_num, by rw [HV.out]⟩
            case measure => simp [intOf]; omega
          · obtain rfl : k = n := by omega
            go_wp2
            go_ret2
            rw [List.take_of_length_le (by omega)]
            exact ⟨rfl, HB.out⟩
  exact tl
set_option maxHeartbeats 2000000 in
set_option maxRecDepth 100000 in
theorem lex_number.bad (s : ByteArray) (hs : s.size ≤ 9223372036854775807) (w : World) (hb : badN s (bgn isDig s)) :
    Calls Try.prog 105 #[.string s] w fun e w' => e = .returned (.tuple #[.int .i64 0, .int .i64 0]) ∧ Below w.heap.size w w' := by
  have hle := bgn_le isDig s
  generalize hn : bgn isDig s = n at *
  have HN := Aside0.mk hn
  unfold badN at hb
  have HS := Aside0.mk hs
  clear hn
  by_cases h0 : n = 0
  · have b0 : ((n : Int) == 0) = true := beq_iff_eq.2 (by omega)
    clear hb
    go_enter Try.func105, Try.ntmps105
    go_wp2_with (first
      | (go_at_call 67; (with_reducible refine (begins_dig s (by have := HS.out; omega) _).mono ?_); rintro e w' ⟨rfl, ⟨⟨nd, rfl⟩⟩⟩; rw [HN.out]))
    go_ret2
    exact ⟨rfl, pw_below_drewN (Below.refl w.heap.size w) _⟩
  · have b0 : ((n : Int) == 0) = false := beq_eq_false_iff_ne.2 (by omega)
    by_cases h9 : n > 9
    · have b1 : decide (9 < (n : Int)) = true := decide_eq_true (by omega)
      clear hb
      go_enter Try.func105, Try.ntmps105
      go_wp2_with (first
        | (go_at_call 67; (with_reducible refine (begins_dig s (by have := HS.out; omega) _).mono ?_); rintro e w' ⟨rfl, ⟨⟨nd, rfl⟩⟩⟩; rw [HN.out]))
      go_ret2
      exact ⟨rfl, pw_below_drewN (Below.refl w.heap.size w) _⟩
    · have b1 : decide (9 < (n : Int)) = false := decide_eq_false (by omega)
      have q0 : (0 < s.size) = True := eq_true (by omega)
      have hx0 : ∀ h : 0 < s.size, ((s[0]'h).toNat : Int) = bt s 0 := bt_at s 0
      by_cases h1 : n > 1 ∧ bt s 0 = 48
      · have b2 : decide (1 < (n : Int)) = true := decide_eq_true (by omega)
        have b3 : (bt s 0 == 48) = true := beq_iff_eq.2 h1.2
        clear hb h1
        go_enter Try.func105, Try.ntmps105
        go_wp2_with (first
          | (go_at_call 67; (with_reducible refine (begins_dig s (by have := HS.out; omega) _).mono ?_); rintro e w' ⟨rfl, ⟨⟨nd, rfl⟩⟩⟩; rw [HN.out]))
        go_ret2
        exact ⟨rfl, pw_below_drewN (Below.refl w.heap.size w) _⟩
      · have h4 : n < s.size ∧ isIn (bt s n) = true := by
          rcases hb with h | h | h | h
          · exact absurd h h0
          · exact absurd h h9
          · exact absurd h h1
          · exact h
        have HIN := Aside0.mk h4.2
        have h5 := h4.1
        have b4 : decide ((n : Int) < (s.size : Int)) = true := decide_eq_true (by omega)
        have b5 : decide (n < s.size) = true := decide_eq_true h5
        have q4 := eq_true h5
        have hx4 : ∀ h : n < s.size, ((s[n]'h).toNat : Int) = bt s n := fun h => by have := bt_at s (n : Int); simp only [Int.toNat_natCast] at this; exact this h
        have hA : decide (1 < (n : Int)) = false ∨ (decide (1 < (n : Int)) = true ∧ (bt s 0 == 48) = false) := by
          by_cases h : n > 1
          · exact Or.inr ⟨decide_eq_true (by omega), beq_eq_false_iff_ne.2 (fun e => h1 ⟨h, e⟩)⟩
          · exact Or.inl (decide_eq_false (by omega))
        clear hb h1 h4
        rcases hA with b2 | ⟨b2, b3⟩
        · skip
          go_enter Try.func105, Try.ntmps105
          go_wp2_with (first
            | (go_at_call 67; (with_reducible refine (begins_dig s (by have := HS.out; omega) _).mono ?_); rintro e w' ⟨rfl, ⟨⟨nd, rfl⟩⟩⟩; rw [HN.out])
            | (go_at_call 68; (with_reducible refine (lex_inName.calls (bt s n) true _ (by rw [in_f, HIN.out])).mono ?_); rintro e w' ⟨rfl, ⟨⟨nd2, rfl⟩⟩⟩))
          go_ret2
          exact ⟨rfl, pw_below_drewN (Below.refl w.heap.size w) _⟩
        · skip
          go_enter Try.func105, Try.ntmps105
          go_wp2_with (first
            | (go_at_call 67; (with_reducible refine (begins_dig s (by have := HS.out; omega) _).mono ?_); rintro e w' ⟨rfl, ⟨⟨nd, rfl⟩⟩⟩; rw [HN.out])
            | (go_at_call 68; (with_reducible refine (lex_inName.calls (bt s n) true _ (by rw [in_f, HIN.out])).mono ?_); rintro e w' ⟨rfl, ⟨⟨nd2, rfl⟩⟩⟩))
          go_ret2
          exact ⟨rfl, pw_below_drewN (Below.refl w.heap.size w) _⟩
theorem lex_number.calls (s : ByteArray) (hs : s.size ≤ 9223372036854775807) (w : World) : Calls Try.prog 105 #[.string s] w fun e w' => e = .returned (.tuple #[.int .i64 (numF s).1, .int .i64 (numF s).2]) ∧ Below w.heap.size w w' := by
  unfold numF
  by_cases h : badN s (bgn isDig s)
  · rw [if_pos h]; exact lex_number.bad s hs w h
  · rw [if_neg h]; exact lex_number.good s hs w h
end


-- NOT PRINTED: function 119 (bytealg_IndexByteString)

-- NOT PRINTED: function 116 (stringslite_IndexByte)

/-! ### strings_IndexByte: function 106 -/
section
open Go
open Go.Proofs.YtpcnpmcknknfcaaW.Mine
set_option maxHeartbeats 1000000 in
set_option maxRecDepth 100000 in
theorem strings_IndexByte.inner (s : ByteArray) (c : Int) (w : World) : Calls Try.prog 116 #[.string s, .int .u8 c] w fun e w' => e = .returned (.int .i64 (Lib.indexByte s.data.toList c.toNat.toUInt8)) ∧ w' = w := by
  go_enter Try.func116, Try.ntmps116
  go_wp2
  rw [run_callFunc_extern Try.func119 (by kernel_rfl) (by kernel_rfl) (by kernel_rfl) (e := Extern.BytealgIndexByte.indexByte) (by kernel_rfl), Lib.run_indexByteString]
  simp only [Result.andThen]
  rw [Oper.upon_value]
  go_wp2
  go_ret
  exact ⟨rfl, rfl⟩
set_option maxHeartbeats 1000000 in
theorem strings_IndexByte.calls (s : ByteArray) (c : Int) (w : World) : Calls Try.prog 106 #[.string s, .int .u8 c] w fun e w' => e = .returned (.int .i64 (Lib.indexByte s.data.toList c.toNat.toUInt8)) ∧ w' = w := by
  go_enter Try.func106, Try.ntmps106
  go_wp2_with (go_at_call 116; (with_reducible refine (strings_IndexByte.inner s c _).mono ?_); rintro e w' ⟨rfl, rfl⟩)
  go_ret
  exact ⟨rfl, rfl⟩
def isMark (c : Int) : Bool := c == 44 || c == 58 || c == 60 || c == 62 || c == 61 || c == 40 || c == 41
theorem mark_idx (c : Int) (h0 : 0 ≤ c) (h1 : c ≤ 255) : decide (Lib.indexByte [44, 58, 60, 62, 61, 40, 41] c.toNat.toUInt8 ≥ 0) = isMark c := by
  obtain ⟨n, rfl⟩ := Int.eq_ofNat_of_zero_le h0
  have h : ∀ n : Fin 256, decide (Lib.indexByte [44, 58, 60, 62, 61, 40, 41] ((n.val : Int)).toNat.toUInt8 ≥ 0) = isMark (n.val : Int) := by decide +kernel
  exact h ⟨n, by omega⟩
end


/-! ### lex_scan_step: function 58 -/
section
open Go
open Go.Proofs.YtpcnpmcknknfcaaW.Mine
def StepPost (g : Nat) (w : World) (R : Int × ByteArray × Int × Int × List S40 × Bool) (e : Ending) (w' : World) : Prop :=
  e = .returned (.int .i64 R.1) ∧ ∃ v', w'.heap[g]? = some (.cells #[.string R.2.1, .int .i64 R.2.2.1, .int .i64 R.2.2.2.1, v', .bool R.2.2.2.2.2] 89 (0, 0)) ∧ Kd.R k40 40 w' (g + 1) (fun _ => True) v' R.2.2.2.2.1 ∧ Below g w w'
def stepF (s : ByteArray) (line col : Int) (told : List S40) (any : Bool) : Int × ByteArray × Int × Int × List S40 × Bool :=
  if bt s 0 = 32 ∨ bt s 0 = 9 then (0, s.extract 1 s.size, line, col + 1, told, any)
  else if bt s 0 = 35 then (0, s.extract (bgn notNl s) s.size, line, col + (bgn notNl s : Nat), told, any)
  else if bt s 0 = 10 then (0, s.extract 1 s.size, line + 1, 1, if any = true then told ++ [(⟨4, ⟨#[]⟩, 0, line, col⟩ : S40)] else told, false)
  else if isSml (bt s 0) = true then (if bgn isIn s > 24 then (4, s, line, col, told, any) else (0, s.extract (bgn isIn s) s.size, line, col + (bgn isIn s : Nat), told ++ [(⟨1, s.extract 0 (bgn isIn s), 0, line, col⟩ : S40)], true))
  else if isDig (bt s 0) = true then (if (numF s).1 = 0 then (3, s, line, col, told, any) else (0, s.extract (numF s).1.toNat s.size, line, col + (numF s).1, told ++ [(⟨2, s.extract 0 (numF s).1.toNat, (numF s).2, line, col⟩ : S40)], true))
  else if isMark (bt s 0) = true then (0, s.extract 1 s.size, line, col + 1, told ++ [(⟨3, s.extract 0 1, 0, line, col⟩ : S40)], true)
  else (3, s, line, col, told, any)
theorem numF_bd (s : ByteArray) : 0 ≤ (numF s).1 ∧ (numF s).1 ≤ s.size := by
  have := bgn_le isDig s
  unfold numF
  split <;> simp <;> omega
theorem wr_col {c n : Int} (h0 : 0 ≤ c) (h1 : c ≤ 1000000) (h2 : 0 ≤ n) (h3 : n ≤ 65536) : wrap64 (c + n) = c + n := by unfold wrap64; omega
set_option maxHeartbeats 2000000 in
set_option maxRecDepth 100000 in
theorem lex_scan_step.blank (g : Nat) (s : ByteArray) (line col : Int) (v : Value) (any : Bool) (told : List S40) (w : World) (hbk : w.heap[g]? = some (.cells #[.string s, .int .i64 line, .int .i64 col, v, .bool any] 89 (0, 0))) (hr : Kd.R k40 40 w (g + 1) (fun _ => True) v told) (hl : told.length < 140000) (h1 : 1 ≤ s.size) (hln : 0 ≤ line ∧ line ≤ 1000000) (hco : 0 ≤ col ∧ col ≤ 1000000) (hs : s.size ≤ 65536) (c : Int) (hc : bt s 0 = c) (h : c = 32) :
    Calls Try.prog 58 #[.pointer (some ⟨g, 0, none⟩)] w (StepPost g w (0, s.extract 1 s.size, line, col + 1, told, any)) := by
  have BK := Aside0.mk hbk
  have HR := Aside0.mk hr
  have hx0 : w.cell? ⟨g, 0, none⟩ = some (.string s) := (blk_cell hbk 0).trans rfl
  have q0 : (0 < s.size) = True := eq_true (by omega)
  have hb0 : ∀ h : 0 < s.size, ((s[0]'h).toNat : Int) = c := fun h => by rw [← hc]; exact bt_at s 0 h
  have HCR := Aside0.mk (hc ▸ bt_range s 0 : 0 ≤ c ∧ c ≤ 255)
  clear hbk hr
  subst h
  go_enter Try.func58, Try.ntmps58
  go_wp2_with (first
    | (go_at_call 101; (with_reducible refine (lex_scan_pass.calls g s line col v any 1 _ ?bk ?h0 ?h1).mono ?_); (case bk => exact BK.out); (case h0 => omega); (case h1 => omega); rintro e w1 ⟨rfl, hbk1, ho1⟩))
  go_ret
  refine ⟨rfl, v, ?_, Kd.R_mono (Kd.R_step (Kd.R_bound HR.out) (fun k hk _ => ho1.block k (by have := hk.2.1; omega))) (fun _ _ => trivial), ho1.below (by first | exact Below.refl g w | exact pw_below_drewN (Below.refl g w) _) (Nat.le_refl g)⟩
  rw [← wr_col hco.1 hco.2 (show (0 : Int) ≤ 1 by omega) (by omega)]
  exact hbk1
set_option maxHeartbeats 2000000 in
set_option maxRecDepth 100000 in
theorem lex_scan_step.tab (g : Nat) (s : ByteArray) (line col : Int) (v : Value) (any : Bool) (told : List S40) (w : World) (hbk : w.heap[g]? = some (.cells #[.string s, .int .i64 line, .int .i64 col, v, .bool any] 89 (0, 0))) (hr : Kd.R k40 40 w (g + 1) (fun _ => True) v told) (hl : told.length < 140000) (h1 : 1 ≤ s.size) (hln : 0 ≤ line ∧ line ≤ 1000000) (hco : 0 ≤ col ∧ col ≤ 1000000) (hs : s.size ≤ 65536) (c : Int) (hc : bt s 0 = c) (h : c = 9) :
    Calls Try.prog 58 #[.pointer (some ⟨g, 0, none⟩)] w (StepPost g w (0, s.extract 1 s.size, line, col + 1, told, any)) := by
  have BK := Aside0.mk hbk
  have HR := Aside0.mk hr
  have hx0 : w.cell? ⟨g, 0, none⟩ = some (.string s) := (blk_cell hbk 0).trans rfl
  have q0 : (0 < s.size) = True := eq_true (by omega)
  have hb0 : ∀ h : 0 < s.size, ((s[0]'h).toNat : Int) = c := fun h => by rw [← hc]; exact bt_at s 0 h
  have HCR := Aside0.mk (hc ▸ bt_range s 0 : 0 ≤ c ∧ c ≤ 255)
  clear hbk hr
  subst h
  go_enter Try.func58, Try.ntmps58
  go_wp2_with (first
    | (go_at_call 101; (with_reducible refine (lex_scan_pass.calls g s line col v any 1 _ ?bk ?h0 ?h1).mono ?_); (case bk => exact BK.out); (case h0 => omega); (case h1 => omega); rintro e w1 ⟨rfl, hbk1, ho1⟩))
  go_ret
  refine ⟨rfl, v, ?_, Kd.R_mono (Kd.R_step (Kd.R_bound HR.out) (fun k hk _ => ho1.block k (by have := hk.2.1; omega))) (fun _ _ => trivial), ho1.below (by first | exact Below.refl g w | exact pw_below_drewN (Below.refl g w) _) (Nat.le_refl g)⟩
  rw [← wr_col hco.1 hco.2 (show (0 : Int) ≤ 1 by omega) (by omega)]
  exact hbk1
set_option maxHeartbeats 2000000 in
set_option maxRecDepth 100000 in
theorem lex_scan_step.remark (g : Nat) (s : ByteArray) (line col : Int) (v : Value) (any : Bool) (told : List S40) (w : World) (hbk : w.heap[g]? = some (.cells #[.string s, .int .i64 line, .int .i64 col, v, .bool any] 89 (0, 0))) (hr : Kd.R k40 40 w (g + 1) (fun _ => True) v told) (hl : told.length < 140000) (h1 : 1 ≤ s.size) (hln : 0 ≤ line ∧ line ≤ 1000000) (hco : 0 ≤ col ∧ col ≤ 1000000) (hs : s.size ≤ 65536) (c : Int) (hc : bt s 0 = c) (h : c = 35) :
    Calls Try.prog 58 #[.pointer (some ⟨g, 0, none⟩)] w (StepPost g w (0, s.extract (bgn notNl s) s.size, line, col + (bgn notNl s : Nat), told, any)) := by
  have BK := Aside0.mk hbk
  have HR := Aside0.mk hr
  have hx0 : w.cell? ⟨g, 0, none⟩ = some (.string s) := (blk_cell hbk 0).trans rfl
  have q0 : (0 < s.size) = True := eq_true (by omega)
  have hb0 : ∀ h : 0 < s.size, ((s[0]'h).toNat : Int) = c := fun h => by rw [← hc]; exact bt_at s 0 h
  have HCR := Aside0.mk (hc ▸ bt_range s 0 : 0 ≤ c ∧ c ≤ 255)
  clear hbk hr
  subst h
  have hle := bgn_le notNl s
  go_enter Try.func58, Try.ntmps58
  go_wp2_with (first
    | (go_at_call 67; (with_reducible refine (begins_nl s (by omega) _).mono ?_); rintro e w' ⟨rfl, ⟨⟨nd, rfl⟩⟩⟩)
    | (go_at_call 101; (with_reducible refine (lex_scan_pass.calls g s line col v any (bgn notNl s : Nat) _ ?bk ?h0 ?h1).mono ?_); (case bk => exact BK.out); (case h0 => omega); (case h1 => omega); rintro e w1 ⟨rfl, hbk1, ho1⟩))
  go_ret
  refine ⟨rfl, v, ?_, Kd.R_mono (Kd.R_step (Kd.R_bound HR.out) (fun k hk _ => ho1.block k (by have := hk.2.1; omega))) (fun _ _ => trivial), ho1.below (by first | exact Below.refl g w | exact pw_below_drewN (Below.refl g w) _) (Nat.le_refl g)⟩
  rw [← wr_col hco.1 hco.2 (show (0 : Int) ≤ ((bgn notNl s : Nat) : Int) by omega) (by omega)]
  exact hbk1
set_option maxHeartbeats 2000000 in
set_option maxRecDepth 100000 in
theorem lex_scan_step.line (g : Nat) (s : ByteArray) (line col : Int) (v : Value) (any : Bool) (told : List S40) (w : World) (hbk : w.heap[g]? = some (.cells #[.string s, .int .i64 line, .int .i64 col, v, .bool any] 89 (0, 0))) (hr : Kd.R k40 40 w (g + 1) (fun _ => True) v told) (hl : told.length < 140000) (h1 : 1 ≤ s.size) (hln : 0 ≤ line ∧ line ≤ 1000000) (hco : 0 ≤ col ∧ col ≤ 1000000) (hs : s.size ≤ 65536) (c : Int) (hc : bt s 0 = c) (h : c = 10) (told2 : List S40) (ht : (if any = true then told ++ [(⟨4, ⟨#[]⟩, 0, line, col⟩ : S40)] else told) = told2) :
    Calls Try.prog 58 #[.pointer (some ⟨g, 0, none⟩)] w (StepPost g w (0, s.extract 1 s.size, line + 1, 1, told2, false)) := by
  have BK := Aside0.mk hbk
  have HR := Aside0.mk hr
  have hx0 : w.cell? ⟨g, 0, none⟩ = some (.string s) := (blk_cell hbk 0).trans rfl
  have q0 : (0 < s.size) = True := eq_true (by omega)
  have hb0 : ∀ h : 0 < s.size, ((s[0]'h).toNat : Int) = c := fun h => by rw [← hc]; exact bt_at s 0 h
  have HCR := Aside0.mk (hc ▸ bt_range s 0 : 0 ≤ c ∧ c ≤ 255)
  clear hbk hr
  subst h
  have HTT := Aside0.mk ht
  clear ht
  go_enter Try.func58, Try.ntmps58
  go_wp2_with (first
    | (go_at_call 103; (with_reducible refine (lex_scan_ends.calls g s line col v any told _ BK.out HR.out hl h1 hln hco).mono ?_); rintro e w1 ⟨rfl, v1, hbk1, hr1, hb1⟩; rw [HTT.out] at hr1))
  go_ret
  exact ⟨rfl, v1, hbk1, hr1, hb1⟩
set_option maxHeartbeats 2000000 in
set_option maxRecDepth 100000 in
theorem lex_scan_step.wordLong (g : Nat) (s : ByteArray) (line col : Int) (v : Value) (any : Bool) (told : List S40) (w : World) (hbk : w.heap[g]? = some (.cells #[.string s, .int .i64 line, .int .i64 col, v, .bool any] 89 (0, 0))) (hr : Kd.R k40 40 w (g + 1) (fun _ => True) v told) (hl : told.length < 140000) (h1 : 1 ≤ s.size) (hln : 0 ≤ line ∧ line ≤ 1000000) (hco : 0 ≤ col ∧ col ≤ 1000000) (hs : s.size ≤ 65536) (c : Int) (hc : bt s 0 = c) (h : isSml c = true) (hn : bgn isIn s > 24) :
    Calls Try.prog 58 #[.pointer (some ⟨g, 0, none⟩)] w (StepPost g w (4, s, line, col, told, any)) := by
  have BK := Aside0.mk hbk
  have HR := Aside0.mk hr
  have hx0 : w.cell? ⟨g, 0, none⟩ = some (.string s) := (blk_cell hbk 0).trans rfl
  have q0 : (0 < s.size) = True := eq_true (by omega)
  have hb0 : ∀ h : 0 < s.size, ((s[0]'h).toNat : Int) = c := fun h => by rw [← hc]; exact bt_at s 0 h
  have HCR := Aside0.mk (hc ▸ bt_range s 0 : 0 ≤ c ∧ c ≤ 255)
  clear hbk hr
  have HSM := Aside0.mk h
  simp only [isSml, Bool.and_eq_true, decide_eq_true_eq] at h
  have b32 : (c == 32) = false := beq_eq_false_iff_ne.2 (by omega)
  have b9 : (c == 9) = false := beq_eq_false_iff_ne.2 (by omega)
  have b35 : (c == 35) = false := beq_eq_false_iff_ne.2 (by omega)
  have b10 : (c == 10) = false := beq_eq_false_iff_ne.2 (by omega)
  have d0 : decide (24 < ((bgn isIn s : Nat) : Int)) = true := decide_eq_true (by omega)
  clear hc
  go_enter Try.func58, Try.ntmps58
  go_wp2_with (first
    | (go_at_call 69; (with_reducible refine (lex_small.calls c true _ (by rw [sml_f, HSM.out])).mono ?_); rintro e w' ⟨rfl, ⟨⟨nd, rfl⟩⟩⟩)
    | (go_at_call 67; (with_reducible refine (begins_in s (by omega) _).mono ?_); rintro e w' ⟨rfl, ⟨⟨nd2, rfl⟩⟩⟩))
  go_ret
  exact ⟨rfl, v, BK.out, (by first | exact HR.out | exact Kd.R_drewN HR.out _), (by first | exact Below.refl g w | exact pw_below_drewN (Below.refl g w) _)⟩
set_option maxHeartbeats 2000000 in
set_option maxRecDepth 100000 in
theorem lex_scan_step.word (g : Nat) (s : ByteArray) (line col : Int) (v : Value) (any : Bool) (told : List S40) (w : World) (hbk : w.heap[g]? = some (.cells #[.string s, .int .i64 line, .int .i64 col, v, .bool any] 89 (0, 0))) (hr : Kd.R k40 40 w (g + 1) (fun _ => True) v told) (hl : told.length < 140000) (h1 : 1 ≤ s.size) (hln : 0 ≤ line ∧ line ≤ 1000000) (hco : 0 ≤ col ∧ col ≤ 1000000) (hs : s.size ≤ 65536) (c : Int) (hc : bt s 0 = c) (h : isSml c = true) (hn : ¬ bgn isIn s > 24) :
    Calls Try.prog 58 #[.pointer (some ⟨g, 0, none⟩)] w (StepPost g w (0, s.extract (bgn isIn s) s.size, line, col + (bgn isIn s : Nat), told ++ [(⟨1, s.extract 0 (bgn isIn s), 0, line, col⟩ : S40)], true)) := by
  have BK := Aside0.mk hbk
  have HR := Aside0.mk hr
  have hx0 : w.cell? ⟨g, 0, none⟩ = some (.string s) := (blk_cell hbk 0).trans rfl
  have q0 : (0 < s.size) = True := eq_true (by omega)
  have hb0 : ∀ h : 0 < s.size, ((s[0]'h).toNat : Int) = c := fun h => by rw [← hc]; exact bt_at s 0 h
  have HCR := Aside0.mk (hc ▸ bt_range s 0 : 0 ≤ c ∧ c ≤ 255)
  clear hbk hr
  have HSM := Aside0.mk h
  simp only [isSml, Bool.and_eq_true, decide_eq_true_eq] at h
  have hle := bgn_le isIn s
  have b32 : (c == 32) = false := beq_eq_false_iff_ne.2 (by omega)
  have b9 : (c == 9) = false := beq_eq_false_iff_ne.2 (by omega)
  have b35 : (c == 35) = false := beq_eq_false_iff_ne.2 (by omega)
  have b10 : (c == 10) = false := beq_eq_false_iff_ne.2 (by omega)
  have d0 : decide (24 < ((bgn isIn s : Nat) : Int)) = false := decide_eq_false (by omega)
  clear hc
  go_enter Try.func58, Try.ntmps58
  go_wp2_with (first
    | (go_at_call 69; (with_reducible refine (lex_small.calls c true _ (by rw [sml_f, HSM.out])).mono ?_); rintro e w' ⟨rfl, ⟨⟨nd, rfl⟩⟩⟩)
    | (go_at_call 67; (with_reducible refine (begins_in s (by omega) _).mono ?_); rintro e w' ⟨rfl, ⟨⟨nd2, rfl⟩⟩⟩)
    | (go_at_call 59; (with_reducible refine (lex_scan_tell.calls g s line col v any told 1 (bgn isIn s : Nat) 0 _ ?bk ?rr hl ?h0 ?h1).mono ?_); (case bk => exact BK.out); (case rr => exact (by first | exact HR.out | exact Kd.R_drewN HR.out _)); (case h0 => omega); (case h1 => omega); rintro e w1 ⟨rfl, v1, hbk1, hr1, hb1⟩))
  go_ret
  refine ⟨rfl, v1, ?_, hr1, Below.trans (by first | exact Below.refl g w | exact pw_below_drewN (Below.refl g w) _) hb1⟩
  rw [← wr_col hco.1 hco.2 (show (0 : Int) ≤ ((bgn isIn s : Nat) : Int) by omega) (by omega)]
  exact hbk1
set_option maxHeartbeats 2000000 in
set_option maxRecDepth 100000 in
theorem lex_scan_step.numBad (g : Nat) (s : ByteArray) (line col : Int) (v : Value) (any : Bool) (told : List S40) (w : World) (hbk : w.heap[g]? = some (.cells #[.string s, .int .i64 line, .int .i64 col, v, .bool any] 89 (0, 0))) (hr : Kd.R k40 40 w (g + 1) (fun _ => True) v told) (hl : told.length < 140000) (h1 : 1 ≤ s.size) (hln : 0 ≤ line ∧ line ≤ 1000000) (hco : 0 ≤ col ∧ col ≤ 1000000) (hs : s.size ≤ 65536) (c : Int) (hc : bt s 0 = c) (h : isDig c = true) (hn : (numF s).1 = 0) :
    Calls Try.prog 58 #[.pointer (some ⟨g, 0, none⟩)] w (StepPost g w (3, s, line, col, told, any)) := by
  have BK := Aside0.mk hbk
  have HR := Aside0.mk hr
  have hx0 : w.cell? ⟨g, 0, none⟩ = some (.string s) := (blk_cell hbk 0).trans rfl
  have q0 : (0 < s.size) = True := eq_true (by omega)
  have hb0 : ∀ h : 0 < s.size, ((s[0]'h).toNat : Int) = c := fun h => by rw [← hc]; exact bt_at s 0 h
  have HCR := Aside0.mk (hc ▸ bt_range s 0 : 0 ≤ c ∧ c ≤ 255)
  clear hbk hr
  have HDG := Aside0.mk h
  have HGL := Aside0.mk (blk_lt BK.out)
  have HSM : Aside0 (isSml c = false) := ⟨by simp only [isDig, Bool.and_eq_true, decide_eq_true_eq] at h; simp only [isSml, Bool.and_eq_false_iff, decide_eq_false_iff_not]; omega⟩
  simp only [isDig, Bool.and_eq_true, decide_eq_true_eq] at h
  have b32 : (c == 32) = false := beq_eq_false_iff_ne.2 (by omega)
  have b9 : (c == 9) = false := beq_eq_false_iff_ne.2 (by omega)
  have b35 : (c == 35) = false := beq_eq_false_iff_ne.2 (by omega)
  have b10 : (c == 10) = false := beq_eq_false_iff_ne.2 (by omega)
  have d0 : ((numF s).1 == 0) = true := beq_iff_eq.2 hn
  clear hc
  go_enter Try.func58, Try.ntmps58
  go_wp2_with (first
    | (go_at_call 69; (with_reducible refine (lex_small.calls c false _ (by rw [sml_f, HSM.out])).mono ?_); rintro e w' ⟨rfl, ⟨⟨nd, rfl⟩⟩⟩)
    | (go_at_call 104; (with_reducible refine (lex_digit.calls c true _ (by rw [dig_f, HDG.out])).mono ?_); rintro e w' ⟨rfl, ⟨⟨nd2, rfl⟩⟩⟩)
    | (go_at_call 105; (with_reducible refine (lex_number.calls s (by omega) _).mono ?_); rintro e w3 ⟨rfl, hb3⟩; have HB3 := Aside0.mk (show Below w.heap.size w w3 from below_step (pw_below_drewN (Below.refl w.heap.size w) _) hb3); clear hb3))
  go_ret
  exact ⟨rfl, v, blk_below BK.out HB3.out, Kd.R_below HR.out HB3.out, HB3.out.mono (Nat.le_of_lt HGL.out)⟩
set_option maxHeartbeats 2000000 in
set_option maxRecDepth 100000 in
theorem lex_scan_step.num (g : Nat) (s : ByteArray) (line col : Int) (v : Value) (any : Bool) (told : List S40) (w : World) (hbk : w.heap[g]? = some (.cells #[.string s, .int .i64 line, .int .i64 col, v, .bool any] 89 (0, 0))) (hr : Kd.R k40 40 w (g + 1) (fun _ => True) v told) (hl : told.length < 140000) (h1 : 1 ≤ s.size) (hln : 0 ≤ line ∧ line ≤ 1000000) (hco : 0 ≤ col ∧ col ≤ 1000000) (hs : s.size ≤ 65536) (c : Int) (hc : bt s 0 = c) (h : isDig c = true) (hn : ¬ (numF s).1 = 0) :
    Calls Try.prog 58 #[.pointer (some ⟨g, 0, none⟩)] w (StepPost g w (0, s.extract (numF s).1.toNat s.size, line, col + (numF s).1, told ++ [(⟨2, s.extract 0 (numF s).1.toNat, (numF s).2, line, col⟩ : S40)], true)) := by
  have BK := Aside0.mk hbk
  have HR := Aside0.mk hr
  have hx0 : w.cell? ⟨g, 0, none⟩ = some (.string s) := (blk_cell hbk 0).trans rfl
  have q0 : (0 < s.size) = True := eq_true (by omega)
  have hb0 : ∀ h : 0 < s.size, ((s[0]'h).toNat : Int) = c := fun h => by rw [← hc]; exact bt_at s 0 h
  have HCR := Aside0.mk (hc ▸ bt_range s 0 : 0 ≤ c ∧ c ≤ 255)
  clear hbk hr
  have HDG := Aside0.mk h
  have HGL := Aside0.mk (blk_lt BK.out)
  have HSM : Aside0 (isSml c = false) := ⟨by simp only [isDig, Bool.and_eq_true, decide_eq_true_eq] at h; simp only [isSml, Bool.and_eq_false_iff, decide_eq_false_iff_not]; omega⟩
  simp only [isDig, Bool.and_eq_true, decide_eq_true_eq] at h
  have b32 : (c == 32) = false := beq_eq_false_iff_ne.2 (by omega)
  have b9 : (c == 9) = false := beq_eq_false_iff_ne.2 (by omega)
  have b35 : (c == 35) = false := beq_eq_false_iff_ne.2 (by omega)
  have b10 : (c == 10) = false := beq_eq_false_iff_ne.2 (by omega)
  have d0 : ((numF s).1 == 0) = false := beq_eq_false_iff_ne.2 hn
  obtain ⟨hn0, hn1⟩ := numF_bd s
  clear hc
  go_enter Try.func58, Try.ntmps58
  go_wp2_with (first
    | (go_at_call 69; (with_reducible refine (lex_small.calls c false _ (by rw [sml_f, HSM.out])).mono ?_); rintro e w' ⟨rfl, ⟨⟨nd, rfl⟩⟩⟩)
    | (go_at_call 104; (with_reducible refine (lex_digit.calls c true _ (by rw [dig_f, HDG.out])).mono ?_); rintro e w' ⟨rfl, ⟨⟨nd2, rfl⟩⟩⟩)
    | (go_at_call 105; (with_reducible refine (lex_number.calls s (by omega) _).mono ?_); rintro e w3 ⟨rfl, hb3⟩; have HB3 := Aside0.mk (show Below w.heap.size w w3 from below_step (pw_below_drewN (Below.refl w.heap.size w) _) hb3); clear hb3)
    | (go_at_call 59; (with_reducible refine (lex_scan_tell.calls g s line col v any told 2 (numF s).1 (numF s).2 _ ?bk ?rr hl ?h0 ?h1).mono ?_); (case bk => exact (blk_below BK.out HB3.out)); (case rr => exact (Kd.R_below HR.out HB3.out)); (case h0 => omega); (case h1 => omega); rintro e w1 ⟨rfl, v1, hbk1, hr1, hb1⟩))
  go_ret
  refine ⟨rfl, v1, ?_, hr1, (HB3.out.mono (Nat.le_of_lt HGL.out)).trans hb1⟩
  rw [← wr_col hco.1 hco.2 (show (0 : Int) ≤ (numF s).1 by omega) (by omega)]
  exact hbk1
set_option maxHeartbeats 2000000 in
set_option maxRecDepth 100000 in
theorem lex_scan_step.mark (g : Nat) (s : ByteArray) (line col : Int) (v : Value) (any : Bool) (told : List S40) (w : World) (hbk : w.heap[g]? = some (.cells #[.string s, .int .i64 line, .int .i64 col, v, .bool any] 89 (0, 0))) (hr : Kd.R k40 40 w (g + 1) (fun _ => True) v told) (hl : told.length < 140000) (h1 : 1 ≤ s.size) (hln : 0 ≤ line ∧ line ≤ 1000000) (hco : 0 ≤ col ∧ col ≤ 1000000) (hs : s.size ≤ 65536) (c : Int) (hc : bt s 0 = c) (h32 : ¬ c = 32) (h9 : ¬ c = 9) (h35 : ¬ c = 35) (h10 : ¬ c = 10) (hsm : isSml c = false) (hdg : isDig c = false) (hm : isMark c = true) :
    Calls Try.prog 58 #[.pointer (some ⟨g, 0, none⟩)] w (StepPost g w (0, s.extract 1 s.size, line, col + 1, told ++ [(⟨3, s.extract 0 1, 0, line, col⟩ : S40)], true)) := by
  have BK := Aside0.mk hbk
  have HR := Aside0.mk hr
  have hx0 : w.cell? ⟨g, 0, none⟩ = some (.string s) := (blk_cell hbk 0).trans rfl
  have q0 : (0 < s.size) = True := eq_true (by omega)
  have hb0 : ∀ h : 0 < s.size, ((s[0]'h).toNat : Int) = c := fun h => by rw [← hc]; exact bt_at s 0 h
  have HCR := Aside0.mk (hc ▸ bt_range s 0 : 0 ≤ c ∧ c ≤ 255)
  clear hbk hr
  have HSM : Aside0 (isSml c = false) := ⟨hsm⟩
  have HDG : Aside0 (isDig c = false) := ⟨hdg⟩
  have b32 : (c == 32) = false := beq_eq_false_iff_ne.2 h32
  have b9 : (c == 9) = false := beq_eq_false_iff_ne.2 h9
  have b35 : (c == 35) = false := beq_eq_false_iff_ne.2 h35
  have b10 : (c == 10) = false := beq_eq_false_iff_ne.2 h10
  have hmk := mark_idx c HCR.out.1 HCR.out.2
  rw [hm] at hmk
  clear hc
  go_enter Try.func58, Try.ntmps58
  go_wp2_with (first
    | (go_at_call 69; (with_reducible refine (lex_small.calls c false _ (by rw [sml_f, HSM.out])).mono ?_); rintro e w' ⟨rfl, ⟨⟨nd, rfl⟩⟩⟩)
    | (go_at_call 104; (with_reducible refine (lex_digit.calls c false _ (by rw [dig_f, HDG.out])).mono ?_); rintro e w' ⟨rfl, ⟨⟨nd2, rfl⟩⟩⟩)
    | (go_at_call 106; (with_reducible refine (strings_IndexByte.calls _ c _).mono ?_); rintro e w' ⟨rfl, rfl⟩)
    | (go_at_call 59; (with_reducible refine (lex_scan_tell.calls g s line col v any told 3 1 0 _ ?bk ?rr hl ?h0 ?h1).mono ?_); (case bk => exact BK.out); (case rr => exact (by first | exact HR.out | exact Kd.R_drewN HR.out _)); (case h0 => omega); (case h1 => omega); rintro e w1 ⟨rfl, v1, hbk1, hr1, hb1⟩))
  go_ret
  refine ⟨rfl, v1, ?_, hr1, Below.trans (by first | exact Below.refl g w | exact pw_below_drewN (Below.refl g w) _) hb1⟩
  rw [← wr_col hco.1 hco.2 (show (0 : Int) ≤ 1 by omega) (by omega)]
  exact hbk1
set_option maxHeartbeats 2000000 in
set_option maxRecDepth 100000 in
theorem lex_scan_step.other (g : Nat) (s : ByteArray) (line col : Int) (v : Value) (any : Bool) (told : List S40) (w : World) (hbk : w.heap[g]? = some (.cells #[.string s, .int .i64 line, .int .i64 col, v, .bool any] 89 (0, 0))) (hr : Kd.R k40 40 w (g + 1) (fun _ => True) v told) (hl : told.length < 140000) (h1 : 1 ≤ s.size) (hln : 0 ≤ line ∧ line ≤ 1000000) (hco : 0 ≤ col ∧ col ≤ 1000000) (hs : s.size ≤ 65536) (c : Int) (hc : bt s 0 = c) (h32 : ¬ c = 32) (h9 : ¬ c = 9) (h35 : ¬ c = 35) (h10 : ¬ c = 10) (hsm : isSml c = false) (hdg : isDig c = false) (hm : isMark c = false) :
    Calls Try.prog 58 #[.pointer (some ⟨g, 0, none⟩)] w (StepPost g w (3, s, line, col, told, any)) := by
  have BK := Aside0.mk hbk
  have HR := Aside0.mk hr
  have hx0 : w.cell? ⟨g, 0, none⟩ = some (.string s) := (blk_cell hbk 0).trans rfl
  have q0 : (0 < s.size) = True := eq_true (by omega)
  have hb0 : ∀ h : 0 < s.size, ((s[0]'h).toNat : Int) = c := fun h => by rw [← hc]; exact bt_at s 0 h
  have HCR := Aside0.mk (hc ▸ bt_range s 0 : 0 ≤ c ∧ c ≤ 255)
  clear hbk hr
  have HSM : Aside0 (isSml c = false) := ⟨hsm⟩
  have HDG : Aside0 (isDig c = false) := ⟨hdg⟩
  have b32 : (c == 32) = false := beq_eq_false_iff_ne.2 h32
  have b9 : (c == 9) = false := beq_eq_false_iff_ne.2 h9
  have b35 : (c == 35) = false := beq_eq_false_iff_ne.2 h35
  have b10 : (c == 10) = false := beq_eq_false_iff_ne.2 h10
  have hmk := mark_idx c HCR.out.1 HCR.out.2
  rw [hm] at hmk
  clear hc
  go_enter Try.func58, Try.ntmps58
  go_wp2_with (first
    | (go_at_call 69; (with_reducible refine (lex_small.calls c false _ (by rw [sml_f, HSM.out])).mono ?_); rintro e w' ⟨rfl, ⟨⟨nd, rfl⟩⟩⟩)
    | (go_at_call 104; (with_reducible refine (lex_digit.calls c false _ (by rw [dig_f, HDG.out])).mono ?_); rintro e w' ⟨rfl, ⟨⟨nd2, rfl⟩⟩⟩)
    | (go_at_call 106; (with_reducible refine (strings_IndexByte.calls _ c _).mono ?_); rintro e w' ⟨rfl, rfl⟩))
  go_ret
  exact ⟨rfl, v, BK.out, (by first | exact HR.out | exact Kd.R_drewN HR.out _), (by first | exact Below.refl g w | exact pw_below_drewN (Below.refl g w) _)⟩
theorem lex_scan_step.calls (g : Nat) (s : ByteArray) (line col : Int) (v : Value) (any : Bool) (told : List S40) (w : World) (hbk : w.heap[g]? = some (.cells #[.string s, .int .i64 line, .int .i64 col, v, .bool any] 89 (0, 0))) (hr : Kd.R k40 40 w (g + 1) (fun _ => True) v told) (hl : told.length < 140000) (h1 : 1 ≤ s.size) (hln : 0 ≤ line ∧ line ≤ 1000000) (hco : 0 ≤ col ∧ col ≤ 1000000) (hs : s.size ≤ 65536) : Calls Try.prog 58 #[.pointer (some ⟨g, 0, none⟩)] w (StepPost g w (stepF s line col told any)) := by
  unfold stepF
  by_cases c1 : bt s 0 = 32 ∨ bt s 0 = 9
  · rw [if_pos c1]
    rcases c1 with h | h
    · exact lex_scan_step.blank g s line col v any told w hbk hr hl h1 hln hco hs _ rfl h
    · exact lex_scan_step.tab g s line col v any told w hbk hr hl h1 hln hco hs _ rfl h
  · rw [if_neg c1]
    by_cases c2 : bt s 0 = 35
    · rw [if_pos c2]; exact lex_scan_step.remark g s line col v any told w hbk hr hl h1 hln hco hs _ rfl c2
    · rw [if_neg c2]
      by_cases c3 : bt s 0 = 10
      · rw [if_pos c3]; exact lex_scan_step.line g s line col v any told w hbk hr hl h1 hln hco hs _ rfl c3 _ rfl
      · rw [if_neg c3]
        by_cases c4 : isSml (bt s 0) = true
        · rw [if_pos c4]
          by_cases c5 : bgn isIn s > 24
          · rw [if_pos c5]; exact lex_scan_step.wordLong g s line col v any told w hbk hr hl h1 hln hco hs _ rfl c4 c5
          · rw [if_neg c5]; exact lex_scan_step.word g s line col v any told w hbk hr hl h1 hln hco hs _ rfl c4 c5
        · rw [if_neg c4]
          by_cases c6 : isDig (bt s 0) = true
          · rw [if_pos c6]
            by_cases c7 : (numF s).1 = 0
            · rw [if_pos c7]; exact lex_scan_step.numBad g s line col v any told w hbk hr hl h1 hln hco hs _ rfl c6 c7
            · rw [if_neg c7]; exact lex_scan_step.num g s line col v any told w hbk hr hl h1 hln hco hs _ rfl c6 c7
          · rw [if_neg c6]
            have n1 := fun h => c1 (Or.inl h)
            have n2 := fun h => c1 (Or.inr h)
            by_cases c8 : isMark (bt s 0) = true
            · rw [if_pos c8]; exact lex_scan_step.mark g s line col v any told w hbk hr hl h1 hln hco hs _ rfl n1 n2 c2 c3 (Bool.eq_false_iff.mpr c4) (Bool.eq_false_iff.mpr c6) c8
            · rw [if_neg c8]; exact lex_scan_step.other g s line col v any told w hbk hr hl h1 hln hco hs _ rfl n1 n2 c2 c3 (Bool.eq_false_iff.mpr c4) (Bool.eq_false_iff.mpr c6) (Bool.eq_false_iff.mpr c8)
end


end Go.Proofs.Ytpcnpmcknknfcaa.PLsh
