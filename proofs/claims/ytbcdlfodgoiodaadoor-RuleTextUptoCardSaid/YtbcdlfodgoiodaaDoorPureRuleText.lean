/- RuleText: the line of any rule (names of at most 2 ^ 20 letters each). -/
import Derived.Test.YtbcdlfodgoiodaaDoorPureRuleT
import Derived.Test.YtbcdlfodgoiodaaDoorPRtxx7
import Derived.Lib.ItoaMem
namespace Go.Proofs.YtbcdlfodgoiodaaDoor.PRtx
open Go.RowKit Go.Proofs.YtbcdlfodgoiodaaDoorW.PrintWords Go.Proofs.YtbcdlfodgoiodaaDoorW.PrintLast
set_option linter.unusedVariables false
def bs (l : List UInt8) : ByteArray := ⟨l.toArray⟩
theorem bs_app (x y : List UInt8) : bs x ++ bs y = bs (x ++ y) := by
  unfold bs
  apply ByteArray.ext
  simp
theorem bs_size (x : List UInt8) : (bs x).size = x.length := by simp [bs, ByteArray.size]
theorem bs_data (x : ByteArray) : bs x.data.toList = x := by unfold bs; apply ByteArray.ext; simp
theorem app_assoc3 (x y z : ByteArray) : (x ++ y) ++ z = x ++ (y ++ z) := ByteArray.append_assoc
theorem digits_ev : ∀ n : Nat, n ≤ 999999999 → Ev (fun k => provostref06_Digits.f k (n : Int)) (bs (Lib.decDigits n)) := by
  intro n
  induction n using Nat.strongRecOn with
  | _ n ih =>
    intro hn
    refine ev_succ ?_
    simp only [provostref06_Digits.f]
    by_cases h : n < 10
    · refine ev_pos (by omega) (ev_some ?_)
      have : ∀ n : Nat, n < 10 → strOfNums [wrap64 (48 + (n : Int)) % 256] = bs [UInt8.ofNat (48 + n)] := by decide +kernel
      rw [this n h, Lib.decDigits_one h]
    · have e1 : wrap64 (Int.tdiv (n : Int) 10) = ((n / 10 : Nat) : Int) := by
        rw [show (10 : Int) = ((10 : Nat) : Int) from rfl, ← Int.ofNat_tdiv]; unfold wrap64; omega
      have e2 : Int.tmod (n : Int) 10 = ((n % 10 : Nat) : Int) := by
        rw [show (10 : Int) = ((10 : Nat) : Int) from rfl, ← Int.ofNat_tmod]
      refine ev_neg (by omega) ?_
      rw [e1, e2]
      have i2 := ih (n / 10) (by omega) (by omega)
      have hs : ∀ d : Nat, d < 10 → strOfNums [wrap64 (48 + (d : Int)) % 256] = bs [UInt8.ofNat (48 + d)] := by decide +kernel
      refine Ev.bind i2 ?_
      simp only [Option.bind_some]
      rw [hs (n % 10) (by omega)]
      have hl : (Lib.decDigits (n / 10)).length ≤ 20 := by rw [Lib.decDigits_length]; exact Lib.nDigits_le20 _ (by omega)
      refine ev_pos (by rw [bs_size, bs_size]; simp; omega) (ev_some ?_)
      have e3 : Lib.decDigits n = Lib.decDigits (n / 10) ++ [UInt8.ofNat (48 + n % 10)] := by rw [Lib.decDigits]; exact dif_neg h
      rw [bs_app, e3]
/-- the line so far -/
def accT (HD : ByteArray) (s : List Int) (nm : List ByteArray) : Nat → ByteArray
  | 0 => HD
  | j + 1 => if j = 0 then (accT HD s nm j ++ (⟨#[32]⟩ : ByteArray)) ++ rdOf ByteArray.empty nm (rd s (j : Int)) else ((accT HD s nm j ++ (⟨#[44]⟩ : ByteArray)) ++ (⟨#[32]⟩ : ByteArray)) ++ rdOf ByteArray.empty nm (rd s (j : Int))
theorem nm_size {nm : List ByteArray} (hb : ∀ x ∈ nm, x.size ≤ 1048576) (i : Int) : (rdOf ByteArray.empty nm i).size ≤ 1048576 := by
  unfold rdOf
  rw [List.getD_eq_getElem?_getD]
  cases h : nm[i.toNat]? with
  | none => exact Nat.zero_le _
  | some x => exact hb x (List.mem_of_getElem? h)
theorem acc_size (HD : ByteArray) (s : List Int) (nm : List ByteArray) (hH : HD.size ≤ 100) (hb : ∀ x ∈ nm, x.size ≤ 1048576) : ∀ j, (accT HD s nm j).size ≤ 100 + j * 1048580
  | 0 => by simpa [accT] using hH
  | j + 1 => by
    have ih := acc_size HD s nm hH hb j
    have hn := nm_size hb (rd s (j : Int))
    have e1 : (⟨#[32]⟩ : ByteArray).size = 1 := rfl
    have e2 : (⟨#[44]⟩ : ByteArray).size = 1 := rfl
    rw [accT]
    split
    · rw [ByteArray.size_append, ByteArray.size_append]; omega
    · rw [ByteArray.size_append, ByteArray.size_append, ByteArray.size_append]; omega
theorem text_l0 (K k : Int) (s : List Int) (nm : List ByteArray) (HD : ByteArray) (hH : HD.size ≤ 100) (hs30 : s.length ≤ 30) (hs : ∀ x ∈ s, 0 ≤ x ∧ x < (nm.length : Int)) (hb : ∀ x ∈ nm, x.size ≤ 1048576) :
    ∀ (d j : Nat), s.length - j = d → j ≤ s.length → Ev (fun m => provostref06_Text.l0 m nm (accT HD s nm j) (j : Int) K k s) (accT HD s nm s.length) := by
  intro d
  induction d with
  | zero =>
    intro j hd hj
    refine ev_succ ?_
    simp only [provostref06_Text.l0]
    refine ev_neg (by omega) (ev_some ?_)
    rw [show j = s.length by omega]
  | succ d ih =>
    intro j hd hj
    have hlt : j < s.length := by omega
    have nx := ih (j + 1) (by omega) (by omega)
    have hsz := acc_size HD s nm hH hb j
    have hj2 : j * 1048580 ≤ 30 * 1048580 := Nat.mul_le_mul_right _ (by omega)
    have hn := nm_size hb (rd s (j : Int))
    have hr : rd s (j : Int) = s[j] := rc_rd_i s j hlt
    obtain ⟨h0, h1⟩ := hs s[j] (List.getElem_mem hlt)
    rw [← hr] at h0 h1
    have e1 : (⟨#[32]⟩ : ByteArray).size = 1 := rfl
    have e2 : (⟨#[44]⟩ : ByteArray).size = 1 := rfl
    refine ev_succ ?_
    simp only [provostref06_Text.l0]
    rw [accT, Int.natCast_add] at nx
    refine ev_pos (by omega) ?_
    by_cases hz : j = 0
    · rw [if_pos hz] at nx
      refine ev_neg (by omega) (ev_pos (by omega) (ev_pos (by omega) (ev_pos h0 (ev_pos h1 (ev_pos (by rw [ByteArray.size_append]; omega) ?_)))))
      simp only [wr (show -9223372036854775808 ≤ (j : Int) + 1 by omega) (by omega)]
      exact nx
    · rw [if_neg hz] at nx
      refine ev_pos (by omega) (ev_pos (by omega) (ev_pos (by rw [ByteArray.size_append]; omega) (ev_pos (by omega) (ev_pos h0 (ev_pos h1 (ev_pos (by rw [ByteArray.size_append, ByteArray.size_append]; omega) ?_))))))
      simp only [wr (show -9223372036854775808 ≤ (j : Int) + 1 by omega) (by omega)]
      exact nx
theorem join_snoc (sep y : List UInt8) : ∀ xs : List (List UInt8), xs ≠ [] → Lib.join (xs ++ [y]) sep = Lib.join xs sep ++ (sep ++ y)
  | [], h => absurd rfl h
  | x :: r, _ => by
    rw [List.cons_append, Lib.join_cons, Lib.join_cons]
    simp [Lib.joinTail]
theorem acc_join (HD : ByteArray) (s : List Int) (nm : List ByteArray) : ∀ j, j < s.length → accT HD s nm (j + 1) = (HD ++ (⟨#[32]⟩ : ByteArray)) ++ bs (Lib.join (((s.take (j + 1)).map (rdOf ByteArray.empty nm)).map (·.data.toList)) [44, 32])
  | 0, h => by
    rw [accT, if_pos rfl, accT, List.take_succ_eq_append_getElem h, List.take_zero, List.nil_append]
    simp only [List.map_cons, List.map_nil]
    rw [Lib.join_one, bs_data, rc_rd_i s 0 h]
  | j + 1, h => by
    have ih := acc_join HD s nm j (by omega)
    rw [accT, if_neg (by omega), ih, List.take_succ_eq_append_getElem h, List.map_append, List.map_append]
    simp only [List.map_cons, List.map_nil]
    rw [join_snoc _ _ _ (by
      intro e
      have := congrArg List.length e
      rw [List.length_map, List.length_map, List.length_take, List.length_nil] at this
      omega), rc_rd_i s (j + 1) h]
    rw [← bs_app, ← bs_app, bs_data, show bs [44, 32] = (⟨#[44]⟩ : ByteArray) ++ (⟨#[32]⟩ : ByteArray) from rfl]
    simp only [ByteArray.append_assoc]
theorem reftext_ev (K k : Int) (s : List Int) (nm : List ByteArray) (hs30 : s.length ≤ 30) (hb : ∀ x ∈ nm, x.size ≤ 1048576) (hc : rc_chk (nm.length : Int) K k s = true) :
    Ev (fun m => provostref06_Text.f m K k s nm) (rule_Text.txt K k s nm) := by
  obtain ⟨_, hK, hs⟩ := rc_chk_facts hc
  obtain ⟨hs0, hk0, hk1⟩ := rc_chk_more hc
  have hl : 0 < s.length := List.length_pos_iff.2 hs0
  have fin : ∀ HD : ByteArray, HD = rule_Text.hd K k → HD.size ≤ 100 → Ev (fun m => provostref06_Text.j0 m nm HD K k s) (rule_Text.txt K k s nm) := by
    intro HD e hH
    refine ev_succ ?_
    simp only [provostref06_Text.j0]
    have h := text_l0 K k s nm HD hH hs30 hs hb s.length 0 (by omega) (by omega)
    have e2 := acc_join HD s nm (s.length - 1) (by omega)
    rw [show s.length - 1 + 1 = s.length by omega, List.take_length] at e2
    rw [e2] at h
    unfold rule_Text.txt rule_Text.tail rule_Text.pick
    rw [← e]
    exact h
  have hki : k ≤ 999999999 := by omega
  obtain ⟨n, rfl⟩ := Int.eq_ofNat_of_zero_le hk0
  have hnum : rule_Text.num (n : Int) = bs (Lib.decDigits n) := by unfold rule_Text.num; rw [Lib.itoa_nonneg]; rfl
  have hnl : (Lib.decDigits n).length ≤ 20 := by rw [Lib.decDigits_length]; exact Lib.nDigits_le20 _ (by omega)
  have hkk : (K = 1 ∨ K = 2) ∧ (n : Int) = 0 ∨ (K = 3 ∨ K = 4 ∨ K = 5) ∧ 0 < (n : Int) := by
    unfold rc_chk at hc
    simp only [Bool.and_eq_true] at hc
    have hk := hc.2
    unfold rc_kindOk at hk
    by_cases h1 : K = 1 ∨ K = 2
    · rw [if_pos h1, decide_eq_true_iff] at hk; exact .inl ⟨h1, hk.1⟩
    · rw [if_neg h1] at hk
      by_cases h3 : K = 3 ∨ K = 4
      · rw [if_pos h3, decide_eq_true_iff] at hk; exact .inr ⟨by omega, by omega⟩
      · rw [if_neg h3] at hk
        by_cases h5 : K = 5
        · rw [if_pos h5, decide_eq_true_iff] at hk; exact .inr ⟨by omega, by omega⟩
        · rw [if_neg h5] at hk; cases hk
  unfold provostref06_Text.f
  simp only [Option.bind_some]
  rcases hkk with ⟨h1, h2⟩ | ⟨h1, h2⟩
  · have hh : rule_Text.hd K (n : Int) = rule_Text.wrd K := by unfold rule_Text.hd; rw [if_neg (by omega)]
    rcases h1 with rfl | rfl
    all_goals
      refine ev_pos (by omega) (ev_pos (by simp) (ev_neg (by omega) (fin _ ?_ (by decide))))
      rw [hh]; rfl
  · have hh : ∀ wd : ByteArray, wd = rule_Text.wrd K → ((wd ++ (⟨#[32]⟩ : ByteArray)) ++ bs (Lib.decDigits n)) ++ (⟨#[32, 111, 102]⟩ : ByteArray) = rule_Text.hd K (n : Int) := by
      intro wd e
      unfold rule_Text.hd
      rw [if_pos h2, e, hnum, app_assoc3, app_assoc3, app_assoc3]
    have go : ∀ wd : ByteArray, wd = rule_Text.wrd K → wd.size ≤ 5 → Ev (fun m => if wd.size + 1 ≤ 9223372036854775807 then ((provostref06_Digits.f m (n : Int)).bind fun t => (if (wd ++ (⟨#[32]⟩ : ByteArray)).size + t.size ≤ 9223372036854775807 then (if ((wd ++ (⟨#[32]⟩ : ByteArray)) ++ t).size + 3 ≤ 9223372036854775807 then (provostref06_Text.j0 m nm (((wd ++ (⟨#[32]⟩ : ByteArray)) ++ t) ++ (⟨#[32, 111, 102]⟩ : ByteArray)) K (n : Int) s) else (none)) else (none))) else (none)) (rule_Text.txt K (n : Int) s nm) := by
      intro wd e hw
      have e1 : (⟨#[32]⟩ : ByteArray).size = 1 := rfl
      have e3 : (⟨#[32, 111, 102]⟩ : ByteArray).size = 3 := rfl
      refine ev_pos (by omega) (Ev.bind (digits_ev n (by omega)) (ev_pos ?_ (ev_pos ?_ (fin _ (hh wd e) ?_))))
      · rw [ByteArray.size_append, bs_size]; omega
      · rw [ByteArray.size_append, ByteArray.size_append, bs_size]; omega
      · rw [ByteArray.size_append, ByteArray.size_append, ByteArray.size_append, bs_size]; omega
    rcases h1 with rfl | rfl | rfl
    all_goals
      refine ev_pos (by omega) (ev_pos (by simp) (ev_pos (by omega) ?_))
      exact go _ rfl (by decide)
theorem ev_fin {α : Type} (g : Nat → Nat → Option α) (r : Nat → α) : ∀ n : Nat, (∀ j, j < n → Ev (g j) (r j)) → ∃ K, ∀ k, K ≤ k → ∀ j, j < n → g j k = some (r j)
  | 0, _ => ⟨0, fun _ _ j h => absurd h (by omega)⟩
  | n + 1, h => by
    obtain ⟨K, hK⟩ := ev_fin g r n (fun j hj => h j (by omega))
    obtain ⟨K2, h2⟩ := h n (by omega)
    refine ⟨max K K2, fun k hk j hj => ?_⟩
    by_cases e : j = n
    · subst e; exact h2 k (by omega)
    · exact hK k (by omega) j (by omega)
theorem join_len2 (B : Nat) : ∀ l : List (List UInt8), (∀ x ∈ l, x.length ≤ B) → (Lib.join l [44, 32]).length ≤ l.length * (B + 2)
  | [], _ => by simp [Lib.join_nil]
  | [x], h => by
    have := h x (by simp)
    rw [Lib.join_one]; simp; omega
  | x :: y :: r, h => by
    have h1 := h x (by simp)
    have ih := join_len2 B (y :: r) (fun z hz => h z (List.mem_cons_of_mem _ hz))
    rw [Lib.join_cons] at ih ⊢
    simp only [Lib.joinTail, List.map_cons, List.flatten_cons, List.length_append, List.length_cons, List.length_nil, Nat.add_mul] at ih ⊢
    omega
theorem text_walk (n0 : Int) (A1 : Option Addr) (c1 : Nat) (l1 : List S53) (A2 : Option Addr) (c2 : Nat) (l2 : List Int) (A3 : Option Addr) (c3 : Nat) (l3 : List ByteArray) (w : World)
    (hr1 : Kd.C k53 w A1 l1.length l1) (hc1 : l1.length ≤ c1) (hr3 : Kd.C Kd.string w A3 l3.length l3) (hc3 : l3.length ≤ c3) (hl : l1.length ≤ 9223372036854775807) (hb3 : ∀ x ∈ l3, x.size ≤ 1048576) (hT : Go.Proofs.YtbcdlfodgoiodaaDoorW.Tab.TabW w) :
    Calls Tryd.prog 6 #[.agg #[.int .i64 n0, .slice A1 l1.length c1, .slice A2 l2.length c2, .slice A3 l3.length c3]] w fun e w' => e = .returned (.bool true) ∧ Below w.heap.size w w' := by
  obtain ⟨tw, htw⟩ : ∃ tw, tw = twinS l1 := ⟨_, rfl⟩
  have hl60 : tw.length ≤ 60 := by rw [htw]; unfold twinS; simp; omega
  have hsh : ∀ x ∈ tw, x.f2.length ≤ 30 := by
    rw [htw]
    intro x hx
    unfold twinS at hx
    obtain ⟨y, _, rfl⟩ := List.mem_map.1 hx
    unfold cutS
    rw [List.length_take]; omega
  obtain ⟨nm, hnm⟩ : ∃ nm, nm = l3.take 20 := ⟨_, rfl⟩
  have hb : ∀ x ∈ nm, x.size ≤ 1048576 := fun x hx => hb3 x (by rw [hnm] at hx; exact List.mem_of_mem_take hx)
  have hel : ∀ j, j < tw.length → (rd_T53 tw (j : Int)).f2.length ≤ 30 := fun j hj => by rw [rd_T tw j hj]; exact hsh _ (List.getElem_mem hj)
  obtain ⟨K1, h1⟩ := twin_ev l1 hl
  obtain ⟨K2, h2⟩ := ev_fin (fun j m => provostref06_Check.f m (nm.length : Int) (rd_T53 tw (j : Int)).f0 (rd_T53 tw (j : Int)).f1 (rd_T53 tw (j : Int)).f2) (fun j => rc_chk (nm.length : Int) (rd_T53 tw (j : Int)).f0 (rd_T53 tw (j : Int)).f1 (rd_T53 tw (j : Int)).f2) tw.length (fun j hj => refcheck_ev _ _ _ _ (by have := hel j hj; omega))
  obtain ⟨K3, h3⟩ := ev_fin (fun j m => if rc_chk (nm.length : Int) (rd_T53 tw (j : Int)).f0 (rd_T53 tw (j : Int)).f1 (rd_T53 tw (j : Int)).f2 = true then provostref06_Text.f m (rd_T53 tw (j : Int)).f0 (rd_T53 tw (j : Int)).f1 (rd_T53 tw (j : Int)).f2 nm else some ⟨#[]⟩)
    (fun j => if rc_chk (nm.length : Int) (rd_T53 tw (j : Int)).f0 (rd_T53 tw (j : Int)).f1 (rd_T53 tw (j : Int)).f2 = true then rule_Text.txt (rd_T53 tw (j : Int)).f0 (rd_T53 tw (j : Int)).f1 (rd_T53 tw (j : Int)).f2 nm else ⟨#[]⟩) tw.length (fun j hj => by
      by_cases hc : rc_chk (nm.length : Int) (rd_T53 tw (j : Int)).f0 (rd_T53 tw (j : Int)).f1 (rd_T53 tw (j : Int)).f2 = true
      · simp only [if_pos hc]; exact reftext_ev _ _ _ _ (hel j hj) hb hc
      · simp only [if_neg hc]; exact Ev.now _)
  obtain ⟨K4, h4⟩ := wakes_ev
  refine provostlaw06_RuleText.walk n0 A1 c1 l1 A2 c2 l2 A3 c3 l3 nm w hr1 hc1 hr3 hc3 hnm (max (max K1 K2) (max K3 K4)) tw ⟨by rw [htw]; exact h1 _ (by omega)⟩ hl60
    (fun j => if rc_chk (nm.length : Int) (rd_T53 tw (j : Int)).f0 (rd_T53 tw (j : Int)).f1 (rd_T53 tw (j : Int)).f2 = true then rule_Text.txt (rd_T53 tw (j : Int)).f0 (rd_T53 tw (j : Int)).f1 (rd_T53 tw (j : Int)).f2 nm else ⟨#[]⟩)
    (fun j => if rc_chk (nm.length : Int) (rd_T53 tw (j : Int)).f0 (rd_T53 tw (j : Int)).f1 (rd_T53 tw (j : Int)).f2 = true then 0 else 1)
    (fun j => rc_chk (nm.length : Int) (rd_T53 tw (j : Int)).f0 (rd_T53 tw (j : Int)).f1 (rd_T53 tw (j : Int)).f2)
    ⟨fun j hj => ?_⟩ ⟨fun j hj => h2 _ (by omega) j hj⟩ ⟨fun j hj hc => ?_⟩ ⟨fun j hj hc => ?_⟩ ⟨h4 _ (by omega)⟩ hT
  · have h30 := hel j hj
    unfold rule_Text.f
    by_cases hc : rc_chk (nm.length : Int) (rd_T53 tw (j : Int)).f0 (rd_T53 tw (j : Int)).f1 (rd_T53 tw (j : Int)).f2 = true
    · have ht : (rule_Text.tail (rd_T53 tw (j : Int)).f2 nm).length ≤ 140737488355328 := by
        unfold rule_Text.tail rule_Text.pick
        have := join_len2 1048576 (((rd_T53 tw (j : Int)).f2.map (rdOf ByteArray.empty nm)).map (·.data.toList)) (fun x hx => by
          obtain ⟨y, hy, rfl⟩ := List.mem_map.1 hx
          obtain ⟨z, _, rfl⟩ := List.mem_map.1 hy
          exact nm_size hb z)
        rw [List.length_map, List.length_map] at this
        have h5 : (rd_T53 tw (j : Int)).f2.length * (1048576 + 2) ≤ 30 * (1048576 + 2) := Nat.mul_le_mul_right _ h30
        omega
      rw [if_pos hc, if_pos ⟨h30, ht⟩]
      simp only [if_pos hc]
    · rw [if_neg hc, if_pos h30]
      simp only [if_neg hc]
  · have hc' : rc_chk (nm.length : Int) (rd_T53 tw (j : Int)).f0 (rd_T53 tw (j : Int)).f1 (rd_T53 tw (j : Int)).f2 = true := hc
    have := h3 (max (max K1 K2) (max K3 K4)) (by omega) j hj
    simp only [if_pos hc'] at this ⊢
    exact ⟨trivial, this⟩
  · have hc' : ¬ rc_chk (nm.length : Int) (rd_T53 tw (j : Int)).f0 (rd_T53 tw (j : Int)).f1 (rd_T53 tw (j : Int)).f2 = true := by
      have h7 : rc_chk (nm.length : Int) (rd_T53 tw (j : Int)).f0 (rd_T53 tw (j : Int)).f1 (rd_T53 tw (j : Int)).f2 = false := hc
      rw [h7]; simp
    simp only [if_neg hc']
    exact ⟨trivial, trivial⟩
end Go.Proofs.YtbcdlfodgoiodaaDoor.PRtx
