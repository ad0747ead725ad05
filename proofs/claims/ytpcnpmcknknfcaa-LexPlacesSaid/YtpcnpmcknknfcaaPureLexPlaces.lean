/- LexPlaces: tokens stand where they say. -/
import Derived.Test.YtpcnpmcknknfcaaPureLexT
import Derived.Test.YtpcnpmcknknfcaaPLplx3
import Derived.Test.YtpcnpmcknknfcaaPLplx4
import Derived.Test.YtpcnpmcknknfcaaPLplx5
namespace Go.Proofs.Ytpcnpmcknknfcaa.PLpl
open Go.RowKit Go.Proofs.YtpcnpmcknknfcaaW.PrintWords Go.Proofs.YtpcnpmcknknfcaaW.PrintLast Go.Proofs.YtpcnpmcknknfcaaW.PrintMore Go.Proofs.YtpcnpmcknknfcaaW.Mine
set_option linter.unusedVariables false
/-! blanks and remarks -/
def bwS (r : Bool) (c : Int) : Option Bool := if ((r || c == 35) && c != 10) = true then some true else if c = 32 ∨ c = 9 ∨ c = 10 then some false else none
def bw : Bool → List Int → Option Bool
  | r, [] => some r
  | r, c :: l => (bwS r c).bind (fun r' => bw r' l)
theorem bw_app : ∀ (a b : List Int) (r : Bool), bw r (a ++ b) = (bw r a).bind (fun r' => bw r' b)
  | [], b, r => rfl
  | c :: a, b, r => by
    show (bwS r c).bind (fun r' => bw r' (a ++ b)) = ((bwS r c).bind (fun r' => bw r' a)).bind (fun r' => bw r' b)
    cases bwS r c with
    | none => rfl
    | some q => exact bw_app a b q
theorem bw_true : ∀ (l : List Int), (∀ c ∈ l, c ≠ 10) → bw true l = some true
  | [], _ => rfl
  | c :: l, h => by
    have hc := h c (List.mem_cons_self)
    have e : bwS true c = some true := by unfold bwS; rw [if_pos (by simp [hc])]
    show (bwS true c).bind (fun r' => bw r' l) = some true
    rw [e]
    exact bw_true l (fun d hd => h d (List.mem_cons_of_mem _ hd))
theorem bt_drop (s : ByteArray) (i : Nat) (h : i < s.size) : (bytesOf s).drop i = bt s (i : Int) :: (bytesOf s).drop (i + 1) := by
  obtain ⟨hl, e⟩ := bt_of s i h
  rw [List.drop_eq_getElem_cons hl, e]
theorem between_l0 (s : ByteArray) (hs : s.size ≤ 65536) (d : Nat) : ∀ (i : Nat) (r : Bool), s.size - i = d → i ≤ s.size → Ev (fun k => provostlaw05_between.l0 k s r (i : Int)) ((bw r ((bytesOf s).drop i)).isSome) := by
  have hl := bytesOf_length s
  induction d with
  | zero =>
    intro i r hd hi
    refine ev_succ ?_
    simp only [provostlaw05_between.l0]
    rw [List.drop_eq_nil_of_le (by omega)]
    exact ev_neg (by omega) (ev_some rfl)
  | succ d ih =>
    intro i r hd hi
    rw [bt_drop s i (by omega)]
    have nx := fun r => ih (i + 1) r (by omega) (by omega)
    have hw : wrap64 ((i : Int) + 1) = ((i + 1 : Nat) : Int) := by unfold wrap64; omega
    generalize hc : bt s (i : Int) = c at *
    have j3 : ∀ (r : Bool) (R : Bool), (bw r ((bytesOf s).drop (i + 1))).isSome = R → Ev (fun k => provostlaw05_between.j3 k s r (i : Int) false) R := by
      intro r R hR
      refine ev_succ ?_
      simp only [provostlaw05_between.j3]
      rw [hw]
      refine ev_neg (by decide) ?_
      rw [← hR]; exact nx r
    have j3b : ∀ (r : Bool), Ev (fun k => provostlaw05_between.j3 k s r (i : Int) true) false := by
      intro r
      refine ev_succ ?_
      simp only [provostlaw05_between.j3]
      exact ev_pos trivial (ev_some rfl)
    have j2 : ∀ (r : Bool), Ev (fun k => provostlaw05_between.j2 k s r (i : Int)) (((if r = true then some true else if c = 32 ∨ c = 9 ∨ c = 10 then some false else none : Option Bool).bind (fun r' => bw r' ((bytesOf s).drop (i + 1)))).isSome) := by
      intro r
      refine ev_succ ?_
      simp only [provostlaw05_between.j2]
      rw [hc]
      cases r with
      | true => exact ev_pos rfl (j3 true _ rfl)
      | false =>
        refine ev_neg (by decide) (ev_pos (by omega) (ev_pos (by omega) ?_))
        rw [if_neg (by decide)]
        by_cases h1 : c = 32
        · rw [if_pos (Or.inl h1)]; exact ev_pos h1 (j3 false _ rfl)
        · refine ev_neg h1 ?_
          by_cases h2 : c = 9
          · rw [if_pos (Or.inr (Or.inl h2))]; exact ev_pos h2 (j3 false _ rfl)
          · refine ev_neg h2 ?_
            by_cases h3 : c = 10
            · rw [if_pos (Or.inr (Or.inr h3)), bne_eq_false_iff_eq.2 h3]; exact j3 false _ rfl
            · rw [if_neg (by rintro (h | h | h) <;> contradiction), bne_iff_ne.2 h3]; exact j3b false
    have j1 : ∀ (r : Bool), Ev (fun k => provostlaw05_between.j1 k s r (i : Int)) (((if (r && c != 10) = true then some true else if c = 32 ∨ c = 9 ∨ c = 10 then some false else none : Option Bool).bind (fun r' => bw r' ((bytesOf s).drop (i + 1)))).isSome) := by
      intro r
      refine ev_succ ?_
      simp only [provostlaw05_between.j1]
      rw [hc]
      refine ev_pos (by omega) (ev_pos (by omega) ?_)
      by_cases h3 : c = 10
      · rw [bne_eq_false_iff_eq.2 h3, Bool.and_false]
        exact ev_pos h3 (j2 false)
      · rw [bne_iff_ne.2 h3, Bool.and_true]
        exact ev_neg h3 (j2 r)
    refine ev_succ ?_
    simp only [provostlaw05_between.l0]
    rw [hc]
    refine ev_pos (by omega) (ev_pos (by omega) ?_)
    show Ev _ (((bwS r c).bind (fun r' => bw r' ((bytesOf s).drop (i + 1)))).isSome)
    unfold bwS
    by_cases h4 : c = 35
    · rw [beq_iff_eq.2 h4, Bool.or_true]
      exact ev_pos h4 (j1 true)
    · rw [beq_eq_false_iff_ne.2 h4, Bool.or_false]
      exact ev_neg h4 (j1 r)
theorem between_ev (s : ByteArray) (hs : s.size ≤ 65536) : Ev (fun k => provostlaw05_between.f k s) ((bw false (bytesOf s)).isSome) := by
  unfold provostlaw05_between.f
  have := between_l0 s hs s.size 0 false rfl (Nat.zero_le _)
  rwa [List.drop_zero] at this
/-! where the lines begin -/
def Bg (T : ByteArray) : Nat → List Int
  | 0 => [0]
  | i + 1 => if bt T (i : Int) = 10 then Bg T i ++ [(((i + 1 : Nat)) : Int)] else Bg T i
theorem Bg_succ (T : ByteArray) (i : Nat) : Bg T (i + 1) = if bt T (i : Int) = 10 then Bg T i ++ [(((i + 1 : Nat)) : Int)] else Bg T i := rfl
theorem Bg_len (T : ByteArray) : ∀ i, (Bg T i).length ≤ i + 1
  | 0 => Nat.le_refl _
  | i + 1 => by
    have := Bg_len T i
    unfold Bg
    split <;> simp <;> omega
theorem Bg_pre (T : ByteArray) (i n : Nat) : ∃ m, Bg T (i + n) = Bg T i ++ m := by
  induction n with
  | zero => exact ⟨[], by simp⟩
  | succ n ih =>
    obtain ⟨m, e⟩ := ih
    show ∃ m, Bg T ((i + n) + 1) = _
    rw [Bg_succ]
    split
    · exact ⟨m ++ [(((i + n + 1 : Nat)) : Int)], by rw [e]; simp⟩
    · exact ⟨m, e⟩
theorem Bg_go (T : ByteArray) (i n : Nat) (h : ∀ j : Nat, j < n → bt T ((i + j : Nat) : Int) ≠ 10) : Bg T (i + n) = Bg T i := by
  induction n with
  | zero => rfl
  | succ n ih =>
    show Bg T ((i + n) + 1) = _
    rw [Bg_succ, if_neg (h n (by omega))]
    exact ih (fun j hj => h j (by omega))
def Inv (T : ByteArray) (line : Int) (frm i : Nat) : Prop := ((Bg T i).length : Int) = line ∧ ∃ m, Bg T i = m ++ [(frm : Int)]
theorem Inv.go {T : ByteArray} {line : Int} {frm i : Nat} (H : Inv T line frm i) (n : Nat) (h : ∀ j : Nat, j < n → bt T ((i + j : Nat) : Int) ≠ 10) : Inv T line frm (i + n) := by
  unfold Inv
  rw [Bg_go T i n h]
  exact H
theorem Inv.nl {T : ByteArray} {line : Int} {frm i : Nat} (H : Inv T line frm i) (h : bt T (i : Int) = 10) : Inv T (line + 1) (i + 1) (i + 1) := by
  obtain ⟨h1, h2⟩ := H
  have e : Bg T (i + 1) = Bg T i ++ [(((i + 1 : Nat)) : Int)] := by rw [Bg, if_pos h]
  exact ⟨by rw [e, List.length_append, List.length_singleton]; omega, ⟨_, e⟩⟩
theorem Inv.place {T : ByteArray} {line : Int} {frm i : Nat} (H : Inv T line frm i) (hi : i ≤ T.size) : 1 ≤ line ∧ line ≤ ((Bg T T.size).length : Int) ∧ (Bg T T.size).getD (line - 1).toNat 0 = (frm : Int) := by
  obtain ⟨h1, m, h2⟩ := H
  obtain ⟨m2, h3⟩ := Bg_pre T i (T.size - i)
  rw [show i + (T.size - i) = T.size by omega] at h3
  rw [h3, h2]
  rw [h2] at h1
  simp only [List.length_append, List.length_singleton] at h1
  refine ⟨by omega, by simp only [List.length_append, List.length_singleton]; omega, ?_⟩
  rw [show (line - 1).toNat = m.length by omega, List.append_assoc, List.getD_eq_getElem?_getD, List.getElem?_append_right (Nat.le_refl _), Nat.sub_self]
  rfl
/-! tokens in a row -/
def Chain (T : ByteArray) (B : List Int) : Nat → List Tok → Prop
  | a, [] => a ≤ T.size ∧ (bw false (bytesOf (T.extract a T.size))).isSome = true
  | a, t :: l => ∃ p : Nat, a ≤ p ∧ p + t.f1.size ≤ T.size ∧ T.extract p (p + t.f1.size) = t.f1 ∧ 1 ≤ t.f3 ∧ t.f3 ≤ (B.length : Int) ∧ 1 ≤ t.f4 ∧ B.getD (t.f3 - 1).toNat 0 + t.f4 - 1 = (p : Int) ∧ (bw false (bytesOf (T.extract a p))).isSome = true ∧ (t.f0 = 4 → p < T.size → bt T (p : Int) = 10) ∧ Chain T B (p + t.f1.size) l
theorem bx_nil (T : ByteArray) (a : Nat) : bytesOf (T.extract a a) = [] := by
  rw [bytesOf_ext]
  exact List.drop_eq_nil_of_le (by rw [List.length_take]; omega)
theorem bx_app (T : ByteArray) (a i n : Nat) (h : a ≤ i) (hn : i + n ≤ T.size) : bytesOf (T.extract a (i + n)) = bytesOf (T.extract a i) ++ ((bytesOf T).drop i).take n := by
  have hl := bytesOf_length T
  rw [bytesOf_ext, bytesOf_ext, List.take_add, List.drop_append]
  rw [show a - (List.take i (bytesOf T)).length = 0 by rw [List.length_take]; omega, List.drop_zero]
theorem bx_one (T : ByteArray) (a i : Nat) (h : a ≤ i) (hn : i < T.size) : bytesOf (T.extract a (i + 1)) = bytesOf (T.extract a i) ++ [bt T (i : Int)] := by
  rw [bx_app T a i 1 h hn, bt_drop T i hn]; rfl
theorem bt_take (T : ByteArray) (i n : Nat) (c : Int) (hc : c ∈ ((bytesOf T).drop i).take n) (hn : i + n ≤ T.size) : ∃ j : Nat, j < n ∧ c = bt T ((i + j : Nat) : Int) := by
  have hl := bytesOf_length T
  obtain ⟨j, hj, e⟩ := List.getElem_of_mem hc
  have hj2 := hj
  rw [List.length_take, List.length_drop] at hj2
  refine ⟨j, by omega, ?_⟩
  rw [bt_list, ← e, List.getElem_take, List.getElem_drop, List.getD_eq_getElem?_getD, List.getElem?_eq_getElem (by omega)]
  rfl
theorem wakes_ok : provostlaw05_wakes.f = some true := by
  unfold provostlaw05_wakes.f
  simp only [ByteArray.toList_eq]
  decide +kernel
theorem scan_chain (T : ByteArray) (n : Nat) : ∀ (told : List Tok) (line : Int) (frm : Nat) (any : Bool) (i a : Nat) (r : Bool), T.size - i = n → i ≤ T.size → frm ≤ i → a ≤ i → bw false (bytesOf (T.extract a i)) = some r → (r = true → i < T.size → bt T (i : Int) = 10) → Inv T line frm i → (rest T told line frm any i).2.1 = 0 →
    ∃ l, (rest T told line frm any i).1 = told ++ l ∧ Chain T (Bg T T.size) a l := by
  induction n using Nat.strongRecOn with
  | ind n ih =>
    intro told line frm any i a r hn hi hf ha hb hr hI h0
    obtain ⟨hl, hp2, hp3⟩ := hI.place hi
    have hsz := tl_sz T i hi
    by_cases hlt : i < T.size
    · have e0 : bt (tl T i) 0 = bt T (i : Int) := by have := bt_tl T i 0; simpa using this
      have t1 : (tl T i).extract 1 (tl T i).size = tl T (i + 1) := tl_tl T i 1 (by omega)
      have p1 : (tl T i).extract 0 1 = T.extract i (i + 1) := tl_pre T i 1 (by omega)
      have tok : ∀ (m : Nat) (kd v : Int), 1 ≤ m → i + m ≤ T.size → r = false → kd ≠ 4 → (∀ j : Nat, j < m → bt T ((i + j : Nat) : Int) ≠ 10) →
          stepF (tl T i) line ((i : Int) - frm + 1) told any = (0, tl T (i + m), line, (i : Int) - frm + 1 + (m : Nat), told ++ [(⟨kd, T.extract i (i + m), v, line, (i : Int) - frm + 1⟩ : Tok)], true) →
          ∃ l, (rest T told line frm any i).1 = told ++ l ∧ Chain T (Bg T T.size) a l := by
        intro m kd v hm him hrf hkd hnl hst
        have hrs := rest_step T told line frm any i hlt hf hl (i + m) line _ _ true frm him (by omega) (by omega) hst
        rw [hrs] at h0 ⊢
        obtain ⟨l, e1, e2⟩ := ih (T.size - (i + m)) (by omega) _ line frm true (i + m) (i + m) false rfl him (by omega) (Nat.le_refl _) (by rw [bx_nil]; rfl) (by simp) (hI.go m hnl) h0
        refine ⟨_ :: l, by rw [e1, List.append_assoc]; rfl, ?_⟩
        have hxs : (T.extract i (i + m)).size = m := by rw [ByteArray.size_extract]; omega
        refine ⟨i, ha, ?_, ?_, hl, hp2, ?_, ?_, ?_, fun h => absurd h hkd, ?_⟩
        · show i + (T.extract i (i + m)).size ≤ T.size
          omega
        · show T.extract i (i + (T.extract i (i + m)).size) = T.extract i (i + m)
          rw [hxs]
        · show 1 ≤ (i : Int) - frm + 1
          omega
        · show (Bg T T.size).getD (line - 1).toNat 0 + ((i : Int) - frm + 1) - 1 = (i : Int)
          rw [hp3]; omega
        · rw [hb]; rfl
        · show Chain T (Bg T T.size) (i + (T.extract i (i + m)).size) l
          rw [hxs]; exact e2
      have hst : stepF (tl T i) line ((i : Int) - frm + 1) told any = stepF (tl T i) line ((i : Int) - frm + 1) told any := rfl
      conv at hst => rhs; unfold stepF
      rw [e0] at hst
      have hrf : bt T (i : Int) ≠ 10 → r = false := by
        intro hc
        cases r with
        | false => rfl
        | true => exact absurd (hr rfl hlt) hc
      by_cases c1 : bt T (i : Int) = 32 ∨ bt T (i : Int) = 9
      · rw [if_pos c1, t1] at hst
        have hc10 : bt T (i : Int) ≠ 10 := by omega
        have hgo : ∀ j : Nat, j < 1 → bt T ((i + j : Nat) : Int) ≠ 10 := by
          intro j hj
          obtain rfl : j = 0 := by omega
          exact hc10
        have hrs := rest_step T told line frm any i hlt hf hl (i + 1) line _ told any frm (by omega) (by omega) (by omega) hst
        rw [hrs] at h0 ⊢
        refine ih (T.size - (i + 1)) (by omega) told line frm any (i + 1) a false rfl (by omega) (by omega) (by omega) ?_ (by simp) (hI.go 1 hgo) h0
        rw [bx_one T a i ha hlt, bw_app, hb, hrf hc10]
        show (bwS false (bt T (i : Int))).bind (fun r' => bw r' []) = some false
        rcases c1 with h | h <;> rw [h] <;> rfl
      · rw [if_neg c1] at hst
        by_cases c2 : bt T (i : Int) = 35
        · rw [if_pos c2] at hst
          have hle := bgn_le notNl (tl T i)
          have hp := bgn_pos notNl (tl T i) (by omega) (by rw [e0, c2]; rfl)
          obtain ⟨s1, s2⟩ := bgn_spec notNl (tl T i)
          generalize hm : bgn notNl (tl T i) = m at *
          rw [tl_tl T i _ (by omega)] at hst
          have hnl : ∀ j : Nat, j < m → bt T ((i + j : Nat) : Int) ≠ 10 := by
            intro j hj
            have := s1 j hj
            rw [bt_tl] at this
            simpa [notNl] using this
          have hrs := rest_step T told line frm any i hlt hf hl (i + m) line _ told any frm (by omega) (by omega) (by omega) hst
          rw [hrs] at h0 ⊢
          refine ih (T.size - (i + m)) (by omega) told line frm any (i + m) a true rfl (by omega) (by omega) (by omega) ?_ ?_ (hI.go m hnl) h0
          · rw [bx_app T a i m ha (by omega), bw_app, hb, hrf (by omega)]
            show bw false (((bytesOf T).drop i).take m) = some true
            obtain ⟨m', rfl⟩ : ∃ q, m = q + 1 := ⟨m - 1, by omega⟩
            have hall : ∀ c ∈ ((bytesOf T).drop i).take (m' + 1), c ≠ 10 := by
              intro c hc
              obtain ⟨j, hj, rfl⟩ := bt_take T i (m' + 1) c hc (by omega)
              exact hnl j hj
            rw [bt_drop T i hlt, List.take_succ_cons] at hall ⊢
            rw [c2] at hall ⊢
            exact bw_true _ (fun c hc => hall c (List.mem_cons_of_mem _ hc))
          · intro _ hlt2
            have := s2 (by omega)
            rw [bt_tl] at this
            simpa [notNl] using this
        · rw [if_neg c2] at hst
          by_cases c3 : bt T (i : Int) = 10
          · rw [if_pos c3, t1] at hst
            have hrs := rest_step T told line frm any i hlt hf hl (i + 1) (line + 1) _ _ false (i + 1) (by omega) (by omega) (by omega) hst
            rw [hrs] at h0 ⊢
            by_cases hany : any = true
            · rw [if_pos hany] at h0 ⊢
              obtain ⟨l, e1, e2⟩ := ih (T.size - (i + 1)) (by omega) _ (line + 1) (i + 1) false (i + 1) i false rfl (by omega) (by omega) (by omega) (by rw [bx_one T i i (Nat.le_refl _) hlt, bx_nil, c3]; rfl) (by simp) (hI.nl c3) h0
              refine ⟨_ :: l, by rw [e1, List.append_assoc]; rfl, ?_⟩
              refine ⟨i, ha, ?_, ?_, hl, hp2, ?_, ?_, ?_, fun _ _ => c3, ?_⟩
              · show i + 0 ≤ T.size
                omega
              · show T.extract i (i + 0) = ⟨#[]⟩
                apply bytes_inj
                rw [Nat.add_zero, bx_nil]; rfl
              · show 1 ≤ (i : Int) - frm + 1
                omega
              · show (Bg T T.size).getD (line - 1).toNat 0 + ((i : Int) - frm + 1) - 1 = (i : Int)
                rw [hp3]; omega
              · rw [hb]; rfl
              · exact e2
            · rw [if_neg hany] at h0 ⊢
              refine ih (T.size - (i + 1)) (by omega) _ (line + 1) (i + 1) false (i + 1) a false rfl (by omega) (by omega) (by omega) ?_ (by simp) (hI.nl c3) h0
              rw [bx_one T a i ha hlt, bw_app, hb, c3]
              cases r <;> rfl
          · rw [if_neg c3] at hst
            by_cases c4 : isSml (bt T (i : Int)) = true
            · rw [if_pos c4] at hst
              by_cases c5 : bgn isIn (tl T i) > 24
              · rw [if_pos c5] at hst
                rw [rest_bad T told line frm any i hlt 4 (by decide) _ _ _ _ _ hst] at h0
                exact absurd h0 (show ¬ (4 : Int) = 0 by decide)
              · rw [if_neg c5] at hst
                have hle := bgn_le isIn (tl T i)
                have hp := bgn_pos isIn (tl T i) (by omega) (by rw [e0]; unfold isIn; rw [c4]; rfl)
                obtain ⟨s1, s2⟩ := bgn_spec isIn (tl T i)
                rw [tl_tl T i _ (by omega), tl_pre T i _ (by omega)] at hst
                refine tok _ _ _ hp (by omega) (hrf c3) (by decide) ?_ hst
                intro j hj h10
                have := s1 j hj
                rw [bt_tl, h10] at this
                exact absurd this (by decide)
            · rw [if_neg c4] at hst
              by_cases c6 : isDig (bt T (i : Int)) = true
              · rw [if_pos c6] at hst
                have hnf : numF (tl T i) = if badN (tl T i) (bgn isDig (tl T i)) then ((0 : Int), (0 : Int)) else (((bgn isDig (tl T i) : Nat) : Int), valF ((bytesOf (tl T i)).take (bgn isDig (tl T i)))) := rfl
                have hle := bgn_le isDig (tl T i)
                have hp := bgn_pos isDig (tl T i) (by omega) (by rw [e0]; exact c6)
                obtain ⟨s1, s2⟩ := bgn_spec isDig (tl T i)
                by_cases hbad : badN (tl T i) (bgn isDig (tl T i))
                · rw [hnf, if_pos hbad, if_pos rfl] at hst
                  rw [rest_bad T told line frm any i hlt 3 (by decide) _ _ _ _ _ hst] at h0
                  exact absurd h0 (show ¬ (3 : Int) = 0 by decide)
                · rw [hnf, if_neg hbad] at hst
                  generalize hm : bgn isDig (tl T i) = m at *
                  rw [if_neg (show ¬ ((m : Int), valF ((bytesOf (tl T i)).take m)).1 = 0 by show ¬ (m : Int) = 0; omega)] at hst
                  simp only [Int.toNat_natCast] at hst
                  rw [tl_tl T i _ (by omega), tl_pre T i _ (by omega)] at hst
                  refine tok _ _ _ hp (by omega) (hrf c3) (by decide) ?_ hst
                  intro j hj h10
                  have := s1 j hj
                  rw [bt_tl, h10] at this
                  exact absurd this (by decide)
              · rw [if_neg c6] at hst
                by_cases c8 : isMark (bt T (i : Int)) = true
                · rw [if_pos c8, t1, p1] at hst
                  refine tok 1 3 0 (Nat.le_refl _) (by omega) (hrf c3) (by decide) ?_ hst
                  intro j hj
                  obtain rfl : j = 0 := by omega
                  exact c3
                · rw [if_neg c8] at hst
                  rw [rest_bad T told line frm any i hlt 3 (by decide) _ _ _ _ _ hst] at h0
                  exact absurd h0 (show ¬ (3 : Int) = 0 by decide)
    · obtain rfl : i = T.size := by omega
      have hz : (tl T T.size).size = 0 := by omega
      unfold rest
      rw [scanR, if_pos hz]
      by_cases hany : any = true
      · rw [if_pos hany]
        refine ⟨_, rfl, T.size, ha, ?_, ?_, hl, hp2, ?_, ?_, ?_, fun _ h => absurd h (by omega), ?_, ?_⟩
        · show T.size + 0 ≤ T.size
          omega
        · show T.extract T.size (T.size + 0) = ⟨#[]⟩
          apply bytes_inj
          rw [Nat.add_zero, bx_nil]; rfl
        · show 1 ≤ (T.size : Int) - frm + 1
          omega
        · show (Bg T T.size).getD (line - 1).toNat 0 + ((T.size : Int) - frm + 1) - 1 = (T.size : Int)
          rw [hp3]; omega
        · rw [hb]; rfl
        · show T.size + 0 ≤ T.size
          omega
        · show (bw false (bytesOf (T.extract (T.size + 0) T.size))).isSome = true
          rw [Nat.add_zero, bx_nil]; rfl
      · rw [if_neg hany]
        exact ⟨[], (List.append_nil _).symm, ha, by rw [hb]; rfl⟩
section
variable (T : ByteArray) (hT : T.size ≤ 65536)
include hT
set_option maxHeartbeats 1000000 in
theorem places_l1 (L : List Tok) (hL : L.length ≤ 100000) (d : Nat) : ∀ j a : Nat, L.length - j = d → j ≤ L.length → Chain T (Bg T T.size) a (L.drop j) → Ev (fun k => provostlaw05_LexPlaces.l1 k T L (Bg T T.size) (a : Int) (j : Int)) true := by
  have hBl := Bg_len T T.size
  induction d with
  | zero =>
    intro j a hd hj hc
    rw [List.drop_eq_nil_of_le (by omega)] at hc
    obtain ⟨h1, h2⟩ := hc
    refine ev_succ ?_
    simp only [provostlaw05_LexPlaces.l1]
    have hb := between_ev (T.extract a T.size) (by rw [ByteArray.size_extract]; omega)
    rw [h2] at hb
    refine ev_neg (by omega) (ev_pos (by omega) (ev_pos (by omega) ?_))
    rw [Int.toNat_natCast, wakes_ok]
    simp only [Option.bind_some]
    exact Ev.bind hb (ev_pos rfl (ev_some rfl))
  | succ d ih =>
    intro j a hd hj hc
    have hjl : j < L.length := by omega
    rw [List.drop_eq_getElem_cons hjl] at hc
    have hrd : rd_T40 L (j : Int) = L[j] := by
      unfold rd_T40
      rw [Int.toNat_natCast, List.getD_eq_getElem?_getD, List.getElem?_eq_getElem hjl]; rfl
    generalize ht : L[j] = t at *
    obtain ⟨p, h1, h2, h3, h4, h5, h6, h7, h8, h9, h10⟩ := hc
    have nx := ih (j + 1) (p + t.f1.size) (by omega) (by omega) h10
    have hb := between_ev (T.extract a p) (by rw [ByteArray.size_extract]; omega)
    rw [h8] at hb
    have hj0 : (0 : Int) ≤ (j : Int) := by omega
    have hj1 : (j : Int) < (L.length : Int) := by omega
    have ha0 : (0 : Int) ≤ (a : Int) := by omega
    have hap : (a : Int) ≤ (p : Int) := by omega
    have hp0 : (0 : Int) ≤ (p : Int) := by omega
    have hpT : (p : Int) ≤ (T.size : Int) := by omega
    have hpz1 : ¬ ((p + t.f1.size : Nat) : Int) > (T.size : Int) := by omega
    have hpz2 : ((p + t.f1.size : Nat) : Int) ≤ (T.size : Int) := by omega
    have hpz3 : (p : Int) ≤ ((p + t.f1.size : Nat) : Int) := by omega
    have hpa : ¬ (p : Int) < (a : Int) := by omega
    have hf3 : (0 : Int) ≤ t.f3 - 1 := by omega
    have hf4 : t.f3 - 1 < ((Bg T T.size).length : Int) := by omega
    have hf5 : ¬ t.f3 < 1 := by omega
    have hf6 : ¬ t.f3 > ((Bg T T.size).length : Int) := by omega
    have hdf : decide (t.f4 < 1) = false := decide_eq_false (by omega)
    have nf : ¬ (false = true) := by decide
    have w1 : wrap64 (t.f3 - 1) = t.f3 - 1 := by unfold wrap64; omega
    have hq : rd (Bg T T.size) (t.f3 - 1) = (Bg T T.size).getD (t.f3 - 1).toNat 0 := rfl
    have w2 : wrap64 (wrap64 (rd (Bg T T.size) (t.f3 - 1) + t.f4) - 1) = (p : Int) := by rw [hq]; unfold wrap64; omega
    have w3 : wrap64 ((p : Int) + (t.f1.size : Int)) = ((p + t.f1.size : Nat) : Int) := by unfold wrap64; omega
    have w4 : wrap64 ((j : Int) + 1) = ((j + 1 : Nat) : Int) := by unfold wrap64; omega
    have j4 : Ev (fun k => provostlaw05_LexPlaces.j4 k T L (Bg T T.size) (j : Int) (p : Int) false) true := by
      refine ev_succ ?_
      simp only [provostlaw05_LexPlaces.j4]
      rw [hrd, w3, w4]
      exact ev_neg nf (ev_pos hj0 (ev_pos hj1 nx))
    have j3 : Ev (fun k => provostlaw05_LexPlaces.j3 k T L (Bg T T.size) (j : Int) (p : Int) (!true)) true := by
      refine ev_succ ?_
      simp only [provostlaw05_LexPlaces.j3]
      rw [hrd]
      refine ev_neg (by decide) (ev_pos hj0 (ev_pos hj1 ?_))
      by_cases hk : t.f0 = 4
      · refine ev_pos hk ?_
        by_cases hpz : (p : Int) < (T.size : Int)
        · refine ev_pos hpz (ev_pos hp0 ?_)
          rw [bne_eq_false_iff_eq.2 (h9 hk (Int.ofNat_lt.1 hpz))]
          exact j4
        · exact ev_neg hpz j4
      · exact ev_neg hk j4
    have j2 : Ev (fun k => provostlaw05_LexPlaces.j2 k T L (Bg T T.size) (a : Int) (j : Int) (decide (t.f4 < 1))) true := by
      refine ev_succ ?_
      simp only [provostlaw05_LexPlaces.j2]
      rw [hrd, w1, w2, w3, hdf, Int.toNat_natCast, Int.toNat_natCast, Int.toNat_natCast, h3]
      exact ev_neg nf (ev_pos hj0 (ev_pos hj1 (ev_pos hf3 (ev_pos hf4 (ev_neg hpa (ev_neg hpz1 (ev_pos hp0 (ev_pos hpz3 (ev_pos hpz2 (ev_pos rfl (ev_pos ha0 (ev_pos hap (ev_pos hpT (Ev.bind hb j3))))))))))))))
    refine ev_succ ?_
    simp only [provostlaw05_LexPlaces.l1]
    rw [hrd]
    exact ev_pos hj1 (ev_pos hj0 (ev_neg hf5 (ev_neg hf6 j2)))
theorem places_l0 (L : List Tok) (hL : L.length ≤ 100000) (hc : Chain T (Bg T T.size) 0 L) (d : Nat) : ∀ i : Nat, T.size - i = d → i ≤ T.size → Ev (fun k => provostlaw05_LexPlaces.l0 k T L (Bg T i) (i : Int)) true := by
  induction d with
  | zero =>
    intro i hd hi
    obtain rfl : i = T.size := by omega
    refine ev_succ ?_
    simp only [provostlaw05_LexPlaces.l0]
    exact ev_neg (by omega) (places_l1 T hT L hL _ 0 0 rfl (Nat.zero_le _) hc)
  | succ d ih =>
    intro i hd hi
    have nx := ih (i + 1) (by omega) (by omega)
    have hBl := Bg_len T i
    have w4 : wrap64 ((i : Int) + 1) = ((i + 1 : Nat) : Int) := by unfold wrap64; omega
    refine ev_succ ?_
    simp only [provostlaw05_LexPlaces.l0]
    rw [w4]
    refine ev_pos (by omega) (ev_pos (by omega) ?_)
    rw [Bg] at nx
    by_cases h : bt T (i : Int) = 10
    · rw [if_pos h] at nx
      exact ev_pos h (ev_pos (by omega) nx)
    · rw [if_neg h] at nx
      exact ev_neg h nx
end
theorem scan_len : ∀ (k : Nat) (s : ByteArray) (line col : Int) (told : List Tok) (any : Bool), 1 ≤ line → 1 ≤ col → (scanR k s line col told any).1.length ≤ told.length + s.size + 1 := by
  intro k
  induction k with
  | zero => intro s line col told any hl hc; rw [scanR]; simp
  | succ k ih =>
    intro s line col told any hl hc
    rw [scanR]
    by_cases h0 : s.size = 0
    · rw [if_pos h0]
      split <;> (try simp only [List.length_append, List.length_cons, List.length_nil]) <;> omega
    · rw [if_neg h0]
      by_cases he : (stepF s line col told any).1 = 0
      · rw [if_pos he]
        obtain ⟨d1, d2, d3, _, d5, _⟩ := step_bd s line col told any (by omega) he hl hc
        have := ih (stepF s line col told any).2.1 (stepF s line col told any).2.2.1 (stepF s line col told any).2.2.2.1 (stepF s line col told any).2.2.2.2.1 (stepF s line col told any).2.2.2.2.2 d3 d5
        omega
      · rw [if_neg he]; simp
theorem scan_nil : ∀ (k : Nat) (s : ByteArray) (line col : Int) (told : List Tok) (any : Bool), (scanR k s line col told any).2.1 ≠ 0 → (scanR k s line col told any).1 = [] := by
  intro k
  induction k with
  | zero => intro s line col told any h; rw [scanR]
  | succ k ih =>
    intro s line col told any
    rw [scanR]
    by_cases h0 : s.size = 0
    · rw [if_pos h0]
      split <;> (intro h; exact absurd rfl h)
    · rw [if_neg h0]
      by_cases he : (stepF s line col told any).1 = 0
      · rw [if_pos he]
        exact ih _ _ _ _ _
      · rw [if_neg he]; intro _; rfl
end Go.Proofs.Ytpcnpmcknknfcaa.PLpl
namespace Go.Proofs.Ytpcnpmcknknfcaa.Pure
open Go.RowKit Go.Proofs.Ytpcnpmcknknfcaa.PLpl Go.Proofs.YtpcnpmcknknfcaaW.PrintWords Go.Proofs.YtpcnpmcknknfcaaW.PrintLast
theorem LexPlaces : provostlaw05_LexPlaces.Pure := by
  intro T h0
  refine Ev.rounds (g := fun k => provostlaw05_LexPlaces.f k T) ?_
  unfold provostlaw05_LexPlaces.f lex_Scan.f
  have hw := wakes_ok
  by_cases h : (T.size : Int) > 65536
  · rw [if_pos h, hw]
    simp only [Option.bind_some]
    exact ev_neg (by decide) (ev_pos (by decide) (ev_some rfl))
  · rw [if_neg h, hw]
    simp only [Option.bind_some]
    have hln := scan_len (T.size + 1) T 1 1 [] false (by decide) (by decide)
    have hrest : rest T [] 1 0 false 0 = scanR (T.size + 1) T 1 1 [] false := by
      have e : tl T 0 = T := by
        apply bytes_inj; rw [bytesOf_tl, List.drop_zero]
      unfold rest
      rw [e]; rfl
    by_cases hz : (scanR (T.size + 1) T 1 1 [] false).2.1 = 0
    · refine ev_pos hz (ev_pos (by decide) ?_)
      rw [← hrest] at hz hln ⊢
      obtain ⟨l, e1, e2⟩ := scan_chain T T.size [] 1 0 false 0 0 false rfl (Nat.zero_le _) (Nat.le_refl _) (Nat.le_refl _) (by rw [bx_nil]; rfl) (by simp) ⟨rfl, [], rfl⟩ hz
      rw [List.nil_append] at e1
      simp only [List.length_nil] at hln
      rw [e1] at hln ⊢
      exact places_l0 T (by omega) l (by omega) e2 T.size 0 rfl (Nat.zero_le _)
    · refine ev_neg hz (ev_pos ?_ (ev_some rfl))
      rw [scan_nil _ _ _ _ _ _ hz]; rfl
end Go.Proofs.Ytpcnpmcknknfcaa.Pure
