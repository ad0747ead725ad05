/- Scan, step by step beside the reference. -/
import Derived.Test.YtpcnpmcknknfcaaPureLex
namespace Go.Proofs.Ytpcnpmcknknfcaa.PLsc
open Go.RowKit Go.Proofs.YtpcnpmcknknfcaaW.PrintWords Go.Proofs.YtpcnpmcknknfcaaW.PrintLast Go.Proofs.YtpcnpmcknknfcaaW.PrintMore Go.Proofs.YtpcnpmcknknfcaaW.Mine
set_option linter.unusedVariables false
abbrev Tok := S40
abbrev Res := List Tok × Int × Int × Int
/-- what the rest of a text, from place i on, tells -/
def rest (T : ByteArray) (told : List Tok) (line : Int) (frm : Nat) (any : Bool) (i : Nat) : Res := scanR ((tl T i).size + 1) (tl T i) line ((i : Int) - frm + 1) told any
theorem rest_step (T : ByteArray) (told : List Tok) (line : Int) (frm : Nat) (any : Bool) (i : Nat) (hi : i < T.size) (hf : frm ≤ i) (hl : 1 ≤ line) (i2 : Nat) (l2 : Int) (c2 : Int) (t2 : List Tok) (a2 : Bool) (f2 : Nat) (h2 : i2 ≤ T.size) (hf2 : f2 ≤ i2) (hc2 : c2 = (i2 : Int) - f2 + 1)
    (h : stepF (tl T i) line ((i : Int) - frm + 1) told any = (0, tl T i2, l2, c2, t2, a2)) : rest T told line frm any i = rest T t2 l2 f2 a2 i2 := by
  have hsz := tl_sz T i (by omega)
  have hs2 := tl_sz T i2 h2
  unfold rest
  rw [scanR, if_neg (by omega)]
  have hb := step_bd (tl T i) line ((i : Int) - frm + 1) told any (by omega) (by rw [h]) hl (by omega)
  rw [h] at hb ⊢
  simp only at hb
  rw [if_pos rfl]
  obtain ⟨d1, _, d3, _, d5, _⟩ := hb
  have d1 : (tl T i2).size < (tl T i).size := d1
  have d3 : 1 ≤ l2 := d3
  have d5 : 1 ≤ c2 := d5
  subst hc2
  show scanR (tl T i).size (tl T i2) l2 ((i2 : Int) - f2 + 1) t2 a2 = scanR ((tl T i2).size + 1) (tl T i2) l2 ((i2 : Int) - f2 + 1) t2 a2
  exact scan_more _ _ _ _ _ _ _ _ (Nat.le_refl _) d1 (by omega) d3 d5
theorem rest_bad (T : ByteArray) (told : List Tok) (line : Int) (frm : Nat) (any : Bool) (i : Nat) (hi : i < T.size) (e : Int) (he : e ≠ 0) (s2 : ByteArray) (l2 c2 : Int) (t2 : List Tok) (a2 : Bool)
    (h : stepF (tl T i) line ((i : Int) - frm + 1) told any = (e, s2, l2, c2, t2, a2)) : rest T told line frm any i = ([], e, l2, c2) := by
  have hsz := tl_sz T i (by omega)
  unfold rest
  rw [scanR, if_neg (by omega), h, if_neg he]
section
variable (T : ByteArray) (hT : T.size ≤ 65536)
include hT
theorem loop_nl (told : List Tok) (line frm : Int) (any : Bool) (i : Nat) (hi : i < T.size) (hc : bt (tl T i) 0 = 35) (R : Res) (nx : Ev (fun k => provostref05_Scan.l0 k T told line frm any ((i + bgn notNl (tl T i) : Nat) : Int)) R) (d : Nat) :
    ∀ j : Nat, bgn notNl (tl T i) - j = d → 1 ≤ j → j ≤ bgn notNl (tl T i) → Ev (fun k => provostref05_Scan.l1 k T told line frm any ((i + j : Nat) : Int)) R := by
  have hsz := tl_sz T i (by omega)
  have hle := bgn_le notNl (tl T i)
  obtain ⟨s1, s2⟩ := bgn_spec notNl (tl T i)
  induction d with
  | zero =>
    intro j hd h1 hj
    obtain rfl : j = bgn notNl (tl T i) := by omega
    have stop : Ev (fun k => provostref05_Scan.j3 k T told line frm any ((i + bgn notNl (tl T i) : Nat) : Int) false) R := by
      refine ev_succ ?_
      simp only [provostref05_Scan.j3]
      exact ev_neg (by decide) nx
    refine ev_succ ?_
    simp only [provostref05_Scan.l1]
    by_cases h : ((i + bgn notNl (tl T i) : Nat) : Int) < (T.size : Int)
    · have hb := s2 (by omega)
      rw [bt_tl] at hb
      refine ev_pos h (ev_pos (by omega) ?_)
      have e : (bt T ((i + bgn notNl (tl T i) : Nat) : Int) != 10) = false := hb
      rw [e]
      exact stop
    · exact ev_neg h stop
  | succ d ih =>
    intro j hd h1 hj
    have hb := s1 j (by omega)
    rw [bt_tl] at hb
    refine ev_succ ?_
    simp only [provostref05_Scan.l1]
    refine ev_pos (by omega) (ev_pos (by omega) ?_)
    have e : (bt T ((i + j : Nat) : Int) != 10) = true := hb
    rw [e]
    refine ev_succ ?_
    simp only [provostref05_Scan.j3]
    rw [wr (i := ((i + j : Nat) : Int)) (by omega) (by omega)]
    exact ev_pos trivial (ih (j + 1) (by omega) (by omega) (by omega))
theorem loop_in (told : List Tok) (line frm x8 x10 : Int) (i : Nat) (hi : i < T.size) (R : Res) (nx : Ev (fun k => provostref05_Scan.j5 k T told line frm x8 x10 ((i + bgn isIn (tl T i) : Nat) : Int) false) R) (d : Nat) :
    ∀ j : Nat, bgn isIn (tl T i) - j = d → 1 ≤ j → j ≤ bgn isIn (tl T i) → Ev (fun k => provostref05_Scan.l2 k T told line frm x8 x10 ((i + j : Nat) : Int)) R := by
  have hsz := tl_sz T i (by omega)
  have hle := bgn_le isIn (tl T i)
  obtain ⟨s1, s2⟩ := bgn_spec isIn (tl T i)
  induction d with
  | zero =>
    intro j hd h1 hj
    obtain rfl : j = bgn isIn (tl T i) := by omega
    refine ev_succ ?_
    simp only [provostref05_Scan.l2]
    by_cases h : ((i + bgn isIn (tl T i) : Nat) : Int) < (T.size : Int)
    · have hb := s2 (by omega)
      rw [bt_tl] at hb
      refine ev_pos h (ev_pos (by omega) ?_)
      rw [rinner, hb]
      simp only [Option.bind_some]
      exact nx
    · exact ev_neg h nx
  | succ d ih =>
    intro j hd h1 hj
    have hb := s1 j (by omega)
    rw [bt_tl] at hb
    refine ev_succ ?_
    simp only [provostref05_Scan.l2]
    refine ev_pos (by omega) (ev_pos (by omega) ?_)
    rw [rinner, hb]
    simp only [Option.bind_some]
    refine ev_succ ?_
    simp only [provostref05_Scan.j5]
    rw [wr (i := ((i + j : Nat) : Int)) (by omega) (by omega)]
    exact ev_pos trivial (ih (j + 1) (by omega) (by omega) (by omega))
theorem loop_dig (told : List Tok) (line frm x8 x10 : Int) (i : Nat) (hi : i < T.size) (R : Res) (nx : Ev (fun k => provostref05_Scan.j7 k T told line frm x8 x10 ((i + bgn isDig (tl T i) : Nat) : Int) false) R) (d : Nat) :
    ∀ j : Nat, bgn isDig (tl T i) - j = d → 1 ≤ j → j ≤ bgn isDig (tl T i) → Ev (fun k => provostref05_Scan.l3 k T told line frm x8 x10 ((i + j : Nat) : Int)) R := by
  have hsz := tl_sz T i (by omega)
  have hle := bgn_le isDig (tl T i)
  obtain ⟨s1, s2⟩ := bgn_spec isDig (tl T i)
  induction d with
  | zero =>
    intro j hd h1 hj
    obtain rfl : j = bgn isDig (tl T i) := by omega
    refine ev_succ ?_
    simp only [provostref05_Scan.l3]
    by_cases h : ((i + bgn isDig (tl T i) : Nat) : Int) < (T.size : Int)
    · have hb := s2 (by omega)
      rw [bt_tl] at hb
      refine ev_pos h (ev_pos (by omega) ?_)
      rw [rdigit, hb]
      simp only [Option.bind_some]
      exact nx
    · exact ev_neg h nx
  | succ d ih =>
    intro j hd h1 hj
    have hb := s1 j (by omega)
    rw [bt_tl] at hb
    refine ev_succ ?_
    simp only [provostref05_Scan.l3]
    refine ev_pos (by omega) (ev_pos (by omega) ?_)
    rw [rdigit, hb]
    simp only [Option.bind_some]
    refine ev_succ ?_
    simp only [provostref05_Scan.j7]
    rw [wr (i := ((i + j : Nat) : Int)) (by omega) (by omega)]
    exact ev_pos trivial (ih (j + 1) (by omega) (by omega) (by omega))
theorem scan_l0 (n : Nat) : ∀ (told : List Tok) (line : Int) (frm : Nat) (any : Bool) (i : Nat), T.size - i = n → i ≤ T.size → frm ≤ i → 1 ≤ line → line ≤ i + 1 → told.length ≤ i → Ev (fun k => provostref05_Scan.l0 k T told line (frm : Int) any (i : Int)) (rest T told line frm any i) := by
  induction n using Nat.strongRecOn with
  | ind n ih =>
    intro told line frm any i hn hi hf hl hl2 ht
    have hsz := tl_sz T i hi
    refine ev_succ ?_
    simp only [provostref05_Scan.l0]
    by_cases hlt : i < T.size
    · refine ev_pos (by omega) (ev_pos (by omega) ?_)
      have e0 : bt (tl T i) 0 = bt T (i : Int) := by have := bt_tl T i 0; simpa using this
      have hcr := bt_range T (i : Int)
      have ecol : wrap64 (wrap64 ((i : Int) - (frm : Int)) + 1) = (i : Int) - frm + 1 := by unfold wrap64; omega
      rw [ecol, wr (i := (i : Int)) (by omega) (by omega)]
      have t1 : (tl T i).extract 1 (tl T i).size = tl T (i + 1) := tl_tl T i 1 (by omega)
      have p1 : (tl T i).extract 0 1 = T.extract i (i + 1) := tl_pre T i 1 (by omega)
      have hst : stepF (tl T i) line ((i : Int) - frm + 1) told any = stepF (tl T i) line ((i : Int) - frm + 1) told any := rfl
      conv at hst => rhs; unfold stepF
      rw [e0] at hst
      generalize hc : bt T (i : Int) = c at *
      by_cases c1 : c = 32 ∨ c = 9
      · rw [if_pos c1, t1] at hst
        have hr := rest_step T told line frm any i hlt hf hl (i + 1) line _ told any frm (by omega) (by omega) (by omega) hst
        rw [hr]
        have nx := ih (T.size - (i + 1)) (by omega) told line frm any (i + 1) rfl (by omega) (by omega) hl (by omega) (by omega)
        have go : Ev (fun k => provostref05_Scan.j1 k T told line (frm : Int) any (i : Int) c ((i : Int) - frm + 1) ((i : Int) + 1) true) (rest T told line frm any (i + 1)) := by
          refine ev_succ ?_
          simp only [provostref05_Scan.j1]
          exact ev_pos trivial nx
        by_cases c32 : c = 32
        · exact ev_pos c32 go
        · refine ev_neg c32 ?_
          rw [beq_iff_eq.2 (c1.resolve_left c32)]
          exact go
      · rw [if_neg c1] at hst
        refine ev_neg (fun h => c1 (Or.inl h)) ?_
        rw [beq_eq_false_iff_ne.2 (fun h => c1 (Or.inr h))]
        refine ev_succ ?_
        simp only [provostref05_Scan.j1]
        refine ev_neg (by decide) ?_
        by_cases c2 : c = 35
        · rw [if_pos c2] at hst
          have hle := bgn_le notNl (tl T i)
          have hp := bgn_pos notNl (tl T i) (by omega) (by rw [e0, c2]; rfl)
          rw [tl_tl T i _ (by omega)] at hst
          have hr := rest_step T told line frm any i hlt hf hl (i + bgn notNl (tl T i)) line _ told any frm (by omega) (by omega) (by omega) hst
          rw [hr]
          have nx := ih (T.size - (i + bgn notNl (tl T i))) (by omega) told line frm any (i + bgn notNl (tl T i)) rfl (by omega) (by omega) hl (by omega) (by omega)
          exact ev_pos c2 (loop_nl T hT told line frm any i hlt (by rw [e0, c2]) _ nx _ 1 rfl (Nat.le_refl _) hp)
        · rw [if_neg c2] at hst
          refine ev_neg c2 ?_
          by_cases c3 : c = 10
          · rw [if_pos c3, t1] at hst
            refine ev_pos c3 ?_
            rw [wr (i := line) (by omega) (by omega)]
            have hr := rest_step T told line frm any i hlt hf hl (i + 1) (line + 1) _ _ false (i + 1) (by omega) (by omega) (by omega) hst
            rw [hr]
            by_cases ha : any = true
            · rw [if_pos ha]
              have nx := ih (T.size - (i + 1)) (by omega) (told ++ [(⟨4, ⟨#[]⟩, 0, line, (i : Int) - frm + 1⟩ : Tok)]) (line + 1) (i + 1) false (i + 1) rfl (by omega) (by omega) (by omega) (by omega) (by simp; omega)
              exact ev_pos ha (ev_pos (by omega) nx)
            · rw [if_neg ha]
              have nx := ih (T.size - (i + 1)) (by omega) told (line + 1) (i + 1) false (i + 1) rfl (by omega) (by omega) (by omega) (by omega) (by omega)
              exact ev_neg ha nx
          · rw [if_neg c3] at hst
            refine ev_neg c3 ?_
            rw [rletter]
            simp only [Option.bind_some]
            by_cases c4 : isSml c = true
            · rw [if_pos c4] at hst
              have hle := bgn_le isIn (tl T i)
              have hp := bgn_pos isIn (tl T i) (by omega) (by rw [e0]; unfold isIn; rw [c4]; rfl)
              refine ev_pos c4 (loop_in T hT told line frm _ _ i hlt _ ?_ _ 1 rfl (Nat.le_refl _) hp)
              refine ev_succ ?_
              simp only [provostref05_Scan.j5]
              have ew : wrap64 (((i + bgn isIn (tl T i) : Nat) : Int) - (i : Int)) = (bgn isIn (tl T i) : Nat) := by unfold wrap64; omega
              rw [ew]
              refine ev_neg (by decide) ?_
              by_cases c5 : bgn isIn (tl T i) > 24
              · rw [if_pos c5] at hst
                rw [rest_bad T told line frm any i hlt 4 (by decide) _ _ _ _ _ hst]
                exact ev_pos (by omega) (ev_some rfl)
              · rw [if_neg c5, tl_tl T i _ (by omega), tl_pre T i _ (by omega)] at hst
                have hr := rest_step T told line frm any i hlt hf hl (i + bgn isIn (tl T i)) line _ _ true frm (by omega) (by omega) (by omega) hst
                rw [hr]
                have nx := ih (T.size - (i + bgn isIn (tl T i))) (by omega) (told ++ [(⟨1, T.extract i (i + bgn isIn (tl T i)), 0, line, (i : Int) - frm + 1⟩ : Tok)]) line frm true (i + bgn isIn (tl T i)) rfl (by omega) (by omega) hl (by omega) (by simp; omega)
                rw [Int.toNat_natCast, Int.toNat_natCast]
                exact ev_neg (by omega) (ev_pos (by omega) (ev_pos (by omega) (ev_pos (by omega) (ev_pos (by omega) nx))))
            · rw [if_neg c4] at hst
              refine ev_neg c4 ?_
              rw [rdigit]
              simp only [Option.bind_some]
              by_cases c6 : isDig c = true
              · rw [if_pos c6] at hst
                have hle := bgn_le isDig (tl T i)
                have hp := bgn_pos isDig (tl T i) (by omega) (by rw [e0]; exact c6)
                obtain ⟨s1, s2⟩ := bgn_spec isDig (tl T i)
                have hall := bgn_all isDig (tl T i)
                refine ev_pos c6 (loop_dig T hT told line frm _ _ i hlt _ ?_ _ 1 rfl (Nat.le_refl _) hp)
                refine ev_succ ?_
                simp only [provostref05_Scan.j7]
                rw [Int.toNat_natCast, Int.toNat_natCast]
                refine ev_neg (by decide) (ev_pos (by omega) (ev_pos (by omega) (ev_pos (by omega) ?_)))
                have hnf : numF (tl T i) = if badN (tl T i) (bgn isDig (tl T i)) then ((0 : Int), (0 : Int)) else (((bgn isDig (tl T i) : Nat) : Int), valF ((bytesOf (tl T i)).take (bgn isDig (tl T i)))) := rfl
                have hxs : (T.extract i (i + bgn isDig (tl T i))).size = bgn isDig (tl T i) := by rw [ByteArray.size_extract]; omega
                have hxb : bytesOf (T.extract i (i + bgn isDig (tl T i))) = (bytesOf (tl T i)).take (bgn isDig (tl T i)) := by
                  rw [← tl_pre T i _ (by omega)]; exact bytesOf_pre _ _ hle
                have hxd : ∀ j : Nat, j < bgn isDig (tl T i) → bt (T.extract i (i + bgn isDig (tl T i))) (j : Int) = bt (tl T i) (j : Int) := by
                  intro j hj
                  rw [bt_list, bt_list, hxb, List.getD_eq_getElem?_getD, List.getD_eq_getElem?_getD, List.getElem?_take, if_pos hj]
                have hrt := right_ev (T.extract i (i + bgn isDig (tl T i))) (by omega) (fun j hj => by rw [hxd j (by omega)]; exact s1 j (by omega))
                have hx0 := hxd 0 (by omega)
                rw [show ((0 : Nat) : Int) = 0 from rfl, e0] at hx0
                have hbad : badN (tl T i) (bgn isDig (tl T i)) ↔ (rightB (T.extract i (i + bgn isDig (tl T i))) = false ∨ (bgn isDig (tl T i) < (tl T i).size ∧ isIn (bt (tl T i) (bgn isDig (tl T i) : Nat)) = true)) := by
                  unfold badN rightB
                  rw [hxs, hx0, e0]
                  constructor
                  · rintro (h | h | h | h)
                    · omega
                    · left; rw [decide_eq_false (by omega)]; rfl
                    · left; rw [decide_eq_true h.1, decide_eq_true h.2]; simp
                    · exact Or.inr h
                  · rintro (h | h)
                    · by_cases h9 : bgn isDig (tl T i) > 9
                      · exact Or.inr (Or.inl h9)
                      · rw [decide_eq_true (show bgn isDig (tl T i) ≤ 9 by omega)] at h
                        simp at h
                        exact Or.inr (Or.inr (Or.inl h))
                    · exact Or.inr (Or.inr (Or.inr h))
                generalize hnn : bgn isDig (tl T i) = m at *
                refine Ev.bind hrt ?_
                -- the faults
                have bad : badN (tl T i) m → Ev (fun k => provostref05_Scan.j8 k T told line (frm : Int) (i : Int) ((i : Int) - frm + 1) ((i + m : Nat) : Int) true) (rest T told line frm any i) := by
                  intro hb
                  rw [hnf, if_pos hb, if_pos rfl] at hst
                  rw [rest_bad T told line frm any i hlt 3 (by decide) _ _ _ _ _ hst]
                  refine ev_succ ?_
                  simp only [provostref05_Scan.j8]
                  exact ev_pos trivial (ev_some rfl)
                have good : ¬ badN (tl T i) m → Ev (fun k => provostref05_Scan.j8 k T told line (frm : Int) (i : Int) ((i : Int) - frm + 1) ((i + m : Nat) : Int) false) (rest T told line frm any i) := by
                  intro hb
                  have h9 : m ≤ 9 := by unfold badN at hb; omega
                  rw [hnf, if_neg hb, if_neg (show ¬ ((m : Int), valF ((bytesOf (tl T i)).take m)).1 = 0 by show ¬ (m : Int) = 0; omega)] at hst
                  simp only [Int.toNat_natCast] at hst
                  rw [tl_tl T i _ (by omega), tl_pre T i _ (by omega)] at hst
                  have hr := rest_step T told line frm any i hlt hf hl (i + m) line _ _ true frm (by omega) (by omega) (by omega) hst
                  rw [hr]
                  have nx := ih (T.size - (i + m)) (by omega) (told ++ [(⟨2, T.extract i (i + m), valF ((bytesOf (tl T i)).take m), line, (i : Int) - frm + 1⟩ : Tok)]) line frm true (i + m) rfl (by omega) (by omega) hl (by omega) (by simp; omega)
                  have hv := value_ev (T.extract i (i + m)) (by omega) (by rw [hxb]; exact hall)
                  rw [hxb] at hv
                  refine ev_succ ?_
                  simp only [provostref05_Scan.j8]
                  rw [Int.toNat_natCast, Int.toNat_natCast]
                  exact ev_neg (by decide) (ev_pos (by omega) (ev_pos (by omega) (ev_pos (by omega) (Ev.bind hv (ev_pos (by omega) nx)))))
                by_cases hrb : rightB (T.extract i (i + m)) = true
                · refine ev_pos hrb ?_
                  by_cases hmt : ((i + m : Nat) : Int) < (T.size : Int)
                  · refine ev_pos hmt (ev_pos (by omega) ?_)
                    rw [rletter]
                    simp only [Option.bind_some]
                    have hnd := s2 (by omega)
                    rw [bt_tl] at hnd
                    have hin : isIn (bt (tl T i) (m : Nat)) = (isSml (bt T ((i + m : Nat) : Int)) || bt T ((i + m : Nat) : Int) == 45) := by
                      rw [bt_tl]; unfold isIn; rw [hnd, Bool.or_false]
                    by_cases hs : isSml (bt T ((i + m : Nat) : Int)) = true
                    · refine ev_pos hs (bad (hbad.2 (Or.inr ⟨by omega, by rw [hin, hs]; rfl⟩)))
                    · refine ev_neg hs ?_
                      rw [Bool.eq_false_iff.mpr hs, Bool.false_or] at hin
                      by_cases h45 : (bt T ((i + m : Nat) : Int) == 45) = true
                      · rw [h45]; exact bad (hbad.2 (Or.inr ⟨by omega, by rw [hin, h45]⟩))
                      · rw [Bool.eq_false_iff.mpr h45]
                        refine good (fun hb => ?_)
                        rcases hbad.1 hb with h | h
                        · rw [hrb] at h; cases h
                        · rw [hin] at h; exact h45 h.2
                  · refine ev_neg hmt (good (fun hb => ?_))
                    rcases hbad.1 hb with h | h
                    · rw [hrb] at h; cases h
                    · omega
                · refine ev_neg hrb (bad (hbad.2 (Or.inl (Bool.eq_false_iff.mpr hrb))))
              · rw [if_neg c6] at hst
                refine ev_neg c6 ?_
                rw [rmark]
                simp only [Option.bind_some]
                by_cases c8 : isMark c = true
                · rw [if_pos c8, t1, p1] at hst
                  have hr := rest_step T told line frm any i hlt hf hl (i + 1) line _ _ true frm (by omega) (by omega) (by omega) hst
                  rw [hr]
                  have nx := ih (T.size - (i + 1)) (by omega) (told ++ [(⟨3, T.extract i (i + 1), 0, line, (i : Int) - frm + 1⟩ : Tok)]) line frm true (i + 1) rfl (by omega) (by omega) hl (by omega) (by simp; omega)
                  rw [show ((i : Int) + 1) = ((i + 1 : Nat) : Int) by omega, Int.toNat_natCast, Int.toNat_natCast]
                  exact ev_pos c8 (ev_pos (by omega) (ev_pos (by omega) (ev_pos (by omega) (ev_pos (by omega) nx))))
                · rw [if_neg c8] at hst
                  rw [rest_bad T told line frm any i hlt 3 (by decide) _ _ _ _ _ hst]
                  exact ev_neg c8 (ev_some rfl)
    · obtain rfl : i = T.size := by omega
      refine ev_neg (by omega) ?_
      have ecol : wrap64 (wrap64 ((T.size : Int) - (frm : Int)) + 1) = (T.size : Int) - frm + 1 := by unfold wrap64; omega
      unfold rest
      have hz : (tl T T.size).size = 0 := by omega
      rw [ecol, scanR, if_pos hz]
      by_cases ha : any = true
      · refine ev_pos ha (ev_pos (by omega) (ev_some ?_))
        rw [if_pos ha]
      · refine ev_neg ha (ev_some ?_)
        rw [if_neg ha]
end
end Go.Proofs.Ytpcnpmcknknfcaa.PLsc
