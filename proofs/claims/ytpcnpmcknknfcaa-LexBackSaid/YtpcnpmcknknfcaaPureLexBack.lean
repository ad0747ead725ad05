/- LexBack: what Show writes, Scan reads again. -/
import Derived.Test.YtpcnpmcknknfcaaPureLexT
import Derived.Test.YtpcnpmcknknfcaaPLbkx4
import Derived.Test.YtpcnpmcknknfcaaPLbkx4
import Derived.Test.YtpcnpmcknknfcaaPLbkx5
namespace Go.Proofs.Ytpcnpmcknknfcaa.PLbk
open Go.RowKit Go.Proofs.YtpcnpmcknknfcaaW.PrintWords Go.Proofs.YtpcnpmcknknfcaaW.PrintLast Go.Proofs.YtpcnpmcknknfcaaW.PrintMore Go.Proofs.YtpcnpmcknknfcaaW.Mine
set_option linter.unusedVariables false
def mkB (l : List UInt8) : ByteArray := ⟨l.toArray⟩
theorem mk_self (s : ByteArray) : mkB s.data.toList = s := rfl
theorem by_mk (l : List UInt8) : bytesOf (mkB l) = l.map (fun b : UInt8 => (b.toNat : Int)) := by simp [bytesOf, mkB]
theorem by_app (a b : List UInt8) : bytesOf (mkB (a ++ b)) = bytesOf (mkB a) ++ bytesOf (mkB b) := by rw [by_mk, by_mk, by_mk, List.map_append]
theorem mk_size (l : List UInt8) : (mkB l).size = l.length := by
  have := bytesOf_length (mkB l)
  rw [by_mk, List.length_map] at this
  omega
theorem bt_mk0 (c : UInt8) (l : List UInt8) : bt (mkB (c :: l)) 0 = (c.toNat : Int) := by
  have := bt_list (mkB (c :: l)) 0
  rw [by_mk] at this
  simpa using this
theorem bt_app0 (s : ByteArray) (r : List UInt8) (h : 1 ≤ s.size) : bt (mkB (s.data.toList ++ r)) 0 = bt s 0 := by
  have h1 := bt_list (mkB (s.data.toList ++ r)) 0
  have h2 := bt_list s 0
  rw [by_app, mk_self] at h1
  have hl := bytesOf_length s
  rw [show ((0 : Nat) : Int) = 0 from rfl] at h1 h2
  rw [h1, h2, List.getD_eq_getElem?_getD, List.getD_eq_getElem?_getD, List.getElem?_append_left (by omega)]
theorem ex_tail (a b : List UInt8) : (mkB (a ++ b)).extract a.length (mkB (a ++ b)).size = mkB b := by
  apply bytes_inj
  have hl : (bytesOf (mkB a)).length = a.length := by rw [by_mk, List.length_map]
  rw [bytesOf_ext, List.take_of_length_le (by rw [bytesOf_length]; omega), by_app, ← hl, List.drop_left]
theorem ex_head (a b : List UInt8) : (mkB (a ++ b)).extract 0 a.length = mkB a := by
  apply bytes_inj
  have hl : (bytesOf (mkB a)).length = a.length := by rw [by_mk, List.length_map]
  rw [bytesOf_ext, by_app, ← hl, List.take_left, List.drop_zero]
theorem bgn_full (p : Int → Bool) (s : ByteArray) (h : ∀ c ∈ bytesOf s, p c = true) : bgn p s = s.size := by
  unfold bgn
  have := List.takeWhile_append_of_pos (l₂ := []) h
  rw [List.append_nil, List.takeWhile_nil, List.append_nil] at this
  rw [this, bytesOf_length]
theorem full_bgn (p : Int → Bool) (s : ByteArray) (h : bgn p s = s.size) : ∀ c ∈ bytesOf s, p c = true := by
  have := bgn_all p s
  rw [h, List.take_of_length_le (by rw [bytesOf_length]; omega)] at this
  exact this
theorem bgn_cut (p : Int → Bool) (s : ByteArray) (c : UInt8) (r : List UInt8) (h : ∀ c ∈ bytesOf s, p c = true) (hc : p (c.toNat : Int) = false) : bgn p (mkB (s.data.toList ++ c :: r)) = s.size := by
  unfold bgn
  rw [by_app, mk_self, List.takeWhile_append_of_pos h, by_mk, List.map_cons, List.takeWhile_cons_of_neg (by rw [hc]; decide), List.append_nil, bytesOf_length]
/-! which tokens can be written down, and how -/
def GoodT : List Tok → Bool → Prop
  | [], begun => begun = false
  | t :: l, begun => rightT t = true ∧ ((t.f0 = 4 ∧ begun = true ∧ GoodT l false) ∨ (t.f0 ≠ 4 ∧ GoodT l true))
def Wt : List Tok → Bool → List UInt8
  | [], _ => []
  | t :: l, begun => if t.f0 = 4 then 10 :: Wt l false else (if begun = true then (if isComma t.f1 = true then [] else [32]) else []) ++ (t.f1.data.toList ++ Wt l true)
theorem show_good : ∀ (L : List Tok) (begun : Bool) (acc : List UInt8), GoodT L begun → showG L acc begun = some (acc ++ Wt L begun)
  | [], begun, acc, h => by
    have h : begun = false := h
    subst h
    rw [showG, if_neg (by decide), Wt, List.append_nil]
  | t :: l, begun, acc, h => by
    obtain ⟨h1, h⟩ := h
    rw [showG, if_pos h1, Wt]
    rcases h with ⟨h2, rfl, h3⟩ | ⟨h2, h3⟩
    · rw [if_pos h2, if_pos rfl, if_pos h2, show_good l false _ h3, List.append_assoc]; rfl
    · rw [if_neg h2, if_neg h2, show_good l true _ h3, List.append_assoc]
      congr 1
      cases begun with
      | false => rfl
      | true =>
        rw [if_pos rfl, if_pos rfl]
        split
        · rfl
        · rw [List.append_assoc]
theorem good_right : ∀ (L : List Tok) (begun : Bool), GoodT L begun → ∀ t ∈ L, rightT t = true
  | [], _, _, t, ht => by cases ht
  | x :: l, begun, h, t, ht => by
    rcases List.mem_cons.1 ht with rfl | ht
    · exact h.1
    · rcases h.2 with ⟨_, _, h3⟩ | ⟨_, h3⟩
      · exact good_right l _ h3 t ht
      · exact good_right l _ h3 t ht
/-! the same but for the places -/
def AlikeT : List Tok → List Tok → Prop
  | [], [] => True
  | a :: l, b :: m => (a.f0 = b.f0 ∧ a.f1 = b.f1 ∧ a.f2 = b.f2) ∧ AlikeT l m
  | [], _ :: _ => False
  | _ :: _, [] => False
theorem alike_len : ∀ (l m : List Tok), AlikeT l m → l.length = m.length
  | [], [], _ => rfl
  | a :: l, b :: m, h => by rw [List.length_cons, List.length_cons, alike_len l m h.2]
  | [], _ :: _, h => h.elim
  | _ :: _, [], h => h.elim
theorem alike_get : ∀ (l m : List Tok) (j : Nat), AlikeT l m → (l.getD j z40).f0 = (m.getD j z40).f0 ∧ (l.getD j z40).f1 = (m.getD j z40).f1 ∧ (l.getD j z40).f2 = (m.getD j z40).f2
  | [], [], _, _ => ⟨rfl, rfl, rfl⟩
  | a :: l, b :: m, 0, h => h.1
  | a :: l, b :: m, j + 1, h => by simpa using alike_get l m j h.2
  | [], _ :: _, _, h => h.elim
  | _ :: _, [], _, h => h.elim
theorem alike_right (a b : Tok) (h : a.f0 = b.f0 ∧ a.f1 = b.f1 ∧ a.f2 = b.f2) : rightT a = rightT b := by
  unfold rightT
  rw [h.1, h.2.1, h.2.2]
theorem alike_show : ∀ (l m : List Tok) (acc : List UInt8) (begun : Bool), AlikeT l m → showG l acc begun = showG m acc begun
  | [], [], _, _, _ => rfl
  | a :: l, b :: m, acc, begun, h => by
    rw [showG, showG, alike_right a b h.1, h.1.1, h.1.2.1, alike_show l m (acc ++ [10]) false h.2, alike_show l m _ true h.2]
  | [], _ :: _, _, _, h => h.elim
  | _ :: _, [], _, _, h => h.elim
/-! what was written is read again -/
theorem scan_go {k : Nat} {s : ByteArray} {line col : Int} {told : List Tok} {any : Bool} {s2 : ByteArray} {l2 c2 : Int} {t2 : List Tok} {a2 : Bool} (hs : s.size ≠ 0) (h : stepF s line col told any = (0, s2, l2, c2, t2, a2)) :
    scanR (k + 1) s line col told any = scanR k s2 l2 c2 t2 a2 := by
  rw [scanR, if_neg hs, h, if_pos rfl]
theorem comma_eq (s : ByteArray) (h : isComma s = true) : ∃ c : UInt8, s.data.toList = [c] ∧ (c = 44 ∨ c = 58) := by
  unfold isComma at h
  rw [ByteArray.toList_eq] at h
  simp only [Bool.or_eq_true, beq_iff_eq] at h
  rcases h with h | h
  · exact ⟨44, h, Or.inl rfl⟩
  · exact ⟨58, h, Or.inr rfl⟩
theorem next_byte (l : List Tok) (h : GoodT l true) : ∃ (c : UInt8) (r : List UInt8), Wt l true = c :: r ∧ (c = 10 ∨ c = 32 ∨ c = 44 ∨ c = 58) := by
  match l, h with
  | [], h => exact absurd (show true = false from h) (by decide)
  | t :: l, h =>
    rw [Wt]
    by_cases h4 : t.f0 = 4
    · rw [if_pos h4]; exact ⟨10, _, rfl, Or.inl rfl⟩
    · rw [if_neg h4, if_pos rfl]
      by_cases hc : isComma t.f1 = true
      · rw [if_pos hc]
        obtain ⟨c, e, hcc⟩ := comma_eq _ hc
        rw [e]
        exact ⟨c, _, rfl, Or.inr (Or.inr hcc)⟩
      · rw [if_neg hc]; exact ⟨32, _, rfl, Or.inr (Or.inl rfl)⟩
theorem next_kinds (c : UInt8) (h : c = 10 ∨ c = 32 ∨ c = 44 ∨ c = 58) : isIn (c.toNat : Int) = false ∧ isDig (c.toNat : Int) = false := by
  rcases h with rfl | rfl | rfl | rfl <;> exact ⟨by decide, by decide⟩
theorem sml_not (c : Int) (h : isSml c = true) : ¬ (c = 32 ∨ c = 9) ∧ ¬ c = 35 ∧ ¬ c = 10 := by
  unfold isSml at h
  simp only [Bool.and_eq_true, decide_eq_true_eq] at h
  omega
theorem dig_not (c : Int) (h : isDig c = true) : ¬ (c = 32 ∨ c = 9) ∧ ¬ c = 35 ∧ ¬ c = 10 ∧ isSml c = false := by
  unfold isDig at h
  simp only [Bool.and_eq_true, decide_eq_true_eq] at h
  refine ⟨by omega, by omega, by omega, ?_⟩
  unfold isSml
  rw [decide_eq_false (by omega), Bool.false_and]
theorem mark_not (c : Int) (h : isMark c = true) : ¬ (c = 32 ∨ c = 9) ∧ ¬ c = 35 ∧ ¬ c = 10 ∧ isSml c = false ∧ isDig c = false := by
  unfold isMark at h
  simp only [Bool.or_eq_true, beq_iff_eq] at h
  refine ⟨by omega, by omega, by omega, ?_, ?_⟩
  · unfold isSml
    rw [decide_eq_false (by omega), Bool.false_and]
  · unfold isDig
    rcases (show c < 48 ∨ 57 < c by omega) with h | h
    · rw [decide_eq_false (by omega), Bool.false_and]
    · rw [decide_eq_false (show ¬ c ≤ 57 by omega), Bool.and_false]
/-- a token that is no end of a line is read again as it stands -/
theorem step_tok (t : Tok) (ht : rightT t = true) (h4 : t.f0 ≠ 4) (c : UInt8) (r : List UInt8) (hc : c = 10 ∨ c = 32 ∨ c = 44 ∨ c = 58) (line col : Int) (told : List Tok) (any : Bool) :
    1 ≤ t.f1.size ∧ ∃ col2, stepF (mkB (t.f1.data.toList ++ c :: r)) line col told any = (0, mkB (c :: r), line, col2, told ++ [(⟨t.f0, t.f1, t.f2, line, col⟩ : Tok)], true) := by
  obtain ⟨n1, n2⟩ := next_kinds c hc
  have hlen : t.f1.data.toList.length = t.f1.size := by simp
  have xt := ex_tail t.f1.data.toList (c :: r)
  have xh := ex_head t.f1.data.toList (c :: r)
  rw [hlen] at xt xh
  rw [mk_self] at xh
  unfold rightT at ht
  by_cases k1 : t.f0 = 1
  · rw [if_pos k1] at ht
    unfold legF at ht
    simp only [Bool.and_eq_true, decide_eq_true_eq, beq_iff_eq] at ht
    obtain ⟨⟨⟨⟨h24, hall⟩, h1⟩, hs⟩, hn⟩ := ht
    refine ⟨h1, col + (t.f1.size : Int), ?_⟩
    have hb := bgn_cut isIn t.f1 c r (full_bgn isIn t.f1 hall) n1
    have h0 := bt_app0 t.f1 (c :: r) h1
    obtain ⟨m1, m2, m3⟩ := sml_not _ hs
    unfold stepF
    rw [h0, if_neg m1, if_neg m2, if_neg m3, if_pos hs, hb, if_neg (by omega), xt, xh, k1, hn]
  · rw [if_neg k1] at ht
    by_cases k2 : t.f0 = 2
    · rw [if_pos k2] at ht
      simp only [Bool.and_eq_true, decide_eq_true_eq, beq_iff_eq] at ht
      obtain ⟨⟨hp, hq⟩, hv⟩ := ht
      have hnf : numF t.f1 = if badN t.f1 (bgn isDig t.f1) then ((0 : Int), (0 : Int)) else (((bgn isDig t.f1 : Nat) : Int), valF ((bytesOf t.f1).take (bgn isDig t.f1))) := rfl
      by_cases hbad : badN t.f1 (bgn isDig t.f1)
      · rw [hnf, if_pos hbad] at hp; exact absurd hp (by decide)
      rw [hnf, if_neg hbad] at hp hq hv
      have hsz : bgn isDig t.f1 = t.f1.size := by have : ((bgn isDig t.f1 : Nat) : Int) = (t.f1.size : Int) := hq; omega
      have hall := full_bgn isDig t.f1 hsz
      have hv : valF ((bytesOf t.f1).take (bgn isDig t.f1)) = t.f2 := hv
      rw [hsz] at hbad hv
      have h1 : 1 ≤ t.f1.size := by unfold badN at hbad; omega
      refine ⟨h1, col + (t.f1.size : Int), ?_⟩
      have hb := bgn_cut isDig t.f1 c r hall n2
      have h0 := bt_app0 t.f1 (c :: r) h1
      have hd : isDig (bt t.f1 0) = true := by
        have e := bt_list t.f1 0
        rw [show ((0 : Nat) : Int) = 0 from rfl] at e
        have hl := bytesOf_length t.f1
        rw [e, List.getD_eq_getElem?_getD, List.getElem?_eq_getElem (by omega)]
        exact hall _ (List.getElem_mem _)
      obtain ⟨m1, m2, m3, m4⟩ := dig_not _ hd
      have hnx : bt (mkB (t.f1.data.toList ++ c :: r)) (t.f1.size : Nat) = (c.toNat : Int) := by
        rw [bt_list, by_app, mk_self, List.getD_eq_getElem?_getD, List.getElem?_append_right (by rw [bytesOf_length]; omega), bytesOf_length, Nat.sub_self, by_mk]
        rfl
      have hnf2 : numF (mkB (t.f1.data.toList ++ c :: r)) = ((t.f1.size : Int), t.f2) := by
        unfold numF
        rw [hb, if_neg, by_app, mk_self, List.take_left' (bytesOf_length _)]
        · rw [List.take_of_length_le (by rw [bytesOf_length]; omega)] at hv
          rw [hv]
        · unfold badN at hbad ⊢
          rw [h0, hnx, n1]
          simp only [Bool.false_eq_true, and_false, or_false]
          omega
      unfold stepF
      rw [h0, if_neg m1, if_neg m2, if_neg m3, m4, if_neg (by decide), if_pos hd, hnf2]
      have hz : ¬ ((t.f1.size : Int), t.f2).1 = 0 := by show ¬ (t.f1.size : Int) = 0; omega
      rw [if_neg hz]
      simp only [Int.toNat_natCast]
      rw [xt, xh, k2]
    · rw [if_neg k2] at ht
      by_cases k3 : t.f0 = 3
      · rw [if_pos k3] at ht
        simp only [Bool.and_eq_true, decide_eq_true_eq, beq_iff_eq] at ht
        obtain ⟨⟨h1, hm⟩, hn⟩ := ht
        refine ⟨by omega, col + 1, ?_⟩
        have h0 := bt_app0 t.f1 (c :: r) (by omega)
        obtain ⟨m1, m2, m3, m4, m5⟩ := mark_not _ hm
        rw [h1] at xt xh
        unfold stepF
        rw [h0, if_neg m1, if_neg m2, if_neg m3, m4, if_neg (by decide), m5, if_neg (by decide), if_pos hm, xt, xh, k3, hn]
      · rw [if_neg k3] at ht
        simp only [Bool.and_eq_true, beq_iff_eq] at ht
        exact absurd ht.1.1 h4
theorem step_blank (l : List UInt8) (line col : Int) (told : List Tok) (any : Bool) : stepF (mkB (32 :: l)) line col told any = (0, mkB l, line, col + 1, told, any) := by
  have h0 := bt_mk0 32 l
  have xt := ex_tail [32] l
  unfold stepF
  rw [h0, if_pos (by decide)]
  have : (mkB (32 :: l)).extract 1 (mkB (32 :: l)).size = mkB l := xt
  rw [this]
theorem step_line (l : List UInt8) (line col : Int) (told : List Tok) : stepF (mkB (10 :: l)) line col told true = (0, mkB l, line + 1, 1, told ++ [(⟨4, ⟨#[]⟩, 0, line, col⟩ : Tok)], false) := by
  have h0 := bt_mk0 10 l
  have xt : (mkB (10 :: l)).extract 1 (mkB (10 :: l)).size = mkB l := ex_tail [10] l
  unfold stepF
  rw [h0, if_neg (by decide), if_neg (by decide), if_pos (by decide), if_pos rfl, xt]
theorem rescan : ∀ (L : List Tok) (begun : Bool) (k : Nat) (line col : Int) (told : List Tok), GoodT L begun → (Wt L begun).length < k → ∃ M, AlikeT L M ∧ scanR k (mkB (Wt L begun)) line col told begun = (told ++ M, 0, 0, 0)
  | [], begun, k, line, col, told, h, hk => by
    have h : begun = false := h
    subst h
    obtain ⟨k, rfl⟩ : ∃ q, k = q + 1 := ⟨k - 1, by omega⟩
    exact ⟨[], trivial, by rw [scanR, if_pos (by rw [mk_size, Wt]; rfl), if_neg (by decide), List.append_nil]⟩
  | t :: l, begun, k, line, col, told, h, hk => by
    obtain ⟨h1, h⟩ := h
    rcases h with ⟨h2, rfl, h3⟩ | ⟨h2, h3⟩
    · have hW : Wt (t :: l) true = 10 :: Wt l false := by rw [Wt, if_pos h2]
      rw [hW] at hk ⊢
      rw [List.length_cons] at hk
      obtain ⟨k, rfl⟩ : ∃ q, k = q + 1 := ⟨k - 1, by omega⟩
      obtain ⟨M, a1, a2⟩ := rescan l false k (line + 1) 1 (told ++ [(⟨4, ⟨#[]⟩, 0, line, col⟩ : Tok)]) h3 (by omega)
      refine ⟨⟨4, ⟨#[]⟩, 0, line, col⟩ :: M, ⟨?_, a1⟩, ?_⟩
      · unfold rightT at h1
        rw [h2, if_neg (by decide), if_neg (by decide), if_neg (by decide)] at h1
        simp only [Bool.and_eq_true, decide_eq_true_eq, beq_iff_eq] at h1
        refine ⟨h2, ?_, h1.2⟩
        apply bytes_inj
        have e : (bytesOf t.f1).length = 0 := by rw [bytesOf_length]; exact h1.1.2
        rw [List.eq_nil_of_length_eq_zero e]; rfl
      · rw [scan_go (by rw [mk_size]; simp) (step_line _ _ _ _), a2, List.append_assoc]; rfl
    · obtain ⟨c, r, hr, hc⟩ := next_byte l h3
      have tok : ∀ (k : Nat) (col : Int), (t.f1.data.toList ++ Wt l true).length < k → ∃ M, AlikeT (t :: l) M ∧ scanR k (mkB (t.f1.data.toList ++ Wt l true)) line col told begun = (told ++ M, 0, 0, 0) := by
        intro k col hk
        obtain ⟨k, rfl⟩ : ∃ q, k = q + 1 := ⟨k - 1, by omega⟩
        obtain ⟨hs, col2, st⟩ := step_tok t h1 h2 c r hc line col told begun
        rw [← hr] at st
        have hlen : t.f1.data.toList.length = t.f1.size := by simp
        rw [List.length_append] at hk
        obtain ⟨M, a1, a2⟩ := rescan l true k line col2 (told ++ [(⟨t.f0, t.f1, t.f2, line, col⟩ : Tok)]) h3 (by omega)
        exact ⟨⟨t.f0, t.f1, t.f2, line, col⟩ :: M, ⟨⟨rfl, rfl, rfl⟩, a1⟩, by rw [scan_go (by rw [mk_size, List.length_append]; omega) st, a2, List.append_assoc]; rfl⟩
      have hW : Wt (t :: l) begun = (if begun = true then (if isComma t.f1 = true then [] else [32]) else []) ++ (t.f1.data.toList ++ Wt l true) := by rw [Wt, if_neg h2]
      rw [hW] at hk ⊢
      by_cases hb : begun = true ∧ ¬ isComma t.f1 = true
      · rw [if_pos hb.1, if_neg hb.2] at hk ⊢
        simp only [List.cons_append, List.nil_append, List.length_cons] at hk ⊢
        obtain ⟨k, rfl⟩ : ∃ q, k = q + 1 := ⟨k - 1, by omega⟩
        rw [scan_go (by rw [mk_size]; simp) (step_blank _ _ _ _ _)]
        exact tok k (col + 1) (by omega)
      · have e : (if begun = true then (if isComma t.f1 = true then [] else [32]) else [] : List UInt8) = [] := by
          by_cases h5 : begun = true
          · rw [if_pos h5, if_pos (by by_cases h6 : isComma t.f1 = true; exact h6; exact absurd ⟨h5, h6⟩ hb)]
          · rw [if_neg h5]
        rw [e, List.nil_append] at hk ⊢
        exact tok k col hk
/-! what Scan tells can be written down -/
theorem pre_right (T : ByteArray) (i : Nat) (n : Nat) (hn : i + n ≤ T.size) : bytesOf (T.extract i (i + n)) = (bytesOf (tl T i)).take n ∧ (T.extract i (i + n)).size = n ∧ (1 ≤ n → bt (T.extract i (i + n)) 0 = bt T (i : Int)) := by
  have hxs : (T.extract i (i + n)).size = n := by rw [ByteArray.size_extract]; omega
  have hb : bytesOf (T.extract i (i + n)) = (bytesOf (tl T i)).take n := by
    rw [← tl_pre T i n hn]; exact bytesOf_pre _ _ (by rw [tl_sz T i (by omega)]; omega)
  refine ⟨hb, hxs, fun h1 => ?_⟩
  have e1 := bt_list (T.extract i (i + n)) 0
  have e2 := bt_tl T i 0
  have e3 := bt_list (tl T i) 0
  rw [show ((0 : Nat) : Int) = 0 from rfl] at e1 e2 e3
  rw [e1, hb, List.getD_eq_getElem?_getD, List.getElem?_take, if_pos (by omega), ← List.getD_eq_getElem?_getD, ← e3, e2, Nat.add_zero]
theorem scan_good (T : ByteArray) (n : Nat) : ∀ (told : List Tok) (line : Int) (frm : Nat) (any : Bool) (i : Nat), T.size - i = n → i ≤ T.size → frm ≤ i → 1 ≤ line → (rest T told line frm any i).2.1 = 0 →
    ∃ l, (rest T told line frm any i).1 = told ++ l ∧ GoodT l any := by
  induction n using Nat.strongRecOn with
  | ind n ih =>
    intro told line frm any i hn hi hf hl h0
    have hsz := tl_sz T i hi
    by_cases hlt : i < T.size
    · have e0 : bt (tl T i) 0 = bt T (i : Int) := by have := bt_tl T i 0; simpa using this
      have t1 : (tl T i).extract 1 (tl T i).size = tl T (i + 1) := tl_tl T i 1 (by omega)
      have p1 : (tl T i).extract 0 1 = T.extract i (i + 1) := tl_pre T i 1 (by omega)
      have tok : ∀ (m : Nat) (kd v : Int), 1 ≤ m → i + m ≤ T.size → kd ≠ 4 → (∀ col, rightT ⟨kd, T.extract i (i + m), v, line, col⟩ = true) →
          stepF (tl T i) line ((i : Int) - frm + 1) told any = (0, tl T (i + m), line, (i : Int) - frm + 1 + (m : Nat), told ++ [(⟨kd, T.extract i (i + m), v, line, (i : Int) - frm + 1⟩ : Tok)], true) →
          ∃ l, (rest T told line frm any i).1 = told ++ l ∧ GoodT l any := by
        intro m kd v hm him hkd hrt hst
        have hrs := rest_step T told line frm any i hlt hf hl (i + m) line _ _ true frm him (by omega) (by omega) hst
        rw [hrs] at h0 ⊢
        obtain ⟨l, e1, e2⟩ := ih (T.size - (i + m)) (by omega) _ line frm true (i + m) rfl him (by omega) hl h0
        exact ⟨_ :: l, by rw [e1, List.append_assoc]; rfl, hrt _, Or.inr ⟨hkd, e2⟩⟩
      have hst : stepF (tl T i) line ((i : Int) - frm + 1) told any = stepF (tl T i) line ((i : Int) - frm + 1) told any := rfl
      conv at hst => rhs; unfold stepF
      rw [e0] at hst
      by_cases c1 : bt T (i : Int) = 32 ∨ bt T (i : Int) = 9
      · rw [if_pos c1, t1] at hst
        have hrs := rest_step T told line frm any i hlt hf hl (i + 1) line _ told any frm (by omega) (by omega) (by omega) hst
        rw [hrs] at h0 ⊢
        exact ih (T.size - (i + 1)) (by omega) told line frm any (i + 1) rfl (by omega) (by omega) hl h0
      · rw [if_neg c1] at hst
        by_cases c2 : bt T (i : Int) = 35
        · rw [if_pos c2] at hst
          have hle := bgn_le notNl (tl T i)
          have hp := bgn_pos notNl (tl T i) (by omega) (by rw [e0, c2]; rfl)
          rw [tl_tl T i _ (by omega)] at hst
          have hrs := rest_step T told line frm any i hlt hf hl (i + bgn notNl (tl T i)) line _ told any frm (by omega) (by omega) (by omega) hst
          rw [hrs] at h0 ⊢
          exact ih (T.size - (i + bgn notNl (tl T i))) (by omega) told line frm any (i + bgn notNl (tl T i)) rfl (by omega) (by omega) hl h0
        · rw [if_neg c2] at hst
          by_cases c3 : bt T (i : Int) = 10
          · rw [if_pos c3, t1] at hst
            have hrs := rest_step T told line frm any i hlt hf hl (i + 1) (line + 1) _ _ false (i + 1) (by omega) (by omega) (by omega) hst
            rw [hrs] at h0 ⊢
            cases any with
            | true =>
              rw [if_pos rfl] at h0 ⊢
              obtain ⟨l, e1, e2⟩ := ih (T.size - (i + 1)) (by omega) _ (line + 1) (i + 1) false (i + 1) rfl (by omega) (by omega) (by omega) h0
              exact ⟨_ :: l, by rw [e1, List.append_assoc]; rfl, rfl, Or.inl ⟨rfl, rfl, e2⟩⟩
            | false =>
              rw [if_neg (by decide)] at h0 ⊢
              exact ih (T.size - (i + 1)) (by omega) _ (line + 1) (i + 1) false (i + 1) rfl (by omega) (by omega) (by omega) h0
          · rw [if_neg c3] at hst
            by_cases c4 : isSml (bt T (i : Int)) = true
            · rw [if_pos c4] at hst
              by_cases c5 : bgn isIn (tl T i) > 24
              · rw [if_pos c5] at hst
                rw [rest_bad T told line frm any i hlt 4 (by decide) _ _ _ _ _ hst] at h0
                exact absurd h0 (show ¬ (4 : Int) = 0 by decide)
              · rw [if_neg c5] at hst
                have hle := bgn_le isIn (tl T i)
                have hp := bgn_pos isIn (tl T i) (by omega) (by rw [e0]; unfold isIn; rw [c4]; rfl)
                have hall := bgn_all isIn (tl T i)
                rw [tl_tl T i _ (by omega), tl_pre T i _ (by omega)] at hst
                refine tok _ _ _ hp (by omega) (by decide) (fun col => ?_) hst
                obtain ⟨x1, x2, x3⟩ := pre_right T i (bgn isIn (tl T i)) (by omega)
                have hf := bgn_full isIn (T.extract i (i + bgn isIn (tl T i))) (by rw [x1]; exact hall)
                show (legF (T.extract i (i + bgn isIn (tl T i))) && ((0 : Int) == 0)) = true
                unfold legF
                rw [hf, x2, x3 hp, c4, decide_eq_true (by omega), decide_eq_true rfl, decide_eq_true (by omega)]
                rfl
            · rw [if_neg c4] at hst
              by_cases c6 : isDig (bt T (i : Int)) = true
              · rw [if_pos c6] at hst
                have hnf : numF (tl T i) = if badN (tl T i) (bgn isDig (tl T i)) then ((0 : Int), (0 : Int)) else (((bgn isDig (tl T i) : Nat) : Int), valF ((bytesOf (tl T i)).take (bgn isDig (tl T i)))) := rfl
                have hle := bgn_le isDig (tl T i)
                have hp := bgn_pos isDig (tl T i) (by omega) (by rw [e0]; exact c6)
                have hall := bgn_all isDig (tl T i)
                by_cases hbad : badN (tl T i) (bgn isDig (tl T i))
                · rw [hnf, if_pos hbad, if_pos rfl] at hst
                  rw [rest_bad T told line frm any i hlt 3 (by decide) _ _ _ _ _ hst] at h0
                  exact absurd h0 (show ¬ (3 : Int) = 0 by decide)
                · rw [hnf, if_neg hbad] at hst
                  generalize hm : bgn isDig (tl T i) = m at *
                  rw [if_neg (show ¬ ((m : Int), valF ((bytesOf (tl T i)).take m)).1 = 0 by show ¬ (m : Int) = 0; omega)] at hst
                  simp only [Int.toNat_natCast] at hst
                  rw [tl_tl T i _ (by omega), tl_pre T i _ (by omega)] at hst
                  refine tok _ _ _ hp (by omega) (by decide) (fun col => ?_) hst
                  obtain ⟨x1, x2, x3⟩ := pre_right T i m (by omega)
                  have hf := bgn_full isDig (T.extract i (i + m)) (by rw [x1]; exact hall)
                  have hnx : numF (T.extract i (i + m)) = ((m : Int), valF ((bytesOf (tl T i)).take m)) := by
                    unfold numF
                    rw [hf, x2, if_neg, x1, List.take_take, Nat.min_self]
                    unfold badN at hbad ⊢
                    rw [e0] at hbad
                    rw [x2, x3 hp]
                    omega
                  show (decide ((numF (T.extract i (i + m))).1 > 0) && ((numF (T.extract i (i + m))).1 == ((T.extract i (i + m)).size : Int)) && ((numF (T.extract i (i + m))).2 == valF ((bytesOf (tl T i)).take m))) = true
                  rw [hnx, x2]
                  simp only [Bool.and_eq_true, decide_eq_true_eq, beq_self_eq_true, and_true]
                  omega
              · rw [if_neg c6] at hst
                by_cases c8 : isMark (bt T (i : Int)) = true
                · rw [if_pos c8, t1, p1] at hst
                  refine tok 1 3 0 (Nat.le_refl _) (by omega) (by decide) (fun col => ?_) hst
                  obtain ⟨x1, x2, x3⟩ := pre_right T i 1 (by omega)
                  show (decide ((T.extract i (i + 1)).size = 1) && isMark (bt (T.extract i (i + 1)) 0) && ((0 : Int) == 0)) = true
                  rw [x2, x3 (Nat.le_refl _), c8]
                  rfl
                · rw [if_neg c8] at hst
                  rw [rest_bad T told line frm any i hlt 3 (by decide) _ _ _ _ _ hst] at h0
                  exact absurd h0 (show ¬ (3 : Int) = 0 by decide)
    · have hz : (tl T i).size = 0 := by omega
      unfold rest
      rw [scanR, if_pos hz]
      cases any with
      | true => rw [if_pos rfl]; exact ⟨_, rfl, rfl, Or.inl ⟨rfl, rfl, rfl⟩⟩
      | false => rw [if_neg (by decide)]; exact ⟨[], (List.append_nil _).symm, rfl⟩
theorem wakes_ok : provostlaw05_wakes.f = some true := by
  unfold provostlaw05_wakes.f
  simp only [ByteArray.toList_eq]
  decide +kernel
theorem scan_len : ∀ (k : Nat) (s : ByteArray) (line col : Int) (told : List Tok) (any : Bool), 1 ≤ line → 1 ≤ col → (scanR k s line col told any).1.length ≤ told.length + s.size + 1 := by
  intro k
  induction k with
  | zero => intro s line col told any hl hc; rw [scanR]; simp
  | succ k ih =>
    intro s line col told any hl hc
    rw [scanR]
    by_cases h0 : s.size = 0
    · rw [if_pos h0]
      split <;> (try simp only [List.length_append, List.length_cons, List.length_nil]) <;> omega
    · rw [if_neg h0]
      by_cases he : (stepF s line col told any).1 = 0
      · rw [if_pos he]
        obtain ⟨d1, d2, d3, _, d5, _⟩ := step_bd s line col told any (by omega) he hl hc
        have := ih (stepF s line col told any).2.1 (stepF s line col told any).2.2.1 (stepF s line col told any).2.2.2.1 (stepF s line col told any).2.2.2.2.1 (stepF s line col told any).2.2.2.2.2 d3 d5
        omega
      · rw [if_neg he]; simp
theorem scan_nil : ∀ (k : Nat) (s : ByteArray) (line col : Int) (told : List Tok) (any : Bool), (scanR k s line col told any).2.1 ≠ 0 → (scanR k s line col told any).1 = [] := by
  intro k
  induction k with
  | zero => intro s line col told any h; rw [scanR]
  | succ k ih =>
    intro s line col told any
    rw [scanR]
    by_cases h0 : s.size = 0
    · rw [if_pos h0]
      split <;> (intro h; exact absurd rfl h)
    · rw [if_neg h0]
      by_cases he : (stepF s line col told any).1 = 0
      · rw [if_pos he]
        exact ih _ _ _ _ _
      · rw [if_neg he]; intro _; rfl
theorem show_f (L : List Tok) (begun : Bool) (hg : GoodT L false) (hl : L.length ≤ 1000000) : lex_Show.f L = some (mkB (Wt L false), 0) := by
  unfold lex_Show.f
  rw [if_pos hl, if_pos (fun t ht => by have := right_24 t (good_right L _ hg t ht); omega), show_good L false [] hg]
  rfl
end Go.Proofs.Ytpcnpmcknknfcaa.PLbk
namespace Go.Proofs.Ytpcnpmcknknfcaa.Pure
open Go.RowKit Go.Proofs.Ytpcnpmcknknfcaa.PLbk Go.Proofs.YtpcnpmcknknfcaaW.PrintWords Go.Proofs.YtpcnpmcknknfcaaW.PrintLast Go.Proofs.YtpcnpmcknknfcaaW.Mine
theorem back_l0 (L M : List Tok) (ha : AlikeT L M) (hg : GoodT L false) (hl : L.length ≤ 100000) (d : Nat) : ∀ j : Nat, L.length - j = d → j ≤ L.length → Ev (fun k => provostlaw05_LexBack.l0 k L (mkB (Wt L false)) M (j : Int)) true := by
  have hlen := alike_len L M ha
  induction d with
  | zero =>
    intro j hd hj
    refine ev_succ ?_
    simp only [provostlaw05_LexBack.l0]
    have hs : lex_Show.f M = some (mkB (Wt L false), 0) := by
      have h1 := show_f L false hg (by omega)
      unfold lex_Show.f at h1 ⊢
      rw [if_pos (by omega)] at h1 ⊢
      have h2 : ∀ t ∈ L, t.f1.size ≤ 281474976710656 := fun t ht => by have := right_24 t (good_right L _ hg t ht); omega
      have h3 : ∀ t ∈ M, t.f1.size ≤ 281474976710656 := by
        intro t ht
        obtain ⟨q, hq, e⟩ := List.getElem_of_mem ht
        obtain ⟨_, e1, _⟩ := alike_get L M q ha
        rw [List.getD_eq_getElem?_getD, List.getD_eq_getElem?_getD, List.getElem?_eq_getElem hq, List.getElem?_eq_getElem (by omega)] at e1
        simp only [Option.getD_some] at e1
        rw [← e, ← e1]
        exact h2 _ (List.getElem_mem _)
      rw [if_pos h2] at h1
      rw [if_pos h3, ← alike_show L M [] false ha]
      exact h1
    rw [hs]
    simp only [Option.bind_some]
    exact ev_neg (by omega) (ev_pos trivial (ev_some (by simp)))
  | succ d ih =>
    intro j hd hj
    have nx := ih (j + 1) (by omega) (by omega)
    have w4 : wrap64 ((j : Int) + 1) = ((j + 1 : Nat) : Int) := by unfold wrap64; omega
    obtain ⟨e0, e1, e2⟩ := alike_get L M j ha
    have r0 : (rd_T40 L (j : Int)).f0 = (rd_T40 M (j : Int)).f0 := e0
    have r1 : (rd_T40 L (j : Int)).f1 = (rd_T40 M (j : Int)).f1 := e1
    have r2 : (rd_T40 L (j : Int)).f2 = (rd_T40 M (j : Int)).f2 := e2
    have j2 : Ev (fun k => provostlaw05_LexBack.j2 k L (mkB (Wt L false)) M (j : Int) false) true := by
      refine ev_succ ?_
      simp only [provostlaw05_LexBack.j2]
      rw [w4]
      exact ev_neg (by decide) nx
    refine ev_succ ?_
    simp only [provostlaw05_LexBack.l0]
    rw [r0, r1, r2, bne_self_eq_false]
    exact ev_pos (by omega) (ev_pos (by omega) (ev_pos (by omega) (ev_pos rfl (ev_pos rfl j2))))
theorem LexBack : provostlaw05_LexBack.Pure := by
  intro T h0
  refine Ev.rounds (g := fun k => provostlaw05_LexBack.f k T) ?_
  unfold provostlaw05_LexBack.f
  rw [wakes_ok]
  by_cases h : (T.size : Int) > 65536
  · have e : lex_Scan.f T = some ([], 2, 0, 0) := if_pos h
    rw [e]
    simp only [Option.bind_some]
    exact ev_neg (by decide) (ev_pos (by decide) (ev_some rfl))
  · have e : lex_Scan.f T = some (scanR (T.size + 1) T 1 1 [] false) := if_neg h
    rw [e]
    simp only [Option.bind_some]
    have hln := scan_len (T.size + 1) T 1 1 [] false (by decide) (by decide)
    have hrest : rest T [] 1 0 false 0 = scanR (T.size + 1) T 1 1 [] false := by
      have e : tl T 0 = T := by
        apply bytes_inj; rw [bytesOf_tl, List.drop_zero]
      unfold rest
      rw [e]; rfl
    by_cases hz : (scanR (T.size + 1) T 1 1 [] false).2.1 = 0
    · refine ev_pos hz ?_
      rw [← hrest] at hz hln ⊢
      obtain ⟨L, e1, e2⟩ := scan_good T T.size [] 1 0 false 0 rfl (Nat.zero_le _) (Nat.le_refl _) (by decide) hz
      rw [List.nil_append] at e1
      simp only [List.length_nil] at hln
      rw [e1] at hln ⊢
      have hl : L.length ≤ 100000 := by omega
      have hfew : provostlaw05_few2.f L = some L := by
        unfold provostlaw05_few2.f
        simp only [Option.bind_some, List.length_nil, List.nil_append]
        rw [if_pos (by omega)]
      rw [hfew]
      simp only [Option.bind_some]
      rw [show_f L false e2 (by omega)]
      simp only [Option.bind_some]
      by_cases hbig : ((mkB (Wt L false)).size : Int) > 65536
      · have es : lex_Scan.f (mkB (Wt L false)) = some ([], 2, 0, 0) := if_pos hbig
        rw [es]
        simp only [Option.bind_some]
        refine ev_pos trivial (ev_pos (by decide) (ev_neg (by omega) ?_))
        refine ev_succ ?_
        simp only [provostlaw05_LexBack.j0]
        exact ev_neg (by decide) (ev_pos (by omega) (ev_some (by decide)))
      · obtain ⟨M, a1, a2⟩ := rescan L false ((mkB (Wt L false)).size + 1) 1 1 [] e2 (by rw [mk_size]; omega)
        rw [List.nil_append] at a2
        have es : lex_Scan.f (mkB (Wt L false)) = some (M, 0, 0, 0) := by rw [← a2]; exact if_neg hbig
        rw [es]
        simp only [Option.bind_some]
        have hlen := alike_len L M a1
        refine ev_pos trivial (ev_neg (by decide) ?_)
        refine ev_succ ?_
        simp only [provostlaw05_LexBack.j0]
        exact ev_neg (by decide) (ev_neg (by omega) (ev_pos (by omega) (back_l0 L M a1 e2 hl _ 0 rfl (Nat.zero_le _))))
    · refine ev_neg hz (ev_pos ?_ (ev_some rfl))
      rw [scan_nil _ _ _ _ _ _ hz]; rfl
end Go.Proofs.Ytpcnpmcknknfcaa.Pure
