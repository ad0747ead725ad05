/- Finer, Meet, Merge, Join: evaluated, and what their patterns hold together. -/
import Derived.Test.YtpcnpmcknknfcaaPurePart
import Derived.Test.YtpcnpmcknknfcaaPPbox3
import Derived.Test.YtpcnpmcknknfcaaPPbox4
import Derived.Test.YtpcnpmcknknfcaaPPbox3
import Derived.Test.YtpcnpmcknknfcaaPPbox4
import Derived.Test.YtpcnpmcknknfcaaPPbox4
namespace Go.Proofs.Ytpcnpmcknknfcaa.PPbo
open Go.RowKit Go.Proofs.YtpcnpmcknknfcaaW.PrintWords Go.Proofs.YtpcnpmcknknfcaaW.PrintLast Go.Proofs.YtpcnpmcknknfcaaW.PrintMore Go.Proofs.YtpcnpmcknknfcaaW.Mine
set_option linter.unusedVariables false
/-- what the one holds together, the other holds together -/
def Fin (l m : List Int) : Prop := ∀ i k : Nat, i < l.length → k < l.length → rd l i = rd l k → rd m i = rd m k
theorem rd_cons0 (x : Int) (l : List Int) : rd (x :: l) ((0 : Nat) : Int) = x := rfl
theorem rd_consS (x : Int) (l : List Int) (i : Nat) : rd (x :: l) ((i + 1 : Nat) : Int) = rd l (i : Int) := by
  unfold rd; rw [Int.toNat_natCast, Int.toNat_natCast]; simp
theorem rd_pos {l : List Int} (h : ∀ x ∈ l, 0 ≤ x) (i : Nat) (hi : i < l.length) : 0 ≤ rd l i := by
  rw [rd_at l i hi]; exact h _ (List.getElem_mem hi)
theorem fin_go : ∀ (l m : List Int) (t : Nat → Int), l.length = m.length → (∀ x ∈ l, 0 ≤ x) → (∀ x ∈ m, 0 ≤ x) →
    (finF t l m = true ↔ (∀ i : Nat, i < l.length → t (rd l i).toNat = 0 ∨ t (rd l i).toNat = rd m i + 1) ∧ Fin l m)
  | [], [], t, _, _, _ => by simp [finF, Fin]
  | [], y :: s, t, h, _, _ => by simp at h
  | x :: r, [], t, h, _, _ => by simp at h
  | x :: r, y :: s, t, h, hl, hm => by
    have hlen : r.length = s.length := by simpa using h
    have hx : 0 ≤ x := hl x List.mem_cons_self
    have hy : 0 ≤ y := hm y List.mem_cons_self
    have hl' : ∀ z ∈ r, 0 ≤ z := fun z hz => hl z (List.mem_cons_of_mem _ hz)
    have hm' : ∀ z ∈ s, 0 ≤ z := fun z hz => hm z (List.mem_cons_of_mem _ hz)
    have ih := fin_go r s (finU t x.toNat (y + 1)) hlen hl' hm'
    rw [finF]
    by_cases hc : t x.toNat ≠ 0 ∧ t x.toNat ≠ y + 1
    · rw [if_pos hc]
      refine ⟨fun h => (by cases h), fun ⟨h1, _⟩ => ?_⟩
      have := h1 0 (by simp)
      rw [rd_cons0, rd_cons0] at this
      omega
    · rw [if_neg hc, ih]
      have hc' : t x.toNat = 0 ∨ t x.toNat = y + 1 := by omega
      constructor
      · intro ⟨h1, h2⟩
        have key : ∀ i : Nat, i < r.length → rd r i = x → rd s i = y := by
          intro i hi he
          have := h1 i hi
          rw [he] at this
          simp only [finU, if_true] at this
          omega
        refine ⟨?_, ?_⟩
        · intro i hi
          match i with
          | 0 => rw [rd_cons0, rd_cons0]; exact hc'
          | i + 1 =>
            rw [rd_consS, rd_consS]
            have hi' : i < r.length := by simpa using hi
            have := h1 i hi'
            by_cases e : rd r i = x
            · rw [e, key i hi' e]; exact hc'
            · have hp := rd_pos hl' i hi'
              have hne : ¬ (rd r (i : Int)).toNat = x.toNat := by omega
              simp only [finU, if_neg hne] at this
              exact this
        · intro i k hi hk he
          match i, k with
          | 0, 0 => rfl
          | 0, k + 1 =>
            rw [rd_cons0, rd_consS] at he
            rw [rd_cons0, rd_consS]
            exact (key k (by simpa using hk) he.symm).symm
          | i + 1, 0 =>
            rw [rd_cons0, rd_consS] at he
            rw [rd_cons0, rd_consS]
            exact key i (by simpa using hi) he
          | i + 1, k + 1 =>
            rw [rd_consS, rd_consS] at he
            rw [rd_consS, rd_consS]
            exact h2 i k (by simpa using hi) (by simpa using hk) he
      · intro ⟨h1, h2⟩
        refine ⟨?_, ?_⟩
        · intro i hi
          by_cases e : (rd r (i : Int)).toNat = x.toNat
          · have hp := rd_pos hl' i hi
            have he : rd r (i : Int) = x := by omega
            have := h2 (i + 1) 0 (by simpa using hi) (by simp) (by rw [rd_consS, rd_cons0]; exact he)
            rw [rd_consS, rd_cons0] at this
            simp only [finU, if_pos e]
            omega
          · have := h1 (i + 1) (by simpa using hi)
            rw [rd_consS, rd_consS] at this
            simp only [finU, if_neg e]
            exact this
        · intro i k hi hk he
          have := h2 (i + 1) (k + 1) (by simpa using hi) (by simpa using hk) (by rw [rd_consS, rd_consS]; exact he)
          rwa [rd_consS, rd_consS] at this
theorem fin_iff (l m : List Int) (h : l.length = m.length) (hl : ∀ x ∈ l, 0 ≤ x) (hm : ∀ x ∈ m, 0 ≤ x) : finF (fun _ => 0) l m = true ↔ Fin l m := by
  rw [fin_go l m _ h hl hm]
  exact ⟨fun h => h.2, fun h => ⟨fun i hi => Or.inl rfl, h⟩⟩
theorem fin_trans {a b c : List Int} (hab : a.length = b.length) (h : Fin a b) (g : Fin b c) : Fin a c := fun i k hi hk e => g i k (by omega) (by omega) (h i k hi hk e)
theorem fin_pat (l : List Int) : Fin l (of_pat [] l) := fun i k hi hk e => by
  have := pat_same l i k hi hk
  rw [e] at this
  simpa using this.symm
theorem pat_fin (l : List Int) : Fin (of_pat [] l) l := fun i k hi hk e => by
  have hl := of_pat_len l []
  have := pat_same l i k (by omega) (by omega)
  rw [e] at this
  simpa using this
/-- two patterns that hold together the same places are the same -/
theorem fin_anti (a b : List Int) (hab : a.length = b.length) (ha : legalF 0 a = true) (hb : legalF 0 b = true) (h : Fin a b) (g : Fin b a) : a = b := by
  have key : ∀ k : Nat, k ≤ a.length → a.take k = b.take k := by
    intro k
    induction k with
    | zero => intro _; rfl
    | succ k ih =>
      intro hk
      have hlt : k < a.length := by omega
      have e := ih (by omega)
      obtain ⟨h1, h2, h3, _⟩ := legal_take a 0 k ha hlt (by omega)
      obtain ⟨g1, g2, g3, _⟩ := legal_take b 0 k hb (by omega) (by omega)
      rw [← e] at g3
      have same : ∀ i : Nat, i < k → rd a i = rd b i := by
        intro i hi
        rw [rd_at a i (by omega), rd_at b i (by omega)]
        have : (a.take k)[i]? = (b.take k)[i]? := by rw [e]
        rw [List.getElem?_take, List.getElem?_take, if_pos hi, if_pos hi, List.getElem?_eq_getElem (by omega), List.getElem?_eq_getElem (by omega)] at this
        exact Option.some.inj this
      have look : ∀ v : Int, 0 ≤ v → v < usedF 0 (a.take k) → ∃ i : Nat, i < k ∧ rd a i = v := by
        intro v h0 hv
        have hm := legal_all (a.take k) 0 h1 (Int.le_refl _) v h0 hv
        obtain ⟨i, hi, he⟩ := List.getElem_of_mem hm
        rw [List.length_take] at hi
        refine ⟨i, by omega, ?_⟩
        rw [rd_at a i (by omega), ← he, List.getElem_take]
      have eqv : rd a k = rd b k := by
        rcases (show rd a (k : Int) < usedF 0 (a.take k) ∨ rd a (k : Int) = usedF 0 (a.take k) by omega) with q | q
        · obtain ⟨i, hi, he⟩ := look _ h2 q
          have := h i k (by omega) hlt he
          rw [← same i hi, he] at this
          exact this
        · rcases (show rd b (k : Int) < usedF 0 (a.take k) ∨ rd b (k : Int) = usedF 0 (a.take k) by omega) with p | p
          · obtain ⟨i, hi, he⟩ := look _ g2 p
            have := g i k (by omega) (by omega) (by rw [← same i hi, he])
            rw [he] at this
            exact this.symm
          · omega
      rw [List.take_succ_eq_append_getElem hlt, List.take_succ_eq_append_getElem (by omega), e]
      rw [rd_at a k hlt, rd_at b k (by omega)] at eqv
      rw [eqv]
  have := key a.length (Nat.le_refl _)
  rwa [List.take_length, hab, List.take_length] at this
theorem legal_lt (a : List Int) (hl : legalF 0 a = true) (h25 : a.length ≤ 25) : ∀ i : Nat, i < a.length → 0 ≤ rd a i ∧ rd a i ≤ 24 := by
  intro i hi
  obtain ⟨h1, h2, h3, _⟩ := legal_take a 0 i hl hi (by omega)
  have := used_len _ 0 h1
  rw [List.length_take] at this
  omega
/-! Meet -/
def meetL (a b : List Int) : List Int := List.zipWith (fun x y => x * 26 + y) a b
theorem meet_len (a b : List Int) (h : a.length = b.length) : (meetL a b).length = a.length := by simp [meetL]; omega
theorem meet_rd (a b : List Int) (h : a.length = b.length) (i : Nat) (hi : i < a.length) : rd (meetL a b) i = rd a i * 26 + rd b i := by
  rw [rd_at _ i (by rw [meet_len a b h]; exact hi), rd_at a i hi, rd_at b i (by omega)]
  simp [meetL]
theorem int_wf {x : Int} (h0 : 0 ≤ x) (h1 : x ≤ 100000) : (Lit.int .i64 x).wf = true := by simp [Lit.wf, IntKind.min, IntKind.max, IntKind.signed, IntKind.bits]; omega
theorem of_ev (l : List Int) (h25 : l.length ≤ 25) (hw : ∀ i : Nat, i < l.length → 0 ≤ rd l i ∧ rd l i ≤ 100000) : part_Of.f l = some (of_pat [] l, 0) := by
  unfold part_Of.f
  rw [if_neg (by omega), if_pos]
  intro x hx
  obtain ⟨i, hi, rfl⟩ := List.getElem_of_mem hx
  have := hw i hi
  rw [rd_at l i hi] at this
  exact int_wf this.1 this.2
theorem set_next (l z : List Int) (i : Nat) (hz : z.length = l.length) (hi : i < l.length) : (l.take i ++ z.drop i).set i (rd l i) = l.take (i + 1) ++ z.drop (i + 1) := by
  have ht : (l.take i).length = i := by rw [List.length_take]; omega
  rw [List.set_append_right _ _ (by omega), ht, Nat.sub_self, List.take_succ_eq_append_getElem hi, List.drop_eq_getElem_cons (show i < z.length by omega), rd_at l i hi, List.append_assoc]
  rfl
theorem meet_l0 (a b : List Int) (h : a.length = b.length) (ha : legalF 0 a = true) (hb : legalF 0 b = true) (h25 : a.length ≤ 25) (d : Nat) : ∀ i : Nat, a.length - i = d → i ≤ a.length →
    Ev (fun k => part_Meet.l0 k a b ((meetL a b).take i ++ (List.replicate a.length 0).drop i) (a.length : Int) (i : Int)) (of_pat [] (meetL a b), 0) := by
  have hml := meet_len a b h
  have hA := legal_lt a ha h25
  have hB := legal_lt b hb (by omega)
  induction d with
  | zero =>
    intro i hd hi
    obtain rfl : i = a.length := by omega
    refine ev_succ ?_
    simp only [part_Meet.l0]
    refine ev_neg (by omega) ?_
    have e : (meetL a b).take a.length ++ (List.replicate a.length (0 : Int)).drop a.length = meetL a b := by
      rw [List.take_of_length_le (by omega), List.drop_eq_nil_of_le (by simp), List.append_nil]
    rw [e, of_ev _ (by omega) (fun i hi => by rw [meet_rd a b h i (by omega)]; have := hA i (by omega); have := hB i (by omega); omega)]
    exact ev_some rfl
  | succ d ih =>
    intro i hd hi
    have hlt : i < a.length := by omega
    have q1 := hA i hlt
    have q2 := hB i (by omega)
    refine ev_succ ?_
    simp only [part_Meet.l0]
    refine ev_pos (by omega) (ev_pos (by omega) (ev_pos (by omega) (ev_pos (by omega) (ev_pos (by simp; omega) ?_))))
    have e1 : wrap64 (wrap64 (rd a (i : Int) * 26) + rd b (i : Int)) = rd (meetL a b) i := by
      rw [meet_rd a b h i hlt]; unfold wrap64; omega
    rw [e1, Int.toNat_natCast, set_next _ _ i (by simp; omega) (by omega), wr (by omega) (by omega)]
    exact ih (i + 1) (by omega) (by omega)
theorem meet_ev (a b : List Int) (h : a.length = b.length) (ha : legalF 0 a = true) (hb : legalF 0 b = true) (h25 : a.length ≤ 25) : Ev (fun k => part_Meet.f k a b) (of_pat [] (meetL a b), 0) := by
  unfold part_Meet.f
  have hp : pairF a b = true := by simp [pairF, ha, hb, h]; omega
  have hpe := pair_ev a b
  rw [hp] at hpe
  refine Ev.bind hpe (ev_pos rfl (ev_pos (by omega) (ev_pos (by omega) ?_)))
  have := meet_l0 a b h ha hb h25 a.length 0 (by omega) (by omega)
  simpa using this
theorem meet_fin (a b : List Int) (h : a.length = b.length) (ha : legalF 0 a = true) (hb : legalF 0 b = true) (h25 : a.length ≤ 25) : Fin (meetL a b) a ∧ Fin (meetL a b) b ∧ ∀ c, c.length = a.length → Fin c a → Fin c b → Fin c (meetL a b) := by
  have hml := meet_len a b h
  have hA := legal_lt a ha h25
  have hB := legal_lt b hb (by omega)
  refine ⟨fun i k hi hk e => ?_, fun i k hi hk e => ?_, fun c hc h1 h2 i k hi hk e => ?_⟩
  · rw [meet_rd a b h i (by omega), meet_rd a b h k (by omega)] at e
    have := hA i (by omega); have := hB i (by omega); have := hA k (by omega); have := hB k (by omega)
    omega
  · rw [meet_rd a b h i (by omega), meet_rd a b h k (by omega)] at e
    have := hA i (by omega); have := hB i (by omega); have := hA k (by omega); have := hB k (by omega)
    omega
  · rw [meet_rd a b h i (by omega), meet_rd a b h k (by omega), h1 i k hi hk e, h2 i k hi hk e]
/-! Merge -/
def mergeL (c : List Int) (p q : Nat) : List Int := c.map fun x => if x = rd c q then rd c p else x
theorem merge_len (c : List Int) (p q : Nat) : (mergeL c p q).length = c.length := by simp [mergeL]
theorem merge_rd (c : List Int) (p q i : Nat) (hi : i < c.length) : rd (mergeL c p q) i = if rd c i = rd c q then rd c p else rd c i := by
  rw [rd_at _ i (by rw [merge_len]; exact hi), rd_at c i hi]
  simp [mergeL]
theorem merge_l0 (c : List Int) (hc : legalF 0 c = true) (h25 : c.length ≤ 25) (p q : Nat) (hp : p < c.length) (hq : q < c.length) (d : Nat) : ∀ i : Nat, c.length - i = d → i ≤ c.length →
    Ev (fun k => part_Merge.l0 k c (p : Int) (q : Int) ((mergeL c p q).take i ++ c.drop i) c (c.length : Int) (i : Int)) (of_pat [] (mergeL c p q), 0) := by
  have hml := merge_len c p q
  have hC := legal_lt c hc h25
  induction d with
  | zero =>
    intro i hd hi
    obtain rfl : i = c.length := by omega
    refine ev_succ ?_
    simp only [part_Merge.l0]
    refine ev_neg (by omega) ?_
    have e : (mergeL c p q).take c.length ++ c.drop c.length = mergeL c p q := by
      rw [List.take_of_length_le (by omega), List.drop_eq_nil_of_le (Nat.le_refl _), List.append_nil]
    rw [e, of_ev _ (by omega) (fun i hi => by
      rw [merge_rd c p q i (by omega)]
      have := hC i (by omega); have := hC p hp
      split <;> omega)]
    exact ev_some rfl
  | succ d ih =>
    intro i hd hi
    have hlt : i < c.length := by omega
    have nx := ih (i + 1) (by omega) (by omega)
    have hs := set_next (mergeL c p q) c i (by omega) (by omega)
    rw [merge_rd c p q i hlt] at hs
    refine ev_succ ?_
    simp only [part_Merge.l0]
    refine ev_pos (by omega) (ev_pos (by omega) (ev_pos (by omega) (ev_pos (by omega) (ev_pos (by omega) ?_))))
    rw [wr (by omega) (by omega), Int.toNat_natCast]
    by_cases e : rd c (i : Int) = rd c (q : Int)
    · rw [if_pos e] at hs
      refine ev_pos e (ev_pos (by omega) (ev_pos (by omega) (ev_pos (by simp; omega) ?_)))
      rw [hs]
      exact nx
    · rw [if_neg e] at hs
      refine ev_neg e ?_
      have : (mergeL c p q).take i ++ c.drop i = (mergeL c p q).take (i + 1) ++ c.drop (i + 1) := by
        rw [← hs]
        have ht : ((mergeL c p q).take i).length = i := by rw [List.length_take]; omega
        rw [List.set_append_right _ _ (by omega), ht, Nat.sub_self, List.drop_eq_getElem_cons hlt, rd_at c i hlt]
        rfl
      rw [this]
      exact nx
theorem merge_ev (c : List Int) (hc : legalF 0 c = true) (h25 : c.length ≤ 25) (p q : Nat) (hp : p < c.length) (hq : q < c.length) : Ev (fun k => part_Merge.f k c (p : Int) (q : Int)) (of_pat [] (mergeL c p q), 0) := by
  unfold part_Merge.f
  have hl := legal_ev c
  rw [hc, decide_eq_true h25] at hl
  refine Ev.bind hl (ev_pos rfl (ev_neg (by omega) (ev_neg (by omega) (ev_neg (by omega) ?_))))
  rw [decide_eq_false (p := (q : Int) ≥ (c.length : Int)) (by omega)]
  refine ev_succ ?_
  simp only [part_Merge.j0]
  have hcl : slices_Clone_int_int.f c = some c := by unfold slices_Clone_int_int.f; rw [if_pos (by omega)]
  rw [hcl]
  simp only [Option.bind_some]
  refine ev_neg (by decide) ?_
  have := merge_l0 c hc h25 p q hp hq c.length 0 (by omega) (by omega)
  simpa using this
theorem merge_fin (c : List Int) (p q : Nat) : Fin c (mergeL c p q) := fun i k hi hk e => by
  rw [merge_rd c p q i hi, merge_rd c p q k hk, e]
theorem merge_joins (c : List Int) (p q : Nat) (hp : p < c.length) (hq : q < c.length) : rd (mergeL c p q) p = rd (mergeL c p q) q := by
  rw [merge_rd c p q p hp, merge_rd c p q q hq, if_pos rfl]
  split <;> rfl
theorem merge_least (c d : List Int) (p q : Nat) (hp : p < c.length) (hq : q < c.length) (h : Fin c d) (hd : rd d p = rd d q) : Fin (mergeL c p q) d := fun i k hi hk e => by
  rw [merge_len] at hi hk
  rw [merge_rd c p q i hi, merge_rd c p q k hk] at e
  by_cases h1 : rd c (i : Int) = rd c (q : Int)
  · rw [if_pos h1] at e
    by_cases h2 : rd c (k : Int) = rd c (q : Int)
    · exact h i k hi hk (h1.trans h2.symm)
    · rw [if_neg h2] at e
      rw [h i q hi hq h1, ← hd, h p k hp hk e]
  · rw [if_neg h1] at e
    by_cases h2 : rd c (k : Int) = rd c (q : Int)
    · rw [if_pos h2] at e
      rw [h k q hk hq h2, ← hd, h i p hi hp e]
    · rw [if_neg h2] at e
      exact h i k hi hk e
end Go.Proofs.Ytpcnpmcknknfcaa.PPbo
