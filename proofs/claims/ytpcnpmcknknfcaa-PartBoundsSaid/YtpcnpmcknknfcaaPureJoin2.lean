/- Join, evaluated: the finest pattern that both are finer than. -/
import Derived.Test.YtpcnpmcknknfcaaPureJoin
namespace Go.Proofs.Ytpcnpmcknknfcaa.PPbo
open Go.RowKit Go.Proofs.YtpcnpmcknknfcaaW.PrintWords Go.Proofs.YtpcnpmcknknfcaaW.PrintLast Go.Proofs.YtpcnpmcknknfcaaW.PrintMore Go.Proofs.YtpcnpmcknknfcaaW.Mine
set_option linter.unusedVariables false
/-- a block's places made one, its first being h -/
def joinB (c : List Int) (h : Int) : List Int → List Int
  | [] => c
  | i :: t => joinB (of_pat [] (mergeL c h.toNat i.toNat)) h t
def joinF (c : List Int) : List (List Int) → List Int
  | [] => c
  | b :: r => joinF (joinB c (rd b 0) (b.drop 1)) r
def PatN (n : Nat) (c : List Int) : Prop := c.length = n ∧ legalF 0 c = true
theorem merge_good {n : Nat} {c : List Int} (h : PatN n c) (p q : Nat) : PatN n (of_pat [] (mergeL c p q)) := ⟨by rw [of_pat_len, merge_len]; exact h.1, pat_legal _⟩
theorem mergeP_fin (c : List Int) (p q : Nat) : Fin c (of_pat [] (mergeL c p q)) := fin_trans (by rw [merge_len]) (merge_fin c p q) (fin_pat _)
theorem mergeP_joins (c : List Int) (p q : Nat) (hp : p < c.length) (hq : q < c.length) : rd (of_pat [] (mergeL c p q)) p = rd (of_pat [] (mergeL c p q)) q :=
  fin_pat (mergeL c p q) p q (by rw [merge_len]; exact hp) (by rw [merge_len]; exact hq) (merge_joins c p q hp hq)
theorem mergeP_least (c d : List Int) (p q : Nat) (hp : p < c.length) (hq : q < c.length) (h : Fin c d) (hd : rd d p = rd d q) : Fin (of_pat [] (mergeL c p q)) d :=
  fin_trans (by rw [of_pat_len]) (pat_fin _) (merge_least c d p q hp hq h hd)
/-- places of a row of n -/
def Places (n : Nat) (t : List Int) : Prop := ∀ x ∈ t, 0 ≤ x ∧ x < (n : Int)
theorem joinB_good (n : Nat) (h : Int) : ∀ (t c : List Int), PatN n c → PatN n (joinB c h t)
  | [], c, hc => hc
  | i :: t, c, hc => joinB_good n h t _ (merge_good hc _ _)
theorem joinB_fin (n : Nat) (h : Int) : ∀ (t c : List Int), PatN n c → Fin c (joinB c h t)
  | [], c, hc => fun _ _ _ _ e => e
  | i :: t, c, hc => fin_trans (by rw [of_pat_len, merge_len]) (mergeP_fin c _ _) (joinB_fin n h t _ (merge_good hc _ _))
theorem joinB_joins (n : Nat) (h : Int) (hh : 0 ≤ h ∧ h < (n : Int)) : ∀ (t c : List Int), PatN n c → Places n t → ∀ x ∈ t, rd (joinB c h t) h = rd (joinB c h t) x
  | [], _, _, _, _, hx => by cases hx
  | i :: t, c, hc, hp, x, hx => by
    have hg := merge_good hc h.toNat i.toNat
    have hi := hp i List.mem_cons_self
    rcases List.mem_cons.1 hx with e | e
    · subst e
      have h1 := mergeP_joins c h.toNat x.toNat (by rw [hc.1]; omega) (by rw [hc.1]; omega)
      have h2 := joinB_fin n h t _ hg h.toNat x.toNat (by rw [hg.1]; omega) (by rw [hg.1]; omega) h1
      rw [show ((h.toNat : Nat) : Int) = h by omega, show ((x.toNat : Nat) : Int) = x by omega] at h2
      exact h2
    · exact joinB_joins n h hh t _ hg (fun y hy => hp y (List.mem_cons_of_mem _ hy)) x e
theorem joinB_least (n : Nat) (h : Int) (hh : 0 ≤ h ∧ h < (n : Int)) (d : List Int) : ∀ (t c : List Int), PatN n c → Places n t → Fin c d → (∀ x ∈ t, rd d h = rd d x) → Fin (joinB c h t) d
  | [], _, _, _, hf, _ => hf
  | i :: t, c, hc, hp, hf, hd => by
    have hi := hp i List.mem_cons_self
    refine joinB_least n h hh d t _ (merge_good hc _ _) (fun y hy => hp y (List.mem_cons_of_mem _ hy)) (mergeP_least c d _ _ (by rw [hc.1]; omega) (by rw [hc.1]; omega) hf ?_) (fun x hx => hd x (List.mem_cons_of_mem _ hx))
    have := hd i List.mem_cons_self
    rwa [show ((h.toNat : Nat) : Int) = h by omega, show ((i.toNat : Nat) : Int) = i by omega]
def GoodB (n : Nat) (b : List Int) : Prop := 0 < b.length ∧ Places n b
theorem head_place {n : Nat} {b : List Int} (h : GoodB n b) : 0 ≤ rd b 0 ∧ rd b 0 < (n : Int) := by
  have := rd_at b 0 h.1
  rw [show ((0 : Nat) : Int) = 0 from rfl] at this
  rw [this]
  exact h.2 _ (List.getElem_mem h.1)
theorem tail_place {n : Nat} {b : List Int} (h : GoodB n b) : Places n (b.drop 1) := fun x hx => h.2 x (List.mem_of_mem_drop hx)
theorem joinF_good (n : Nat) : ∀ (l : List (List Int)) (c : List Int), PatN n c → PatN n (joinF c l)
  | [], _, h => h
  | b :: l, c, h => joinF_good n l _ (joinB_good n _ _ c h)
theorem joinF_fin (n : Nat) : ∀ (l : List (List Int)) (c : List Int), PatN n c → Fin c (joinF c l)
  | [], _, _ => fun _ _ _ _ e => e
  | b :: l, c, h => by
    have hg := joinB_good n (rd b 0) (b.drop 1) c h
    exact fin_trans (by rw [h.1, hg.1]) (joinB_fin n _ _ c h) (joinF_fin n l _ hg)
theorem joinF_joins (n : Nat) : ∀ (l : List (List Int)) (c : List Int), PatN n c → (∀ b ∈ l, GoodB n b) → ∀ b ∈ l, ∀ x ∈ b, rd (joinF c l) (rd b 0) = rd (joinF c l) x
  | [], _, _, _, _, hb, _, _ => by cases hb
  | a :: l, c, h, hl, b, hb, x, hx => by
    have hg := joinB_good n (rd a 0) (a.drop 1) c h
    rcases List.mem_cons.1 hb with e | e
    · subst e
      have hB := hl b List.mem_cons_self
      have hh := head_place hB
      have hxp := hB.2 x hx
      have h1 : rd (joinB c (rd b 0) (b.drop 1)) (rd b 0) = rd (joinB c (rd b 0) (b.drop 1)) x := by
        match b, hB, hx with
        | y :: t, hB, hx =>
          rcases List.mem_cons.1 hx with e | e
          · subst e; rfl
          · exact joinB_joins n _ hh _ c h (tail_place hB) x (by simpa using e)
      have h2 := joinF_fin n l _ hg (rd b 0).toNat x.toNat (by rw [hg.1]; omega) (by rw [hg.1]; omega) (by
        rwa [show (((rd b 0).toNat : Nat) : Int) = rd b 0 by omega, show ((x.toNat : Nat) : Int) = x by omega])
      rwa [show (((rd b 0).toNat : Nat) : Int) = rd b 0 by omega, show ((x.toNat : Nat) : Int) = x by omega] at h2
    · exact joinF_joins n l _ hg (fun b hb => hl b (List.mem_cons_of_mem _ hb)) b e x hx
theorem joinF_least (n : Nat) (d : List Int) : ∀ (l : List (List Int)) (c : List Int), PatN n c → (∀ b ∈ l, GoodB n b) → Fin c d → (∀ b ∈ l, ∀ x ∈ b, rd d (rd b 0) = rd d x) → Fin (joinF c l) d
  | [], _, _, _, hf, _ => hf
  | a :: l, c, h, hl, hf, hd => by
    have hB := hl a List.mem_cons_self
    exact joinF_least n d l _ (joinB_good n _ _ c h) (fun b hb => hl b (List.mem_cons_of_mem _ hb)) (joinB_least n _ (head_place hB) d _ c h (tail_place hB) hf (fun x hx => hd a List.mem_cons_self x (List.mem_of_mem_drop hx))) (fun b hb => hd b (List.mem_cons_of_mem _ hb))
/-! the blocks of a pattern -/
theorem idx_mem (b : Int) : ∀ (l : List Int) (o : Nat) (p : Int), p ∈ idxF b o l ↔ ∃ j : Nat, ∃ h : j < l.length, p = ((o + j : Nat) : Int) ∧ l[j] = b
  | [], _, _ => by simp [idxF]
  | x :: r, o, p => by
    have ih := idx_mem b r (o + 1) p
    have go : (∃ j : Nat, ∃ h : j < r.length, p = ((o + 1 + j : Nat) : Int) ∧ r[j] = b) ↔ ∃ j : Nat, ∃ h : j + 1 < (x :: r).length, p = ((o + (j + 1) : Nat) : Int) ∧ (x :: r)[j + 1] = b := by
      constructor
      · rintro ⟨j, hj, h1, h2⟩; exact ⟨j, by simp; omega, by rw [h1]; omega, by simpa using h2⟩
      · rintro ⟨j, hj, h1, h2⟩; exact ⟨j, by simpa using hj, by rw [h1]; omega, by simpa using h2⟩
    unfold idxF
    by_cases e : x = b
    · rw [if_pos e, List.mem_cons, ih, go]
      constructor
      · rintro (h | ⟨j, hj, h1, h2⟩)
        · exact ⟨0, by simp, by simpa using h, e⟩
        · exact ⟨j + 1, hj, h1, h2⟩
      · rintro ⟨j, hj, h1, h2⟩
        match j with
        | 0 => exact Or.inl (by simpa using h1)
        | j + 1 => exact Or.inr ⟨j, hj, h1, h2⟩
    · rw [if_neg e, ih, go]
      constructor
      · rintro ⟨j, hj, h1, h2⟩; exact ⟨j + 1, hj, h1, h2⟩
      · rintro ⟨j, hj, h1, h2⟩
        match j with
        | 0 => exact absurd (by simpa using h2) e
        | j + 1 => exact ⟨j, hj, h1, h2⟩
theorem blocks_good (a : List Int) (hl : legalF 0 a = true) : ∀ b ∈ blocksOf a (usedF 0 a).toNat, GoodB a.length b := by
  intro b hb
  unfold blocksOf at hb
  obtain ⟨v, hv, rfl⟩ := List.mem_map.1 hb
  rw [List.mem_range] at hv
  have hg := used_ge a 0
  have hm := legal_all a 0 hl (Int.le_refl _) (v : Int) (by omega) (by omega)
  obtain ⟨j, hj, he⟩ := List.getElem_of_mem hm
  have h1 := (idx_mem (v : Int) a 0 ((0 + j : Nat) : Int)).2 ⟨j, hj, rfl, he⟩
  refine ⟨List.length_pos_of_mem h1, fun x hx => ?_⟩
  obtain ⟨i, hi, h2, _⟩ := (idx_mem (v : Int) a 0 x).1 hx
  omega
/-- what a pattern holds together and what its blocks hold together are the same -/
theorem blocks_same (a : List Int) (hl : legalF 0 a = true) (d : List Int) : (∀ b ∈ blocksOf a (usedF 0 a).toNat, ∀ x ∈ b, rd d (rd b 0) = rd d x) ↔ Fin a d := by
  have hg := used_ge a 0
  constructor
  · intro h i k hi hk e
    have hm := used_mem a 0 a[i] (List.getElem_mem hi)
    have hp := legal_mem a 0 hl a[i] (List.getElem_mem hi)
    obtain ⟨v, hv⟩ := Int.eq_ofNat_of_zero_le hp
    have hb : idxF (v : Int) 0 a ∈ blocksOf a (usedF 0 a).toNat := List.mem_map.2 ⟨v, List.mem_range.2 (by omega), rfl⟩
    rw [rd_at a i hi, rd_at a k hk] at e
    have h1 := h _ hb (i : Int) ((idx_mem (v : Int) a 0 _).2 ⟨i, hi, by omega, hv⟩)
    have h2 := h _ hb (k : Int) ((idx_mem (v : Int) a 0 _).2 ⟨k, hk, by omega, by omega⟩)
    rw [← h1, ← h2]
  · intro h b hb x hx
    have hB := blocks_good a hl b hb
    unfold blocksOf at hb
    obtain ⟨v, hv, rfl⟩ := List.mem_map.1 hb
    have hh : rd (idxF (v : Int) 0 a) 0 ∈ idxF (v : Int) 0 a := by
      have := rd_at (idxF (v : Int) 0 a) 0 hB.1
      rw [show ((0 : Nat) : Int) = 0 from rfl] at this
      rw [this]; exact List.getElem_mem hB.1
    obtain ⟨i, hi, h1, h2⟩ := (idx_mem (v : Int) a 0 _).1 hh
    obtain ⟨k, hk, h3, h4⟩ := (idx_mem (v : Int) a 0 _).1 hx
    rw [h1, h3, Nat.zero_add, Nat.zero_add]
    exact h i k hi hk (by rw [rd_at a i hi, rd_at a k hk, h2, h4])
def joinP (a b : List Int) : List Int := joinF a (blocksOf b (usedF 0 b).toNat)
theorem join_fin (a b : List Int) (h : a.length = b.length) (ha : legalF 0 a = true) (hb : legalF 0 b = true) : PatN a.length (joinP a b) ∧ Fin a (joinP a b) ∧ Fin b (joinP a b) ∧ ∀ d, Fin a d → Fin b d → Fin (joinP a b) d := by
  have hg : PatN a.length a := ⟨rfl, ha⟩
  have hB : ∀ x ∈ blocksOf b (usedF 0 b).toNat, GoodB a.length x := by rw [h]; exact blocks_good b hb
  exact ⟨joinF_good _ _ _ hg, joinF_fin _ _ _ hg, (blocks_same b hb _).1 (joinF_joins _ _ _ hg hB), fun d h1 h2 => joinF_least _ d _ _ hg hB h1 ((blocks_same b hb d).2 h2)⟩
/-! Join, evaluated -/
theorem join_l1 (n : Nat) (h25 : n ≤ 25) (L : List (List Int)) (m i : Int) (b : List Int) (hB : GoodB n b) (t : List Int) (ht : Places n t) (ht25 : t.length ≤ 25) (res : List Int × Int) (c0 : List Int)
    (nx : Ev (fun k => part_Join.l0 k (joinB c0 (rd b 0) t) L m (wrap64 (i + 1))) res) (d : Nat) : ∀ (j : Nat) (c : List Int), t.length - j = d → j ≤ t.length → PatN n c → joinB c (rd b 0) (t.drop j) = joinB c0 (rd b 0) t →
    Ev (fun k => part_Join.l1 k c b L m i t (t.length : Int) (j : Int)) res := by
  have hh := head_place hB
  induction d with
  | zero =>
    intro j c hd hj hc he
    obtain rfl : j = t.length := by omega
    rw [List.drop_length] at he
    refine ev_succ ?_
    simp only [part_Join.l1]
    refine ev_neg (by omega) ?_
    rw [← he] at nx
    exact nx
  | succ d ih =>
    intro j c hd hj hc he
    have hlt : j < t.length := by omega
    have hp := ht _ (List.getElem_mem hlt)
    rw [List.drop_eq_getElem_cons hlt, joinB] at he
    obtain ⟨p, hp1⟩ := Int.eq_ofNat_of_zero_le hh.1
    obtain ⟨q, hq1⟩ := Int.eq_ofNat_of_zero_le hp.1
    refine ev_succ ?_
    simp only [part_Join.l1]
    rw [rd_at t j hlt]
    refine ev_pos (by omega) (ev_pos (by omega) (ev_pos (by omega) (ev_pos (by have := hB.1; omega) ?_)))
    have hm := merge_ev c hc.2 (by rw [hc.1]; exact h25) p q (by rw [hc.1]; omega) (by rw [hc.1]; omega)
    rw [← hp1, ← hq1] at hm
    refine Ev.bind hm ?_
    rw [wr (by omega) (by omega)]
    rw [hp1, hq1, Int.toNat_natCast, Int.toNat_natCast, ← hp1] at he
    exact ih (j + 1) _ (by omega) (by omega) (merge_good hc _ _) he
theorem join_l0 (n : Nat) (h25 : n ≤ 25) (L : List (List Int)) (hL : ∀ b ∈ L, GoodB n b ∧ b.length ≤ 25) (hl25 : L.length ≤ 25) (d : Nat) : ∀ (i : Nat) (c : List Int), L.length - i = d → i ≤ L.length → PatN n c →
    Ev (fun k => part_Join.l0 k c L (L.length : Int) (i : Int)) (joinF c (L.drop i), 0) := by
  induction d with
  | zero =>
    intro i c hd hi hc
    obtain rfl : i = L.length := by omega
    rw [List.drop_length, joinF]
    refine ev_succ ?_
    simp only [part_Join.l0]
    refine ev_neg (by omega) ?_
    by_cases h0 : (c.length : Int) = 0
    · refine ev_pos h0 (ev_some ?_)
      rw [List.eq_nil_of_length_eq_zero (show c.length = 0 by omega)]
    · exact ev_neg h0 (ev_some rfl)
  | succ d ih =>
    intro i c hd hi hc
    have hlt : i < L.length := by omega
    obtain ⟨hB, hB25⟩ := hL _ (List.getElem_mem hlt)
    have hrd : rd_L1 L (i : Int) = L[i] := by
      unfold rd_L1; rw [Int.toNat_natCast, List.getD_eq_getElem?_getD, List.getElem?_eq_getElem hlt]; rfl
    rw [List.drop_eq_getElem_cons hlt, joinF]
    refine ev_succ ?_
    simp only [part_Join.l0]
    rw [hrd]
    refine ev_pos (by omega) (ev_pos (by omega) (ev_pos (by omega) (ev_pos (by have := hB.1; omega) ?_)))
    simp only [Option.bind_some]
    have nx := ih (i + 1) (joinB c (rd L[i] 0) (L[i].drop 1)) (by omega) (by omega) (joinB_good n _ _ c hc)
    rw [show (((i + 1 : Nat) : Nat) : Int) = wrap64 ((i : Int) + 1) by rw [wr (by omega) (by omega)]; omega] at nx
    exact join_l1 n h25 L _ _ L[i] hB (L[i].drop 1) (tail_place hB) (by rw [List.length_drop]; omega) _ c nx _ 0 c rfl (Nat.zero_le _) hc rfl
theorem idx_len (b : Int) : ∀ (l : List Int) (o : Nat), (idxF b o l).length ≤ l.length
  | [], _ => Nat.le_refl _
  | x :: r, o => by
    have := idx_len b r (o + 1)
    simp only [idxF]
    split <;> simp only [List.length_cons] <;> omega
theorem join_ev (a b : List Int) (h : a.length = b.length) (ha : legalF 0 a = true) (hb : legalF 0 b = true) (h25 : a.length ≤ 25) : Ev (fun k => part_Join.f k a b) (joinP a b, 0) := by
  unfold part_Join.f
  have hp : pairF a b = true := by simp [pairF, ha, hb, h]; omega
  have hpe := pair_ev a b
  rw [hp] at hpe
  have hcl : slices_Clone_int_int.f a = some a := by unfold slices_Clone_int_int.f; rw [if_pos (by omega)]
  refine Ev.bind hpe (ev_pos rfl ?_)
  rw [hcl]
  simp only [Option.bind_some]
  refine Ev.bind (blocks_ev b hb (by omega)) ?_
  have hu := used_len b 0 hb
  have hlen : (blocksOf b (usedF 0 b).toNat).length = (usedF 0 b).toNat := by simp [blocksOf]
  have := join_l0 a.length h25 (blocksOf b (usedF 0 b).toNat) (fun x hx => ⟨by rw [h]; exact blocks_good b hb x hx, by
    unfold blocksOf at hx
    obtain ⟨v, _, rfl⟩ := List.mem_map.1 hx
    have := idx_len (v : Int) b 0
    omega⟩) (by omega) _ 0 a rfl (Nat.zero_le _) ⟨rfl, ha⟩
  exact this
end Go.Proofs.Ytpcnpmcknknfcaa.PPbo
