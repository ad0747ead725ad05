/- PartBounds' pure statement. -/
import Derived.Test.YtpcnpmcknknfcaaPureJoin2
import Derived.Test.YtpcnpmcknknfcaaPPbox2
import Derived.Test.YtpcnpmcknknfcaaPPbox5
namespace Go.Proofs.Ytpcnpmcknknfcaa.Pure
open Go.RowKit Go.Proofs.Ytpcnpmcknknfcaa.PPbo Go.Proofs.YtpcnpmcknknfcaaW.PrintWords Go.Proofs.YtpcnpmcknknfcaaW.PrintLast Go.Proofs.YtpcnpmcknknfcaaW.PrintMore Go.Proofs.YtpcnpmcknknfcaaW.Mine
set_option linter.unusedVariables false
theorem wakes_ev : Ev (fun k => provostlaw02_wakes.f k) true := Ev.of provostlaw02_wakes.mono (k := 30) (by decide +kernel)
theorem few_cut (l : List Int) (n : Nat) (h : n ≤ 1000) : provostlaw02_few.f l (n : Int) = some (l.take n) := by
  by_cases h1 : l.length ≤ n
  · exact few_eq l n (by omega)
  · unfold provostlaw02_few.f
    rw [if_pos (by omega), if_pos (by omega), if_pos (by omega)]
    simp only [Option.bind_some, List.nil_append, List.length_nil, Int.toNat_natCast]
    rw [if_pos]
    rw [List.length_take]
    omega
/-- Finer's answer -/
def fb (a b : List Int) : Bool := finF (fun _ => 0) a b
theorem finer_eq {n : Nat} (h25 : n ≤ 25) {a b : List Int} (ha : PatN n a) (hb : PatN n b) : part_Finer.f a b = some (fb a b) := by
  unfold part_Finer.f
  rw [if_pos]
  · rfl
  · have h1 := ha.1; have h2 := hb.1
    unfold pairF
    rw [ha.2, hb.2, decide_eq_true (show a.length ≤ 25 by omega), decide_eq_true (show b.length ≤ 25 by omega), decide_eq_true (show a.length = b.length by omega)]
    rfl
theorem fb_iff {n : Nat} {a b : List Int} (ha : PatN n a) (hb : PatN n b) : fb a b = true ↔ Fin a b :=
  fin_iff a b (by rw [ha.1, hb.1]) (legal_mem a 0 ha.2) (legal_mem b 0 hb.2)
theorem j6_ev {n : Nat} (h25 : n ≤ 25) {a b c : List Int} (ha : PatN n a) (hb : PatN n b) (hc : PatN n c) : Ev (fun k => provostlaw02_PartBounds.j6 k a b c false) true := by
  refine ev_succ ?_
  simp only [provostlaw02_PartBounds.j6]
  refine ev_neg (by decide) ?_
  rw [finer_eq h25 ha hb]
  simp only [Option.bind_some]
  by_cases h1 : fb a b = true
  · refine ev_pos h1 ?_
    rw [finer_eq h25 hb hc]
    simp only [Option.bind_some]
    by_cases h2 : fb b c = true
    · refine ev_pos h2 ?_
      rw [finer_eq h25 ha hc]
      simp only [Option.bind_some]
      exact ev_some ((fb_iff ha hc).2 (fin_trans (by rw [ha.1, hb.1]) ((fb_iff ha hb).1 h1) ((fb_iff hb hc).1 h2)))
    · exact ev_neg h2 (ev_some rfl)
  · exact ev_neg h1 (ev_some rfl)
theorem j5_ev {n : Nat} (h25 : n ≤ 25) {a b c : List Int} (ha : PatN n a) (hb : PatN n b) (hc : PatN n c) : Ev (fun k => provostlaw02_PartBounds.j5 k a b c false) true := by
  have h6 := j6_ev h25 ha hb hc
  refine ev_succ ?_
  simp only [provostlaw02_PartBounds.j5]
  refine ev_neg (by decide) ?_
  rw [finer_eq h25 ha hb]
  simp only [Option.bind_some]
  by_cases h1 : fb a b = true
  · refine ev_pos h1 ?_
    rw [finer_eq h25 hb ha]
    simp only [Option.bind_some]
    by_cases h2 : fb b a = true
    · refine ev_pos h2 ?_
      have e := fin_anti a b (by rw [ha.1, hb.1]) ha.2 hb.2 ((fb_iff ha hb).1 h1) ((fb_iff hb ha).1 h2)
      subst e
      exact Ev.bind (ints_ev a (by rw [ha.1]; omega)) h6
    · exact ev_neg h2 h6
  · exact ev_neg h1 h6
theorem j4_ev {n : Nat} (h25 : n ≤ 25) {a b c m j : List Int} (ha : PatN n a) (hb : PatN n b) (hc : PatN n c) (hm : PatN n m) (hj : PatN n j)
    (e1 : fb c m = (fb c a && fb c b)) (e2 : fb j c = (fb a c && fb b c)) : Ev (fun k => provostlaw02_PartBounds.j4 k a b c m j false) true := by
  have h5 := j5_ev h25 ha hb hc
  refine ev_succ ?_
  simp only [provostlaw02_PartBounds.j4]
  refine ev_neg (by decide) ?_
  simp only [finer_eq h25 hc ha, finer_eq h25 hc hb, finer_eq h25 hc hm, finer_eq h25 ha hc, finer_eq h25 hb hc, finer_eq h25 hj hc, Option.bind_some, e1, e2]
  cases fb c a <;> cases fb c b <;> cases fb a c <;> cases fb b c <;> simp <;> exact h5
theorem j3_ev {n : Nat} (h25 : n ≤ 25) {a b c m j : List Int} (ha : PatN n a) (hb : PatN n b) (hc : PatN n c) (hm : PatN n m) (hj : PatN n j)
    (e1 : fb c m = (fb c a && fb c b)) (e2 : fb j c = (fb a c && fb b c)) (f1 : fb m a = true) (f2 : fb m b = true) (f3 : fb a j = true) (f4 : fb b j = true) : Ev (fun k => provostlaw02_PartBounds.j3 k a b c m j false) true := by
  have h4 := j4_ev h25 ha hb hc hm hj e1 e2
  have f5 : fb a a = true := (fb_iff ha ha).2 (fun _ _ _ _ e => e)
  refine ev_succ ?_
  simp only [provostlaw02_PartBounds.j3]
  refine ev_neg (by decide) ?_
  rw [finer_eq h25 hm ha, f1]
  simp only [Option.bind_some]
  refine ev_pos trivial ?_
  rw [finer_eq h25 hm hb, f2]
  simp only [Option.bind_some]
  refine ev_pos trivial ?_
  rw [finer_eq h25 ha hj, f3]
  simp only [Option.bind_some]
  refine ev_pos trivial ?_
  rw [finer_eq h25 hb hj, f4]
  simp only [Option.bind_some]
  refine ev_pos trivial ?_
  rw [finer_eq h25 ha ha, f5]
  simp only [Option.bind_some]
  exact h4
theorem j2_ev (n : Nat) (h25 : n ≤ 25) (A B C : List Int) (hA : n ≤ A.length) (hB : n ≤ B.length) (hC : n ≤ C.length)
    (wA : ∀ x ∈ A, (Lit.int .i64 x).wf = true) (wB : ∀ x ∈ B, (Lit.int .i64 x).wf = true) (wC : ∀ x ∈ C, (Lit.int .i64 x).wf = true) : Ev (fun k => provostlaw02_PartBounds.j2 k (n : Int) A B C) true := by
  have ofe : ∀ l : List Int, l.length = n → (∀ x ∈ l, (Lit.int .i64 x).wf = true) → part_Of.f l = some (of_pat [] l, 0) := fun l h hw => by
    unfold part_Of.f; rw [if_neg (by omega), if_pos hw]
  have few : ∀ l : List Int, l.length = n → provostlaw02_few.f l (n : Int) = some l := fun l h => by
    rw [few_eq l n (by omega), List.take_of_length_le (by omega)]
  have good : ∀ l : List Int, l.length = n → PatN n (of_pat [] l) := fun l h => ⟨by rw [of_pat_len, h], pat_legal l⟩
  have tA : (A.take n).length = n := by rw [List.length_take]; omega
  have tB : (B.take n).length = n := by rw [List.length_take]; omega
  have tC : (C.take n).length = n := by rw [List.length_take]; omega
  have ga := good _ tA
  have gb := good _ tB
  have gc := good _ tC
  refine ev_succ ?_
  simp only [provostlaw02_PartBounds.j2]
  rw [few_cut A n (by omega)]
  simp only [Option.bind_some]
  rw [ofe _ tA (fun x h => wA x (List.mem_of_mem_take h))]
  simp only [Option.bind_some]
  rw [few_cut B n (by omega)]
  simp only [Option.bind_some]
  rw [ofe _ tB (fun x h => wB x (List.mem_of_mem_take h))]
  simp only [Option.bind_some]
  rw [few_cut C n (by omega)]
  simp only [Option.bind_some]
  rw [ofe _ tC (fun x h => wC x (List.mem_of_mem_take h))]
  simp only [Option.bind_some]
  generalize of_pat [] (A.take n) = a at *
  generalize of_pat [] (B.take n) = b at *
  generalize of_pat [] (C.take n) = c at *
  have hab : a.length = b.length := by rw [ga.1, gb.1]
  have ha25 : a.length ≤ 25 := by rw [ga.1]; exact h25
  rw [few a ga.1]
  simp only [Option.bind_some]
  rw [few b gb.1]
  simp only [Option.bind_some]
  refine Ev.bind (meet_ev a b hab ga.2 gb.2 ha25) (Ev.bind (join_ev a b hab ga.2 gb.2 ha25) ?_)
  have gm : PatN n (of_pat [] (meetL a b)) := ⟨by rw [of_pat_len, meet_len a b hab, ga.1], pat_legal _⟩
  obtain ⟨hj, j1, j2, j3⟩ := join_fin a b hab ga.2 gb.2
  rw [ga.1] at hj
  obtain ⟨m1, m2, m3⟩ := meet_fin a b hab ga.2 gb.2 ha25
  have p1 := pat_fin (meetL a b)
  have p2 := fin_pat (meetL a b)
  have lm := of_pat_len (meetL a b) []
  have ml := meet_len a b hab
  refine ev_pos trivial (ev_pos trivial (ev_pos trivial (ev_pos rfl (ev_pos rfl (ev_pos (by rw [gm.1]) (ev_pos (by rw [hj.1]) (Ev.bind wakes_ev ?_)))))))
  refine j3_ev h25 ga gb gc gm hj ?_ ?_ ?_ ?_ ?_ ?_
  · rw [Bool.eq_iff_iff, Bool.and_eq_true, fb_iff gc gm, fb_iff gc ga, fb_iff gc gb]
    exact ⟨fun h => ⟨fin_trans (by rw [gc.1, gm.1]) h (fin_trans (by rw [lm]) p1 m1), fin_trans (by rw [gc.1, gm.1]) h (fin_trans (by rw [lm]) p1 m2)⟩,
      fun ⟨h1, h2⟩ => fin_trans (by rw [gc.1, ml, ga.1]) (m3 c (by rw [gc.1, ga.1]) h1 h2) p2⟩
  · rw [Bool.eq_iff_iff, Bool.and_eq_true, fb_iff hj gc, fb_iff ga gc, fb_iff gb gc]
    exact ⟨fun h => ⟨fin_trans (by rw [ga.1, hj.1]) j1 h, fin_trans (by rw [gb.1, hj.1]) j2 h⟩, fun ⟨h1, h2⟩ => j3 c h1 h2⟩
  · exact (fb_iff gm ga).2 (fin_trans (by rw [lm]) p1 m1)
  · exact (fb_iff gm gb).2 (fin_trans (by rw [lm]) p1 m2)
  · exact (fb_iff ga hj).2 j1
  · exact (fb_iff gb hj).2 j2
theorem bounds_ev (A B C : List Int)
    (wA : ∀ x ∈ A, (Lit.int .i64 x).wf = true) (wB : ∀ x ∈ B, (Lit.int .i64 x).wf = true) (wC : ∀ x ∈ C, (Lit.int .i64 x).wf = true) : Ev (fun k => provostlaw02_PartBounds.f k A B C) true := by
  have h1 : ∀ n : Nat, n ≤ A.length → n ≤ B.length → n ≤ C.length → Ev (fun k => provostlaw02_PartBounds.j1 k (n : Int) A B C) true := fun n nA nB nC => by
    refine ev_succ ?_
    simp only [provostlaw02_PartBounds.j1]
    by_cases h : (n : Int) > 25
    · exact ev_pos h (j2_ev 25 (by omega) A B C (by omega) (by omega) (by omega) wA wB wC)
    · exact ev_neg h (j2_ev n (by omega) A B C nA nB nC wA wB wC)
  have h0 : ∀ n : Nat, n ≤ A.length → n ≤ B.length → Ev (fun k => provostlaw02_PartBounds.j0 k (n : Int) A B C) true := fun n nA nB => by
    refine ev_succ ?_
    simp only [provostlaw02_PartBounds.j0]
    by_cases h : (C.length : Int) < (n : Int)
    · exact ev_pos h (h1 C.length (by omega) (by omega) (by omega))
    · exact ev_neg h (h1 n nA nB (by omega))
  unfold provostlaw02_PartBounds.f
  by_cases h : (B.length : Int) < (A.length : Int)
  · exact ev_pos h (h0 B.length (by omega) (by omega))
  · exact ev_neg h (h0 A.length (by omega) (by omega))
theorem bounds_walk (A0 : Option Addr) (n0 : Nat) (l0 : List Int) (A1 : Option Addr) (n1 : Nat) (l1 : List Int) (A2 : Option Addr) (n2 : Nat) (l2 : List Int) (w : World)
    (hr0 : Kd.C (Kd.int .i64) w A0 l0.length l0) (hc0 : l0.length ≤ n0) (hr1 : Kd.C (Kd.int .i64) w A1 l1.length l1) (hc1 : l1.length ≤ n1) (hr2 : Kd.C (Kd.int .i64) w A2 l2.length l2) (hc2 : l2.length ≤ n2)
    (g0 : l0.length ≤ maxLen ∧ ∀ x ∈ l0, (Lit.int .i64 x).wf = true) (g1 : l1.length ≤ maxLen ∧ ∀ x ∈ l1, (Lit.int .i64 x).wf = true) (g2 : l2.length ≤ maxLen ∧ ∀ x ∈ l2, (Lit.int .i64 x).wf = true) :
    Calls Try.prog 8 #[.agg #[.slice A0 l0.length n0, .slice A1 l1.length n1, .slice A2 l2.length n2]] w fun e w' => e = .returned (.bool true) ∧ Below w.heap.size w w' := by
  obtain ⟨k, h⟩ := Ev.rounds (bounds_ev l0 l1 l2 g0.2 g1.2 g2.2)
  exact provostlaw02_PartBounds.calls k A0 n0 l0 A1 n1 l1 A2 n2 l2 true w hr0 hc0 hr1 hc1 hr2 hc2 h
end Go.Proofs.Ytpcnpmcknknfcaa.Pure
