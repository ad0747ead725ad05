/- The law LexScan answers true: lex.Scan and lex.Legal tell what the reference tells. -/
import Derived.Test.YtpcnpmcknknfcaaPLscx7
import Derived.Test.YtpcnpmcknknfcaaPureLexEq
namespace Go.Proofs.Ytpcnpmcknknfcaa.PLsc
open Go.RowKit Go.Proofs.YtpcnpmcknknfcaaW.PrintWords Go.Proofs.YtpcnpmcknknfcaaW.PrintLast Go.Proofs.YtpcnpmcknknfcaaW.PrintMore Go.Proofs.YtpcnpmcknknfcaaW.Mine
set_option linter.unusedVariables false
theorem scan_len : ∀ (k : Nat) (s : ByteArray) (line col : Int) (told : List Tok) (any : Bool), 1 ≤ line → 1 ≤ col → (scanR k s line col told any).1.length ≤ told.length + s.size + 1 := by
  intro k
  induction k with
  | zero => intro s line col told any hl hc; rw [scanR]; simp
  | succ k ih =>
    intro s line col told any hl hc
    rw [scanR]
    by_cases h0 : s.size = 0
    · rw [if_pos h0]
      split <;> (try simp only [List.length_append, List.length_cons, List.length_nil]) <;> omega
    · rw [if_neg h0]
      by_cases he : (stepF s line col told any).1 = 0
      · rw [if_pos he]
        obtain ⟨d1, d2, d3, _, d5, _⟩ := step_bd s line col told any (by omega) he hl hc
        have := ih (stepF s line col told any).2.1 (stepF s line col told any).2.2.1 (stepF s line col told any).2.2.2.1 (stepF s line col told any).2.2.2.2.1 (stepF s line col told any).2.2.2.2.2 d3 d5
        omega
      · rw [if_neg he]; simp
theorem same_l0 (l : List Tok) (hl : l.length ≤ 100000) (d : Nat) : ∀ i : Nat, l.length - i = d → i ≤ l.length → Ev (fun k => provostlaw05_Same.l0 k l l (i : Int)) true := by
  induction d with
  | zero =>
    intro i hd hi
    refine ev_succ ?_
    simp only [provostlaw05_Same.l0]
    exact ev_neg (by omega) (ev_some rfl)
  | succ d ih =>
    intro i hd hi
    refine ev_succ ?_
    simp only [provostlaw05_Same.l0]
    rw [wr (i := (i : Int)) (by omega) (by omega)]
    exact ev_pos (by omega) (ev_pos (by omega) (ev_pos (by omega) (ev_neg (by simp) (ih (i + 1) (by omega) (by omega)))))
theorem same_ev (l : List Tok) (hl : l.length ≤ 100000) : Ev (fun k => provostlaw05_Same.f k l l) true := by
  unfold provostlaw05_Same.f
  exact ev_pos rfl (same_l0 l hl _ 0 rfl (Nat.zero_le _))
theorem rlegal_l0 (s : ByteArray) (h24 : s.size ≤ 24) (d : Nat) : ∀ i : Nat, bgn isIn s - i = d → i ≤ bgn isIn s → Ev (fun k => provostref05_Legal.l0 k s (i : Int)) (decide (bgn isIn s = s.size)) := by
  have hle := bgn_le isIn s
  obtain ⟨s1, s2⟩ := bgn_spec isIn s
  induction d with
  | zero =>
    intro i hd hi
    obtain rfl : i = bgn isIn s := by omega
    refine ev_succ ?_
    simp only [provostref05_Legal.l0]
    by_cases h : bgn isIn s < s.size
    · rw [decide_eq_false (by omega), rinner, s2 h]
      simp only [Option.bind_some]
      exact ev_pos (by omega) (ev_pos (by omega) (ev_neg (by decide) (ev_some rfl)))
    · rw [decide_eq_true (by omega)]
      exact ev_neg (by omega) (ev_some rfl)
  | succ d ih =>
    intro i hd hi
    refine ev_succ ?_
    simp only [provostref05_Legal.l0]
    rw [rinner, s1 i (by omega), wr (i := (i : Int)) (by omega) (by omega)]
    simp only [Option.bind_some]
    exact ev_pos (by omega) (ev_pos (by omega) (ev_pos trivial (ih (i + 1) (by omega) (by omega))))
theorem rlegal_ev (s : ByteArray) : Ev (fun k => provostref05_Legal.f k s) (legF s) := by
  have no : Ev (fun k => provostref05_Legal.j0 k s true) false := by
    refine ev_succ ?_
    simp only [provostref05_Legal.j0]
    exact ev_pos trivial (ev_some rfl)
  unfold provostref05_Legal.f legF
  by_cases h0 : 0 < s.size
  · refine ev_neg (by omega) ?_
    by_cases h24 : s.size ≤ 24
    · refine ev_neg (by omega) (ev_pos (by omega) ?_)
      rw [rletter]
      simp only [Option.bind_some]
      rw [decide_eq_true h0, decide_eq_true h24, Bool.true_and, Bool.and_true]
      cases isSml (bt s 0) with
      | false => rw [Bool.and_false]; exact no
      | true =>
        rw [Bool.and_true]
        refine ev_succ ?_
        simp only [provostref05_Legal.j0]
        exact ev_neg (by decide) (rlegal_l0 s h24 _ 0 rfl (Nat.zero_le _))
    · rw [decide_eq_false h24]
      exact ev_pos (by omega) no
  · rw [decide_eq_false h0, Bool.and_false, Bool.false_and]
    exact ev_pos (by omega) no
theorem scan_ev (s : ByteArray) : ∃ r : Res, lex_Scan.f s = some r ∧ r.1.length ≤ 100000 ∧ Ev (fun k => provostref05_Scan.f k s) r := by
  unfold lex_Scan.f provostref05_Scan.f
  by_cases h : (s.size : Int) > 65536
  · exact ⟨_, if_pos h, by simp, ev_pos h (by unfold provostref05_fault.f; exact ev_some rfl)⟩
  · refine ⟨_, if_neg h, ?_, ev_neg h ?_⟩
    · have := scan_len (s.size + 1) s 1 1 [] false (by decide) (by decide)
      simp only [List.length_nil] at this
      omega
    · have := scan_l0 s (by omega) s.size [] 1 0 false 0 rfl (Nat.zero_le _) (Nat.le_refl _) (by decide) (by decide) (Nat.le_refl _)
      have e : tl s 0 = s := by
        apply bytes_inj; rw [bytesOf_tl, List.drop_zero]
      unfold rest at this
      rw [e] at this
      exact this
theorem wakes_ok : provostlaw05_wakes.f = some true := by
  unfold provostlaw05_wakes.f
  simp only [ByteArray.toList_eq]
  decide +kernel
end Go.Proofs.Ytpcnpmcknknfcaa.PLsc
namespace Go.Proofs.Ytpcnpmcknknfcaa.Pure
open Go.RowKit Go.Proofs.Ytpcnpmcknknfcaa.PLsc Go.Proofs.YtpcnpmcknknfcaaW.PrintWords Go.Proofs.YtpcnpmcknknfcaaW.PrintLast
theorem LexScan : provostlaw05_LexScan.Pure := by
  intro a0 h0
  refine Ev.rounds (g := fun k => provostlaw05_LexScan.f k a0) ?_
  obtain ⟨r, e, hl, hr⟩ := scan_ev a0
  unfold provostlaw05_LexScan.f
  rw [e, wakes_ok]
  simp only [Option.bind_some]
  refine Ev.bind hr (ev_pos (by simp) (Ev.bind (same_ev r.1 hl) (ev_pos rfl ?_)))
  unfold lex_Legal.f
  simp only [Option.bind_some]
  exact Ev.bind (rlegal_ev a0) (ev_pos (by simp) (ev_some rfl))
end Go.Proofs.Ytpcnpmcknknfcaa.Pure
