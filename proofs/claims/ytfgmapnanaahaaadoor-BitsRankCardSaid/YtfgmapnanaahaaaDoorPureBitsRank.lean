/- BitsRank: rank and place undo each other. -/
import Derived.Test.YtfgmapnanaahaaaDoorPBrkx4
namespace Go.Proofs.YtfgmapnanaahaaaDoor.PBrk
open Go Go.Lib Go.RowKit Go.Proofs.YtfgmapnanaahaaaDoorW.PrintWords Go.Proofs.YtfgmapnanaahaaaDoorW.PrintLast Go.Proofs.YtfgmapnanaahaaaDoorW.PrintMore Go.Proofs.YtfgmapnanaahaaaDoorW.BitsM
set_option linter.unusedVariables false
theorem ev_succ {α : Type} {g : Nat → Option α} {r : α} (h : Ev (fun k => g (k + 1)) r) : Ev g r := Ev.step (fun _ => rfl) h
theorem ev_some {α : Type} {r r' : α} (h : r = r') : Ev (fun _ => some r) r' := by subst h; exact Ev.now r
theorem ev_pos {α : Type} {c : Prop} [Decidable c] {f g : Nat → Option α} {r : α} (h : c) (e : Ev f r) : Ev (fun k => if c then f k else g k) r := by simp only [h, if_true]; exact e
theorem ev_neg {α : Type} {c : Prop} [Decidable c] {f g : Nat → Option α} {r : α} (h : ¬ c) (e : Ev g r) : Ev (fun k => if c then f k else g k) r := by simp only [h, if_false]; exact e
theorem ev_eq {α : Type} {o : Option α} {r : α} (h : o = some r) : Ev (fun _ => o) r := by rw [h]; exact Ev.now r
theorem ev_all {α : Type} {g : Nat → Option α} {r : α} (h : ∀ k, g (k + 1) = some r) : Ev g r := ⟨1, fun k hk => by obtain ⟨m, rfl⟩ : ∃ m, k = m + 1 := ⟨k - 1, by omega⟩; exact h m⟩
theorem wr {i : Int} (h0 : -9223372036854775808 ≤ i + 1) (h : i + 1 ≤ 9223372036854775807) : wrap64 (i + 1) = i + 1 := by unfold wrap64; omega

theorem wakes_ok : provostlaw01_wakes.f = some true := by decide +kernel
section
variable (a : Nat) (ha : a < 18446744073709551616)
include ha
theorem rank_at (i : Nat) (hi : i ≤ 64) : bits_Set_uint64_Rank.f (a : Int) (i : Int) = some (((pfr a i 0).length : Nat) : Int) := by
  rw [rank64_eq a ha, Int.toNat_natCast, Nat.min_eq_left hi]
theorem nth_none (k : Nat) (hk : (pl a 0).length ≤ k) (h9 : k ≤ 64) : bits_Set_uint64_Nth.f (a : Int) (k : Int) = some (-1) := by
  unfold bits_Set_uint64_Nth.f
  rw [if_pos (by omega), if_pos (by omega), Int.toNat_natCast]
  unfold nth
  rw [if_neg (by omega), Int.toNat_natCast, List.getElem?_eq_none hk]
theorem nth_some (k x : Nat) (hk : (pl a 0)[k]? = some x) (h9 : k ≤ 64) : bits_Set_uint64_Nth.f (a : Int) (k : Int) = some (x : Int) := by
  unfold bits_Set_uint64_Nth.f
  rw [if_pos (by omega), if_pos (by omega), Int.toNat_natCast]
  unfold nth
  rw [if_neg (by omega), Int.toNat_natCast, hk]
theorem low_ev : Ev (fun k => bits_Set_uint64_Low.f k (a : Int)) (nx a 0) := ev_all (fun k => low64_eq a ha k)
theorem next_ev (i : Int) : Ev (fun k => bits_Set_uint64_Next.f k (a : Int) i) (nx a i.toNat) := ev_all (fun k => next64_eq a ha i k)
theorem rank_l0 (d : Nat) : ∀ i : Nat, 64 - i = d → i ≤ 64 → Ev (fun k => provostlaw01_BitsRank.l0 k (((pfr a i 0).length : Nat) : Int) (lastOf (pfr a i 0)) (i : Int) (a : Int)) true := by
  induction d with
  | zero =>
    intro i hd hi
    obtain rfl : i = 64 := by omega
    have hpl : pfr a 64 0 = pl a 0 := rfl
    have hlen := pl_len a 0
    obtain ⟨l1, l2, _⟩ := lastOf_pfr a 64
    rw [hpl] at l1 l2 ⊢
    have hn : nx a (lastOf (pl a 0) + 1).toNat = -1 := by
      have := next_last a 64 (Nat.le_refl _)
      rw [hpl] at this
      unfold nx
      rw [this]
      rfl
    have hw : wrap64 (lastOf (pl a 0) + 1) = lastOf (pl a 0) + 1 := by unfold wrap64; omega
    have hnot : 18446744073709551615 ^^^ a < 18446744073709551616 := Nat.xor_lt_two_pow (n := 64) (by decide) ha
    have hcl : (pl (18446744073709551615 ^^^ a) 0).length = 64 - (pl a 0).length := by
      have := compl_len (a := a) (b := 18446744073709551615 ^^^ a) (n := 64) (i := 0) (fun j _ h => not_bits (W := 64) (by omega))
      show (pfr (18446744073709551615 ^^^ a) 64 0).length = 64 - (pfr a 64 0).length
      omega
    have hw2 : wrap64 (64 - (((pl a 0).length : Nat) : Int)) = ((64 - (pl a 0).length : Nat) : Int) := by unfold wrap64; omega
    have fin : Ev (fun k => (bits_Set_uint64_Not.f (a : Int)).bind fun t166 => ((bits_Set_uint64_Len.f t166).bind fun t167 => (if t167 = (wrap64 (64 - (((pl a 0).length : Nat) : Int))) then ((provostlaw01_wakes.f).bind fun t168 => (some t168)) else (some false)))) true := by
      refine Ev.bind (ev_eq (not64_eq a ha)) (Ev.bind (ev_eq (len64_eq _ hnot)) ?_)
      rw [hcl, hw2]
      exact ev_pos rfl (Ev.bind (ev_eq wakes_ok) (ev_some rfl))
    refine ev_succ ?_
    simp only [provostlaw01_BitsRank.l0]
    rw [hw]
    refine ev_neg (by omega) (Ev.bind (ev_eq (len64_eq a ha)) (ev_pos rfl (Ev.bind (ev_eq (high64_eq a ha)) (ev_pos rfl (Ev.bind (next_ev a ha _) ?_)))))
    rw [hn]
    refine ev_pos rfl (Ev.bind (ev_eq (nth_none a ha _ (Nat.le_refl _) hlen)) (ev_pos rfl ?_))
    by_cases h0 : (((pl a 0).length : Nat) : Int) > 0
    · exact ev_pos h0 fin
    · have hnil : pl a 0 = [] := List.eq_nil_of_length_eq_zero (by omega)
      refine ev_neg h0 (Ev.bind (low_ev a ha) ?_)
      have : nx a 0 = -1 := by unfold nx; rw [hnil]
      rw [this]
      exact ev_pos rfl fin
  | succ d ih =>
    intro i hd hi
    have hlt : i < 64 := by omega
    have hlen := pl_len a 0
    have hsp := pl_split a i hi
    obtain ⟨l1, l2, _⟩ := lastOf_pfr a i
    have nxt := ih (i + 1) (by omega) (by omega)
    have w1 : wrap64 ((i : Int) + 1) = ((i + 1 : Nat) : Int) := by unfold wrap64; omega
    have hw : wrap64 (lastOf (pfr a i 0) + 1) = lastOf (pfr a i 0) + 1 := by unfold wrap64; omega
    have hl : (pfr a i 0).length ≤ 64 := by
      have := pfr_len a i 0
      omega
    refine ev_succ ?_
    simp only [provostlaw01_BitsRank.l0]
    have hhas := has64_eq a ha (i : Int)
    rw [decide_eq_true (show (0 : Int) ≤ (i : Int) by omega), decide_eq_true (show (i : Int) < 64 by omega), Bool.true_and, Bool.true_and, Int.toNat_natCast] at hhas
    refine ev_pos (by omega) (Ev.bind (ev_eq hhas) ?_)
    by_cases hb : a.testBit i = true
    · have hst := pl_step (a := a) hlt
      rw [if_pos hb] at hst
      have hnx : nx a (lastOf (pfr a i 0) + 1).toNat = (i : Int) := by
        unfold nx
        rw [next_last a i hi, hst, List.singleton_append]
      have hnth : (pl a 0)[(pfr a i 0).length]? = some i := by
        rw [hsp, hst]
        simp
      have hsn := pfr_snoc a i
      rw [if_pos hb] at hsn
      have hl1 : (((pfr a (i + 1) 0).length : Nat) : Int) = (((pfr a i 0).length : Nat) : Int) + 1 := by rw [hsn]; simp
      have hw2 : wrap64 ((((pfr a i 0).length : Nat) : Int) + 1) = (((pfr a (i + 1) 0).length : Nat) : Int) := by rw [hl1]; unfold wrap64; omega
      have hlast : lastOf (pfr a (i + 1) 0) = (i : Int) := by rw [hsn]; exact lastOf_snoc _ _
      refine ev_pos hb ?_
      rw [w1, hw]
      have go : Ev (fun k => provostlaw01_BitsRank.j1 k (((pfr a i 0).length : Nat) : Int) (i : Int) false (a : Int)) true := by
        refine ev_succ ?_
        simp only [provostlaw01_BitsRank.j1]
        rw [hw2, w1]
        rw [hlast] at nxt
        exact ev_neg (by decide) nxt
      refine Ev.bind (ev_eq (rank_at a ha i hi)) (ev_pos rfl (Ev.bind (ev_eq (nth_some a ha _ i hnth hl)) (ev_pos rfl (Ev.bind (next_ev a ha _) ?_))))
      rw [hnx]
      refine ev_pos rfl (Ev.bind (ev_eq (rank_at a ha (i + 1) (by omega))) (ev_pos hw2.symm ?_))
      by_cases h0 : (((pfr a i 0).length : Nat) : Int) = 0
      · refine ev_pos h0 (Ev.bind (low_ev a ha) ?_)
        have hnil : pfr a i 0 = [] := List.eq_nil_of_length_eq_zero (Int.ofNat.inj h0)
        have e0 : pl a 0 = i :: pl a (i + 1) := by rw [hsp, hnil, hst, List.nil_append, List.singleton_append]
        have : nx a 0 = (i : Int) := by unfold nx; rw [e0]
        rw [this, bne_self_eq_false]
        exact go
      · exact ev_neg h0 go
    · have hsn := pfr_snoc a i
      rw [if_neg hb, List.append_nil] at hsn
      rw [hsn] at nxt
      rw [w1]
      exact ev_neg hb nxt
end
theorem law_ev (a : Nat) (ha : a < 18446744073709551616) (b i k : Int) : Ev (fun q => provostlaw01_BitsRank.f q (a : Int) b i k) true := by
  unfold provostlaw01_BitsRank.f bits_Set_uint64_Of.f
  simp only [Option.bind_some]
  exact rank_l0 a ha 64 0 rfl (by omega)
end Go.Proofs.YtfgmapnanaahaaaDoor.PBrk
namespace Go.Proofs.YtfgmapnanaahaaaDoor.Pure
open Go Go.RowKit Go.Proofs.YtfgmapnanaahaaaDoor.PBrk Go.Proofs.YtfgmapnanaahaaaDoorW.PrintWords
theorem rank_walk (a0 a1 a2 a3 : Int) (w : World) (g0 : (Lit.int .u64 a0).wf = true) (_g1 : (Lit.int .u64 a1).wf = true) (_g2 : (Lit.int .i64 a2).wf = true) (_g3 : (Lit.int .i64 a3).wf = true) (hT : Go.Proofs.YtfgmapnanaahaaaDoorW.Tab.TabW w) :
    Calls Tryd.prog 6 #[.agg #[.int .u64 a0, .int .u64 a1, .int .i64 a2, .int .i64 a3]] w fun e w' => e = .returned (.bool true) ∧ Below w.heap.size w w' := by
  simp [Lit.wf, IntKind.min, IntKind.max, IntKind.signed, IntKind.bits] at g0
  obtain ⟨a, rfl⟩ := Int.eq_ofNat_of_zero_le g0.1
  obtain ⟨k, h⟩ := Ev.rounds (law_ev a (by omega) a1 a2 a3)
  exact provostlaw01_BitsRank.calls k a a1 a2 a3 true w h ⟨hT⟩
end Go.Proofs.YtfgmapnanaahaaaDoor.Pure
