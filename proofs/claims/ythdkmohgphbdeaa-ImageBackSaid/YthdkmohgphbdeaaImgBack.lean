/- The walk of ImageBack. -/
import Derived.Test.YthdkmohgphbdeaaPureImgEnc
import Derived.Test.YthdkmohgphbdeaaPImRx2
namespace Go.Proofs.Ythdkmohgphbdeaa.PImR
open Go Go.RowKit Go.Proofs.YthdkmohgphbdeaaW.PrintWords Go.Proofs.YthdkmohgphbdeaaW.PrintLast Go.Proofs.YthdkmohgphbdeaaW.PrintMore Go.Proofs.YthdkmohgphbdeaaW.Mine
set_option linter.unusedVariables false
set_option linter.unusedSimpArgs false
attribute [local go_sem] World.cell?_alloc_some
set_option maxHeartbeats 4000000 in
set_option maxRecDepth 100000 in
theorem back_bn (a0 : Int) (a1 a2 a3 : ByteArray) (a4 : Int) (a5 : ByteArray) (A6 : Option Addr) (n6 : Nat) (l6 : List Int) (a7 : Int) (w : World) (hr6 : Kd.C (Kd.int .u8) w A6 l6.length l6) (hc6 : l6.length ≤ n6) (y6 : l6.length ≤ 140737488351232) (hwk : provostlaw21_wakes.f = some true) (b : List Int) (e0 : Int) (hW : image_Write.f a0 a1 a2 a3 a4 a5 = some (b, e0)) (he0 : ¬ e0 = 0) (hR4 : image_Read.f l6 = some (0, ⟨#[]⟩, ⟨#[]⟩, ⟨#[]⟩, 0, ⟨#[]⟩, 3)) :
    Calls Try.prog 5 #[.agg #[.int .i64 a0, .string a1, .string a2, .string a3, .int .i64 a4, .string a5], .slice A6 l6.length n6, .int .u8 a7] w fun e w' => e = .returned (.bool true) ∧ Below w.heap.size w w' := by
  have HC6 := Aside0.mk hr6
  have HL6 := Aside0.mk hc6
  have HWK := Aside0.mk hwk
  have HW := Aside0.mk hW
  have HR4 := Aside0.mk hR4
  clear hr6 hc6 hwk hW hR4
  go_enter Try.func5, Try.ntmps5
  have BK3 := Aside0.mk (heap_alloc_new w (.cells #[.int .i64 a0, .string a1, .string a2, .string a3, .int .i64 a4, .string a5] 23))
  have HB := Aside0.mk ((Below.refl w.heap.size w).alloc (Nat.le_refl _) (.cells #[.int .i64 a0, .string a1, .string a2, .string a3, .int .i64 a4, .string a5] 23))
  have hx0 := (blk_cell BK3.out 0).trans rfl
  have hx1 := (blk_cell BK3.out 1).trans rfl
  have hx2 := (blk_cell BK3.out 2).trans rfl
  have hx3 := (blk_cell BK3.out 3).trans rfl
  have hx4 := (blk_cell BK3.out 4).trans rfl
  have hx5 := (blk_cell BK3.out 5).trans rfl
  go_wp2_with (first
    | (go_at_call 11; (with_reducible refine (image_Write.calls a0 a1 a2 a3 a4 a5 b e0 _ HW.out).mono ?_); rintro e wb ⟨vb, rfl, ho, hb⟩; obtain ⟨Ab, cb, rfl, hcb, hCb⟩ := Kd.R_reads ho; clear ho; have n0_ := Aside0.mk (below_then HB.out HB.out.size hb); have n1_ := Aside0.mk (blk_below BK3.out hb); clear HB BK3 hb; have HB := n0_; have BK3 := n1_; clear n0_ n1_; have HCb := Aside0.mk hCb; have HLb0 := Aside0.mk hcb; clear hCb hcb; clear hx0 hx1 hx2 hx3 hx4 hx5)
    | ((with_reducible refine gate_dst (N := 73) rfl ?_); refine Kd.R_lit (Kd.int .u8) _ 5 ?hg (N := 73) ?hd (xs := ([] : List Int)) (inner := []) (ok := fun _ => True) (okp := fun _ => True) ?hr ?hp (fun _ hk => hk) trivial (Below.refl _ _) (Nat.le_refl _) (by simp) ?_; (case hd => rfl); (case hg => rfl); (case hr => first | (go_simp; done) | (go_simp; rfl)); (case hp => exact (Reps.none _ _)); intro vL wL ho hb hg_ hn_; clear hg_ hn_; have HLo := Aside0.mk ho; have HLb := Aside0.mk hb; clear ho hb)
    | ((with_reducible refine gate_builtin (b := .append) (xs := #[.tmp 73, .tmp 74]) rfl ?_); at_builtin; refine Kd.R_append_rows (Kd.int .u8) (w0 := wb) wb.heap.size rfl (.tmp 73) (.tmp 74) 24 5 (.int .u8 0) 1 rfl Try.underlying24 info5 rfl (by decide) (by omega) vL ([] : List Int) l6 _ _ _ (fun _ => True) (fun _ => False) rfl rfl ?aO ?aR (fun _ _ h => h) (fun _ h => h.elim) ?aF ?aB ?aS ?aL ?_; (case aR => exact (Kd.C_below (Kd.C_below HC6.out HB.out) HLb.out)); (case aB => exact HLb.out); (case aF => exact (fun _ _ => trivial)); (case aO => exact HLo.out); (case aS => exact HLb.out.size); (case aL => simp only [List.length_nil]; omega); intro v w2 ho hb hg hat; clear hg hat HLo HLb; rw [List.nil_append] at ho; obtain ⟨Ar, cr, rfl, hcr, hCr⟩ := Kd.R_reads ho; have HLo := Aside0.mk ho; have HLb := Aside0.mk hb; have HCr := Aside0.mk hCr; have HLr := Aside0.mk hcr; clear ho hb hcr hCr)
    | (go_at_call 14; (with_reducible refine (image_Read.calls Ar cr l6 0 ⟨#[]⟩ ⟨#[]⟩ ⟨#[]⟩ 0 ⟨#[]⟩ 3 _ HCr.out HLr.out HR4.out).mono ?_); rintro e wq ⟨rfl, hb3⟩; have hb := below_then HLb.out HLb.out.size hb3; clear HLo HLb HCr HLr hb3; have n0_ := Aside0.mk (below_then HB.out HB.out.size hb); have n1_ := Aside0.mk (blk_below BK3.out hb); clear HB BK3 hb; have HB := n0_; have BK3 := n1_; clear n0_ n1_)
    | ((with_reducible refine gate_dst (N := 15) rfl ?_); refine hold_ ?_))
  unfold Hold
  go_wp2_with (go_at_call 13; (with_reducible refine (provostlaw21_wakes.calls true _ HWK.out).mono ?_); rintro e wf ⟨rfl, hbw⟩; have HBF := Aside0.mk (below_then (below_alloc HB.out _) (below_size (below_alloc HB.out _)) hbw); clear hbw)
  go_ret
  exact ⟨rfl, HBF.out⟩
set_option maxHeartbeats 4000000 in
set_option maxRecDepth 100000 in
theorem back_by (a0 : Int) (a1 a2 a3 : ByteArray) (a4 : Int) (a5 : ByteArray) (A6 : Option Addr) (n6 : Nat) (l6 : List Int) (a7 : Int) (w : World) (hr6 : Kd.C (Kd.int .u8) w A6 l6.length l6) (hc6 : l6.length ≤ n6) (y6 : l6.length ≤ 140737488351232) (hwk : provostlaw21_wakes.f = some true) (b : List Int) (e0 : Int) (hW : image_Write.f a0 a1 a2 a3 a4 a5 = some (b, e0)) (he0 : ¬ e0 = 0) (o : Int) (sA sB sC : ByteArray) (n : Int) (sT : ByteArray) (hR4 : image_Read.f l6 = some (o, sA, sB, sC, n, sT, 0)) (hW2 : image_Write.f o sA sB sC n sT = some (l6, 0)) :
    Calls Try.prog 5 #[.agg #[.int .i64 a0, .string a1, .string a2, .string a3, .int .i64 a4, .string a5], .slice A6 l6.length n6, .int .u8 a7] w fun e w' => e = .returned (.bool true) ∧ Below w.heap.size w w' := by
  have HC6 := Aside0.mk hr6
  have HL6 := Aside0.mk hc6
  have HWK := Aside0.mk hwk
  have HW := Aside0.mk hW
  have HR4 := Aside0.mk hR4
  have HW2 := Aside0.mk hW2
  clear hr6 hc6 hwk hW hR4 hW2
  go_enter Try.func5, Try.ntmps5
  have BK3 := Aside0.mk (heap_alloc_new w (.cells #[.int .i64 a0, .string a1, .string a2, .string a3, .int .i64 a4, .string a5] 23))
  have HB := Aside0.mk ((Below.refl w.heap.size w).alloc (Nat.le_refl _) (.cells #[.int .i64 a0, .string a1, .string a2, .string a3, .int .i64 a4, .string a5] 23))
  have hx0 := (blk_cell BK3.out 0).trans rfl
  have hx1 := (blk_cell BK3.out 1).trans rfl
  have hx2 := (blk_cell BK3.out 2).trans rfl
  have hx3 := (blk_cell BK3.out 3).trans rfl
  have hx4 := (blk_cell BK3.out 4).trans rfl
  have hx5 := (blk_cell BK3.out 5).trans rfl
  go_wp2_with (first
    | (go_at_call 11; (with_reducible refine (image_Write.calls a0 a1 a2 a3 a4 a5 b e0 _ HW.out).mono ?_); rintro e wb ⟨vb, rfl, ho, hb⟩; obtain ⟨Ab, cb, rfl, hcb, hCb⟩ := Kd.R_reads ho; clear ho; have n0_ := Aside0.mk (below_then HB.out HB.out.size hb); have n1_ := Aside0.mk (blk_below BK3.out hb); clear HB BK3 hb; have HB := n0_; have BK3 := n1_; clear n0_ n1_; have HCb := Aside0.mk hCb; have HLb0 := Aside0.mk hcb; clear hCb hcb; clear hx0 hx1 hx2 hx3 hx4 hx5)
    | ((with_reducible refine gate_dst (N := 73) rfl ?_); refine Kd.R_lit (Kd.int .u8) _ 5 ?hg (N := 73) ?hd (xs := ([] : List Int)) (inner := []) (ok := fun _ => True) (okp := fun _ => True) ?hr ?hp (fun _ hk => hk) trivial (Below.refl _ _) (Nat.le_refl _) (by simp) ?_; (case hd => rfl); (case hg => rfl); (case hr => first | (go_simp; done) | (go_simp; rfl)); (case hp => exact (Reps.none _ _)); intro vL wL ho hb hg_ hn_; clear hg_ hn_; have HLo := Aside0.mk ho; have HLb := Aside0.mk hb; clear ho hb)
    | ((with_reducible refine gate_builtin (b := .append) (xs := #[.tmp 73, .tmp 74]) rfl ?_); at_builtin; refine Kd.R_append_rows (Kd.int .u8) (w0 := wb) wb.heap.size rfl (.tmp 73) (.tmp 74) 24 5 (.int .u8 0) 1 rfl Try.underlying24 info5 rfl (by decide) (by omega) vL ([] : List Int) l6 _ _ _ (fun _ => True) (fun _ => False) rfl rfl ?aO ?aR (fun _ _ h => h) (fun _ h => h.elim) ?aF ?aB ?aS ?aL ?_; (case aR => exact (Kd.C_below (Kd.C_below HC6.out HB.out) HLb.out)); (case aB => exact HLb.out); (case aF => exact (fun _ _ => trivial)); (case aO => exact HLo.out); (case aS => exact HLb.out.size); (case aL => simp only [List.length_nil]; omega); intro v w2 ho hb hg hat; clear hg hat HLo HLb; rw [List.nil_append] at ho; obtain ⟨Ar, cr, rfl, hcr, hCr⟩ := Kd.R_reads ho; have HLo := Aside0.mk ho; have HLb := Aside0.mk hb; have HCr := Aside0.mk hCr; have HLr := Aside0.mk hcr; clear ho hb hcr hCr)
    | (go_at_call 14; (with_reducible refine (image_Read.calls Ar cr l6 o sA sB sC n sT 0 _ HCr.out HLr.out HR4.out).mono ?_); rintro e wq ⟨rfl, hb3⟩; have hb := below_then HLb.out HLb.out.size hb3; clear HLo HLb HCr HLr hb3; have n0_ := Aside0.mk (below_then HB.out HB.out.size hb); have n1_ := Aside0.mk (blk_below BK3.out hb); clear HB BK3 hb; have HB := n0_; have BK3 := n1_; clear n0_ n1_)
    | ((with_reducible refine gate_dst (N := 15) rfl ?_); refine hold_ ?_))
  unfold Hold
  go_wp2_with (first
    | (go_at_call 11; (with_reducible refine (image_Write.calls o sA sB sC n sT l6 0 _ HW2.out).mono ?_); rintro e wx ⟨vx, rfl, ho, hb⟩; obtain ⟨Ax, cx, rfl, hcx, hCx⟩ := Kd.R_reads ho; clear ho; have HBX := Aside0.mk (below_then (below_alloc HB.out _) (below_size (below_alloc HB.out _)) hb); clear hb; have hk1 := Kd.C_string (P := Try.prog) (src := 24) (dst := 9) Try.underlying24 Try.underlying5 Try.underlying9 (c := cx) hCx; have hk2 := Kd.C_string (P := Try.prog) (src := 24) (dst := 9) Try.underlying24 Try.underlying5 Try.underlying9 (c := n6) (Kd.C_below HC6.out HBX.out); clear hCx hcx)
    | (go_at_call 13; (with_reducible refine (provostlaw21_wakes.calls true _ HWK.out).mono ?_); rintro e wf ⟨rfl, hbw⟩; have HBF := Aside0.mk (below_then HBX.out (below_size HBX.out) hbw); clear hbw))
  go_ret
  exact ⟨rfl, HBF.out⟩
set_option maxHeartbeats 4000000 in
set_option maxRecDepth 100000 in
theorem back_gn (a0 : Int) (a1 a2 a3 : ByteArray) (a4 : Int) (a5 : ByteArray) (A6 : Option Addr) (n6 : Nat) (l6 : List Int) (a7 : Int) (w : World) (hr6 : Kd.C (Kd.int .u8) w A6 l6.length l6) (hc6 : l6.length ≤ n6) (y6 : l6.length ≤ 140737488351232) (hwk : provostlaw21_wakes.f = some true) (b : List Int) (hW : image_Write.f a0 a1 a2 a3 a4 a5 = some (b, 0)) (hR1 : image_Read.f b = some (a0, a1, a2, a3, a4, a5, 0)) (hR2 : image_Read.f (b ++ [a7]) = some (0, ⟨#[]⟩, ⟨#[]⟩, ⟨#[]⟩, 0, ⟨#[]⟩, 3)) (hR3 : image_Read.f (b.take (b.length - 1)) = some (0, ⟨#[]⟩, ⟨#[]⟩, ⟨#[]⟩, 0, ⟨#[]⟩, 3)) (hl16 : 16 ≤ b.length) (hl30 : b.length ≤ 1000000) (hR4 : image_Read.f l6 = some (0, ⟨#[]⟩, ⟨#[]⟩, ⟨#[]⟩, 0, ⟨#[]⟩, 3)) :
    Calls Try.prog 5 #[.agg #[.int .i64 a0, .string a1, .string a2, .string a3, .int .i64 a4, .string a5], .slice A6 l6.length n6, .int .u8 a7] w fun e w' => e = .returned (.bool true) ∧ Below w.heap.size w w' := by
  have HC6 := Aside0.mk hr6
  have HL6 := Aside0.mk hc6
  have HWK := Aside0.mk hwk
  have HW := Aside0.mk hW
  have HR4 := Aside0.mk hR4
  have HR1 := Aside0.mk hR1
  have HR2 := Aside0.mk hR2
  have HR3 := Aside0.mk hR3
  clear hr6 hc6 hwk hW hR4 hR1 hR2 hR3
  go_enter Try.func5, Try.ntmps5
  have BK3 := Aside0.mk (heap_alloc_new w (.cells #[.int .i64 a0, .string a1, .string a2, .string a3, .int .i64 a4, .string a5] 23))
  have HB := Aside0.mk ((Below.refl w.heap.size w).alloc (Nat.le_refl _) (.cells #[.int .i64 a0, .string a1, .string a2, .string a3, .int .i64 a4, .string a5] 23))
  have hx0 := (blk_cell BK3.out 0).trans rfl
  have hx1 := (blk_cell BK3.out 1).trans rfl
  have hx2 := (blk_cell BK3.out 2).trans rfl
  have hx3 := (blk_cell BK3.out 3).trans rfl
  have hx4 := (blk_cell BK3.out 4).trans rfl
  have hx5 := (blk_cell BK3.out 5).trans rfl
  go_wp2_with (first
    | (go_at_call 11; (with_reducible refine (image_Write.calls a0 a1 a2 a3 a4 a5 b 0 _ HW.out).mono ?_); rintro e wb ⟨vb, rfl, ho, hb⟩; obtain ⟨Ab, cb, rfl, hcb, hCb⟩ := Kd.R_reads ho; clear ho; have n0_ := Aside0.mk (below_then HB.out HB.out.size hb); have n1_ := Aside0.mk (blk_below BK3.out hb); clear HB BK3 hb; have HB := n0_; have BK3 := n1_; clear n0_ n1_; have HCb := Aside0.mk hCb; have HLb0 := Aside0.mk hcb; clear hCb hcb; clear hx0 hx1 hx2 hx3 hx4 hx5)
    | ((with_reducible refine gate_dst (N := 27) rfl ?_); refine Kd.R_lit (Kd.int .u8) _ 5 ?hg (N := 27) ?hd (xs := ([] : List Int)) (inner := []) (ok := fun _ => True) (okp := fun _ => True) ?hr ?hp (fun _ hk => hk) trivial (Below.refl _ _) (Nat.le_refl _) (by simp) ?_; (case hd => rfl); (case hg => rfl); (case hr => first | (go_simp; done) | (go_simp; rfl)); (case hp => exact (Reps.none _ _)); intro vL wL ho hb hg_ hn_; clear hg_ hn_; have HLo := Aside0.mk ho; have HLb := Aside0.mk hb; clear ho hb)
    | ((with_reducible refine gate_builtin (b := .append) (xs := #[.tmp 27, .tmp 28]) rfl ?_); at_builtin; refine Kd.R_append_rows (Kd.int .u8) (w0 := wb) wb.heap.size rfl (.tmp 27) (.tmp 28) 24 5 (.int .u8 0) 1 rfl Try.underlying24 info5 rfl (by decide) (by omega) vL ([] : List Int) b _ _ _ (fun _ => True) (fun _ => False) rfl rfl ?aO ?aR (fun _ _ h => h) (fun _ h => h.elim) ?aF ?aB ?aS ?aL ?_; (case aR => exact (Kd.C_below HCb.out HLb.out)); (case aB => exact HLb.out); (case aF => exact (fun _ _ => trivial)); (case aO => exact HLo.out); (case aS => exact HLb.out.size); (case aL => simp only [List.length_nil]; omega); intro v w2 ho hb hg hat; clear hg hat HLo HLb; rw [List.nil_append] at ho; obtain ⟨Ar, cr, rfl, hcr, hCr⟩ := Kd.R_reads ho; have HLo := Aside0.mk ho; have HLb := Aside0.mk hb; have HCr := Aside0.mk hCr; have HLr := Aside0.mk hcr; clear ho hb hcr hCr)
    | (go_at_call 14; (with_reducible refine (image_Read.calls Ar cr b a0 a1 a2 a3 a4 a5 0 _ HCr.out HLr.out HR1.out).mono ?_); rintro e wq ⟨rfl, hb3⟩; have hb := below_then HLb.out HLb.out.size hb3; clear HLo HLb HCr HLr hb3; have n0_ := Aside0.mk (below_then HB.out HB.out.size hb); have n1_ := Aside0.mk (blk_below BK3.out hb); have n2_ := Aside0.mk (Kd.C_below HCb.out hb); clear HB BK3 HCb hb; have HB := n0_; have BK3 := n1_; have HCb := n2_; clear n0_ n1_ n2_)
    | ((with_reducible refine gate_dst (N := 34) rfl ?_); have hb := (Below.refl wq.heap.size wq).alloc (Nat.le_refl _) (.cells #[.int .i64 a0, .string a1, .string a2, .string a3, .int .i64 a4, .string a5] 23); have n9_ := Aside0.mk (heap_alloc_new wq (.cells #[.int .i64 a0, .string a1, .string a2, .string a3, .int .i64 a4, .string a5] 23)); have n0_ := Aside0.mk (below_then HB.out HB.out.size hb); have n1_ := Aside0.mk (blk_below BK3.out hb); have n2_ := Aside0.mk (Kd.C_below HCb.out hb); clear HB BK3 HCb hb; have HB := n0_; have BK3 := n1_; have HCb := n2_; clear n0_ n1_ n2_; have BK9 := n9_; clear n9_; generalize wq.alloc (.cells #[.int .i64 a0, .string a1, .string a2, .string a3, .int .i64 a4, .string a5] 23) = wb at *; generalize wq.heap.size = g9 at *; refine Kd.R_lit (Kd.int .u8) _ 5 ?hg (N := 34) ?hd (xs := ([] : List Int)) (inner := []) (ok := fun _ => True) (okp := fun _ => True) ?hr ?hp (fun _ hk => hk) trivial (Below.refl _ _) (Nat.le_refl _) (by simp) ?_; (case hd => rfl); (case hg => rfl); (case hr => first | (go_simp; done) | (go_simp; rfl)); (case hp => exact (Reps.none _ _)); intro vL wL ho hb hg_ hn_; clear hg_ hn_; have HLo := Aside0.mk ho; have HLb := Aside0.mk hb; clear ho hb)
    | ((with_reducible refine gate_builtin (b := .append) (xs := #[.tmp 34, .tmp 35]) rfl ?_); at_builtin; refine Kd.R_append_rows (Kd.int .u8) (w0 := wb) wb.heap.size rfl (.tmp 34) (.tmp 35) 24 5 (.int .u8 0) 1 rfl Try.underlying24 info5 rfl (by decide) (by omega) vL ([] : List Int) b _ _ _ (fun _ => True) (fun _ => False) rfl rfl ?aO ?aR (fun _ _ h => h) (fun _ h => h.elim) ?aF ?aB ?aS ?aL ?_; (case aR => exact (Kd.C_below HCb.out HLb.out)); (case aB => exact HLb.out); (case aF => exact (fun _ _ => trivial)); (case aO => exact HLo.out); (case aS => exact HLb.out.size); (case aL => simp only [List.length_nil]; omega); intro v w2 ho hb hg hat; clear hg hat HLo HLb; rw [List.nil_append] at ho; obtain ⟨Ar, cr, rfl, hcr, hCr⟩ := Kd.R_reads ho; have HLo := Aside0.mk ho; have HLb := Aside0.mk hb; have HCr := Aside0.mk hCr; have HLr := Aside0.mk hcr; clear ho hb hcr hCr)
    | ((with_reducible refine gate_builtin (b := .append) (xs := #[.tmp 36, .tmp 38]) rfl ?_); at_builtin; refine Kd.R_append (Kd.int .u8) (w0 := wb) wb.heap.size rfl (.tmp 36) (.tmp 38) 24 5 (.int .u8 0) 1 rfl Try.underlying24 info5 rfl (by decide) (by omega) _ b a7 [.int .u8 a7] (fun _ => True) (fun _ => False) rfl rfl ?aP (fun _ hk => hk.elim) ?aF ?aO ?aB ?aS ?aL ?_; (case aP => exact rfl); (case aB => exact HLb.out); (case aF => exact (fun _ _ => trivial)); (case aO => exact HLo.out); (case aS => exact HLb.out.size); (case aL => omega); intro v w2 ho hb hg hat; clear hg hat HLo HLb HCr HLr; generalize b ++ [a7] = bm at *; obtain ⟨Ar, cr, rfl, hcr, hCr⟩ := Kd.R_reads ho; have HLo := Aside0.mk ho; have HLb := Aside0.mk hb; have HCr := Aside0.mk hCr; have HLr := Aside0.mk hcr; clear ho hb hcr hCr)
    | (go_at_call 14; (with_reducible refine (image_Read.calls Ar cr bm 0 ⟨#[]⟩ ⟨#[]⟩ ⟨#[]⟩ 0 ⟨#[]⟩ 3 _ HCr.out HLr.out HR2.out).mono ?_); rintro e wq ⟨rfl, hb3⟩; have hb := below_then HLb.out HLb.out.size hb3; clear HLo HLb HCr HLr hb3; have n0_ := Aside0.mk (below_then HB.out HB.out.size hb); have n1_ := Aside0.mk (blk_below BK3.out hb); have n2_ := Aside0.mk (Kd.C_below HCb.out hb); have n3_ := Aside0.mk (blk_below BK9.out hb); clear HB BK3 HCb BK9 hb; have HB := n0_; have BK3 := n1_; have HCb := n2_; have BK9 := n3_; clear n0_ n1_ n2_ n3_)
    | ((with_reducible refine gate_dst (N := 11) rfl ?_); refine hold_ ?_))
  have hx0 : wq.cell? ⟨w.heap.size, 0, none⟩ = some (.int .i64 a0) := (blk_cell BK3.out 0).trans rfl
  have hx1 : wq.cell? ⟨w.heap.size, 1, none⟩ = some (.string a1) := (blk_cell BK3.out 1).trans rfl
  have hx2 : wq.cell? ⟨w.heap.size, 2, none⟩ = some (.string a2) := (blk_cell BK3.out 2).trans rfl
  have hx3 : wq.cell? ⟨w.heap.size, 3, none⟩ = some (.string a3) := (blk_cell BK3.out 3).trans rfl
  have hx4 : wq.cell? ⟨w.heap.size, 4, none⟩ = some (.int .i64 a4) := (blk_cell BK3.out 4).trans rfl
  have hx5 : wq.cell? ⟨w.heap.size, 5, none⟩ = some (.string a5) := (blk_cell BK3.out 5).trans rfl
  have hy0 : wq.cell? ⟨g9, 0, none⟩ = some (.int .i64 a0) := (blk_cell BK9.out 0).trans rfl
  have hy1 : wq.cell? ⟨g9, 1, none⟩ = some (.string a1) := (blk_cell BK9.out 1).trans rfl
  have hy2 : wq.cell? ⟨g9, 2, none⟩ = some (.string a2) := (blk_cell BK9.out 2).trans rfl
  have hy3 : wq.cell? ⟨g9, 3, none⟩ = some (.string a3) := (blk_cell BK9.out 3).trans rfl
  have hy4 : wq.cell? ⟨g9, 4, none⟩ = some (.int .i64 a4) := (blk_cell BK9.out 4).trans rfl
  have hy5 : wq.cell? ⟨g9, 5, none⟩ = some (.string a5) := (blk_cell BK9.out 5).trans rfl
  have hlt16 : ¬ (b.length : Int) < 16 := by omega
  obtain ⟨i0, hi0, _, hsz, _⟩ := info_parts info5
  have hcut := cut_to (P := Try.prog) 24 5 .i64 Try.underlying24 hi0 Ab b.length cb ((b.length : Int) - 1) (by omega) (by omega) HLb0.out
  rw [show ((b.length : Int) - 1).toNat = b.length - 1 by omega] at hcut
  clear hi0 hsz
  have HCs : Aside0 (Kd.C (Kd.int .u8) wq Ab (b.length - 1) (b.take (b.length - 1))) := ⟨by have h := Kd.C_take HCb.out (m := b.length - 1) (by omega); rw [List.length_take, Nat.min_eq_left (by omega)] at h; exact h⟩
  have hbl : (b.take (b.length - 1)).length = b.length - 1 := by rw [List.length_take]; omega
  have HBL := Aside0.mk hbl
  clear hbl
  generalize b.take (b.length - 1) = bs at *
  unfold Hold
  go_wp2_with (first
    | ((with_reducible refine gate_dst (N := 60) rfl ?_); have hb := (Below.refl wq.heap.size wq).alloc (Nat.le_refl _) (.cells #[.int .i64 0, .string ⟨#[]⟩, .string ⟨#[]⟩, .string ⟨#[]⟩, .int .i64 0, .string ⟨#[]⟩] 23); have n9_ := Aside0.mk (heap_alloc_new wq (.cells #[.int .i64 0, .string ⟨#[]⟩, .string ⟨#[]⟩, .string ⟨#[]⟩, .int .i64 0, .string ⟨#[]⟩] 23)); have n0_ := Aside0.mk (below_then HB.out HB.out.size hb); have n1_ := Aside0.mk (blk_below BK3.out hb); have n2_ := Aside0.mk (Kd.C_below HCs.out hb); clear HB BK3 HCs hb; have HB := n0_; have BK3 := n1_; have HCs := n2_; clear n0_ n1_ n2_; have BK11 := n9_; clear n9_; generalize wq.alloc (.cells #[.int .i64 0, .string ⟨#[]⟩, .string ⟨#[]⟩, .string ⟨#[]⟩, .int .i64 0, .string ⟨#[]⟩] 23) = wb at *; refine Kd.R_lit (Kd.int .u8) _ 5 ?hg (N := 60) ?hd (xs := ([] : List Int)) (inner := []) (ok := fun _ => True) (okp := fun _ => True) ?hr ?hp (fun _ hk => hk) trivial (Below.refl _ _) (Nat.le_refl _) (by simp) ?_; (case hd => rfl); (case hg => rfl); (case hr => first | (go_simp; done) | (go_simp; rfl)); (case hp => exact (Reps.none _ _)); intro vL wL ho hb hg_ hn_; clear hg_ hn_; have HLo := Aside0.mk ho; have HLb := Aside0.mk hb; clear ho hb)
    | ((with_reducible refine gate_builtin (b := .append) (xs := #[.tmp 60, .tmp 65]) rfl ?_); at_builtin; refine Kd.R_append_rows (Kd.int .u8) (w0 := wb) wb.heap.size rfl (.tmp 60) (.tmp 65) 24 5 (.int .u8 0) 1 rfl Try.underlying24 info5 rfl (by decide) (by omega) vL ([] : List Int) bs _ _ _ (fun _ => True) (fun _ => False) rfl rfl ?aO ?aR (fun _ _ h => h) (fun _ h => h.elim) ?aF ?aB ?aS ?aL ?_; (case aR => exact (Kd.C_below HCs.out HLb.out)); (case aB => exact HLb.out); (case aF => exact (fun _ _ => trivial)); (case aO => exact HLo.out); (case aS => exact HLb.out.size); (case aL => simp only [List.length_nil]; omega); intro v w2 ho hb hg hat; clear hg hat HLo HLb; rw [List.nil_append] at ho; obtain ⟨Ar, cr, rfl, hcr, hCr⟩ := Kd.R_reads ho; have HLo := Aside0.mk ho; have HLb := Aside0.mk hb; have HCr := Aside0.mk hCr; have HLr := Aside0.mk hcr; clear ho hb hcr hCr)
    | (go_at_call 14; (with_reducible refine (image_Read.calls Ar cr bs 0 ⟨#[]⟩ ⟨#[]⟩ ⟨#[]⟩ 0 ⟨#[]⟩ 3 _ HCr.out HLr.out HR3.out).mono ?_); rintro e wq ⟨rfl, hb3⟩; have hb := below_then HLb.out HLb.out.size hb3; clear HLo HLb HCr HLr hb3; have n0_ := Aside0.mk (below_then HB.out HB.out.size hb); have n1_ := Aside0.mk (blk_below BK3.out hb); clear HB BK3 hb; have HB := n0_; have BK3 := n1_; clear n0_ n1_)
    | ((with_reducible refine gate_dst (N := 73) rfl ?_); refine hold_ ?_))
  have hb := (Below.refl wq.heap.size wq).alloc (Nat.le_refl _) (.cells #[.int .i64 0, .string ⟨#[]⟩, .string ⟨#[]⟩, .string ⟨#[]⟩, .int .i64 0, .string ⟨#[]⟩] 23)
  have n9_ := Aside0.mk (heap_alloc_new wq (.cells #[.int .i64 0, .string ⟨#[]⟩, .string ⟨#[]⟩, .string ⟨#[]⟩, .int .i64 0, .string ⟨#[]⟩] 23))
  have n0_ := Aside0.mk (below_then HB.out HB.out.size hb)
  have n1_ := Aside0.mk (blk_below BK3.out hb)
  clear HB BK3 hb
  have HB := n0_
  have BK3 := n1_
  clear n0_ n1_
  have BK13 := n9_
  clear n9_
  generalize wq.alloc (.cells #[.int .i64 0, .string ⟨#[]⟩, .string ⟨#[]⟩, .string ⟨#[]⟩, .int .i64 0, .string ⟨#[]⟩] 23) = wb at *
  unfold Hold
  go_wp2_with (first
    | ((with_reducible refine gate_dst (N := 73) rfl ?_); refine Kd.R_lit (Kd.int .u8) _ 5 ?hg (N := 73) ?hd (xs := ([] : List Int)) (inner := []) (ok := fun _ => True) (okp := fun _ => True) ?hr ?hp (fun _ hk => hk) trivial (Below.refl _ _) (Nat.le_refl _) (by simp) ?_; (case hd => rfl); (case hg => rfl); (case hr => first | (go_simp; done) | (go_simp; rfl)); (case hp => exact (Reps.none _ _)); intro vL wL ho hb hg_ hn_; clear hg_ hn_; have HLo := Aside0.mk ho; have HLb := Aside0.mk hb; clear ho hb)
    | ((with_reducible refine gate_builtin (b := .append) (xs := #[.tmp 73, .tmp 74]) rfl ?_); at_builtin; refine Kd.R_append_rows (Kd.int .u8) (w0 := wb) wb.heap.size rfl (.tmp 73) (.tmp 74) 24 5 (.int .u8 0) 1 rfl Try.underlying24 info5 rfl (by decide) (by omega) vL ([] : List Int) l6 _ _ _ (fun _ => True) (fun _ => False) rfl rfl ?aO ?aR (fun _ _ h => h) (fun _ h => h.elim) ?aF ?aB ?aS ?aL ?_; (case aR => exact (Kd.C_below (Kd.C_below HC6.out HB.out) HLb.out)); (case aB => exact HLb.out); (case aF => exact (fun _ _ => trivial)); (case aO => exact HLo.out); (case aS => exact HLb.out.size); (case aL => simp only [List.length_nil]; omega); intro v w2 ho hb hg hat; clear hg hat HLo HLb; rw [List.nil_append] at ho; obtain ⟨Ar, cr, rfl, hcr, hCr⟩ := Kd.R_reads ho; have HLo := Aside0.mk ho; have HLb := Aside0.mk hb; have HCr := Aside0.mk hCr; have HLr := Aside0.mk hcr; clear ho hb hcr hCr)
    | (go_at_call 14; (with_reducible refine (image_Read.calls Ar cr l6 0 ⟨#[]⟩ ⟨#[]⟩ ⟨#[]⟩ 0 ⟨#[]⟩ 3 _ HCr.out HLr.out HR4.out).mono ?_); rintro e wq ⟨rfl, hb3⟩; have hb := below_then HLb.out HLb.out.size hb3; clear HLo HLb HCr HLr hb3; have n0_ := Aside0.mk (below_then HB.out HB.out.size hb); have n1_ := Aside0.mk (blk_below BK3.out hb); clear HB BK3 hb; have HB := n0_; have BK3 := n1_; clear n0_ n1_)
    | ((with_reducible refine gate_dst (N := 15) rfl ?_); refine hold_ ?_))
  unfold Hold
  go_wp2_with (go_at_call 13; (with_reducible refine (provostlaw21_wakes.calls true _ HWK.out).mono ?_); rintro e wf ⟨rfl, hbw⟩; have HBF := Aside0.mk (below_then (below_alloc HB.out _) (below_size (below_alloc HB.out _)) hbw); clear hbw)
  go_ret
  exact ⟨rfl, HBF.out⟩
set_option maxHeartbeats 4000000 in
set_option maxRecDepth 100000 in
theorem back_gy (a0 : Int) (a1 a2 a3 : ByteArray) (a4 : Int) (a5 : ByteArray) (A6 : Option Addr) (n6 : Nat) (l6 : List Int) (a7 : Int) (w : World) (hr6 : Kd.C (Kd.int .u8) w A6 l6.length l6) (hc6 : l6.length ≤ n6) (y6 : l6.length ≤ 140737488351232) (hwk : provostlaw21_wakes.f = some true) (b : List Int) (hW : image_Write.f a0 a1 a2 a3 a4 a5 = some (b, 0)) (hR1 : image_Read.f b = some (a0, a1, a2, a3, a4, a5, 0)) (hR2 : image_Read.f (b ++ [a7]) = some (0, ⟨#[]⟩, ⟨#[]⟩, ⟨#[]⟩, 0, ⟨#[]⟩, 3)) (hR3 : image_Read.f (b.take (b.length - 1)) = some (0, ⟨#[]⟩, ⟨#[]⟩, ⟨#[]⟩, 0, ⟨#[]⟩, 3)) (hl16 : 16 ≤ b.length) (hl30 : b.length ≤ 1000000) (o : Int) (sA sB sC : ByteArray) (n : Int) (sT : ByteArray) (hR4 : image_Read.f l6 = some (o, sA, sB, sC, n, sT, 0)) (hW2 : image_Write.f o sA sB sC n sT = some (l6, 0)) :
    Calls Try.prog 5 #[.agg #[.int .i64 a0, .string a1, .string a2, .string a3, .int .i64 a4, .string a5], .slice A6 l6.length n6, .int .u8 a7] w fun e w' => e = .returned (.bool true) ∧ Below w.heap.size w w' := by
  have HC6 := Aside0.mk hr6
  have HL6 := Aside0.mk hc6
  have HWK := Aside0.mk hwk
  have HW := Aside0.mk hW
  have HR4 := Aside0.mk hR4
  have HR1 := Aside0.mk hR1
  have HR2 := Aside0.mk hR2
  have HR3 := Aside0.mk hR3
  have HW2 := Aside0.mk hW2
  clear hr6 hc6 hwk hW hR4 hR1 hR2 hR3 hW2
  go_enter Try.func5, Try.ntmps5
  have BK3 := Aside0.mk (heap_alloc_new w (.cells #[.int .i64 a0, .string a1, .string a2, .string a3, .int .i64 a4, .string a5] 23))
  have HB := Aside0.mk ((Below.refl w.heap.size w).alloc (Nat.le_refl _) (.cells #[.int .i64 a0, .string a1, .string a2, .string a3, .int .i64 a4, .string a5] 23))
  have hx0 := (blk_cell BK3.out 0).trans rfl
  have hx1 := (blk_cell BK3.out 1).trans rfl
  have hx2 := (blk_cell BK3.out 2).trans rfl
  have hx3 := (blk_cell BK3.out 3).trans rfl
  have hx4 := (blk_cell BK3.out 4).trans rfl
  have hx5 := (blk_cell BK3.out 5).trans rfl
  go_wp2_with (first
    | (go_at_call 11; (with_reducible refine (image_Write.calls a0 a1 a2 a3 a4 a5 b 0 _ HW.out).mono ?_); rintro e wb ⟨vb, rfl, ho, hb⟩; obtain ⟨Ab, cb, rfl, hcb, hCb⟩ := Kd.R_reads ho; clear ho; have n0_ := Aside0.mk (below_then HB.out HB.out.size hb); have n1_ := Aside0.mk (blk_below BK3.out hb); clear HB BK3 hb; have HB := n0_; have BK3 := n1_; clear n0_ n1_; have HCb := Aside0.mk hCb; have HLb0 := Aside0.mk hcb; clear hCb hcb; clear hx0 hx1 hx2 hx3 hx4 hx5)
    | ((with_reducible refine gate_dst (N := 27) rfl ?_); refine Kd.R_lit (Kd.int .u8) _ 5 ?hg (N := 27) ?hd (xs := ([] : List Int)) (inner := []) (ok := fun _ => True) (okp := fun _ => True) ?hr ?hp (fun _ hk => hk) trivial (Below.refl _ _) (Nat.le_refl _) (by simp) ?_; (case hd => rfl); (case hg => rfl); (case hr => first | (go_simp; done) | (go_simp; rfl)); (case hp => exact (Reps.none _ _)); intro vL wL ho hb hg_ hn_; clear hg_ hn_; have HLo := Aside0.mk ho; have HLb := Aside0.mk hb; clear ho hb)
    | ((with_reducible refine gate_builtin (b := .append) (xs := #[.tmp 27, .tmp 28]) rfl ?_); at_builtin; refine Kd.R_append_rows (Kd.int .u8) (w0 := wb) wb.heap.size rfl (.tmp 27) (.tmp 28) 24 5 (.int .u8 0) 1 rfl Try.underlying24 info5 rfl (by decide) (by omega) vL ([] : List Int) b _ _ _ (fun _ => True) (fun _ => False) rfl rfl ?aO ?aR (fun _ _ h => h) (fun _ h => h.elim) ?aF ?aB ?aS ?aL ?_; (case aR => exact (Kd.C_below HCb.out HLb.out)); (case aB => exact HLb.out); (case aF => exact (fun _ _ => trivial)); (case aO => exact HLo.out); (case aS => exact HLb.out.size); (case aL => simp only [List.length_nil]; omega); intro v w2 ho hb hg hat; clear hg hat HLo HLb; rw [List.nil_append] at ho; obtain ⟨Ar, cr, rfl, hcr, hCr⟩ := Kd.R_reads ho; have HLo := Aside0.mk ho; have HLb := Aside0.mk hb; have HCr := Aside0.mk hCr; have HLr := Aside0.mk hcr; clear ho hb hcr hCr)
    | (go_at_call 14; (with_reducible refine (image_Read.calls Ar cr b a0 a1 a2 a3 a4 a5 0 _ HCr.out HLr.out HR1.out).mono ?_); rintro e wq ⟨rfl, hb3⟩; have hb := below_then HLb.out HLb.out.size hb3; clear HLo HLb HCr HLr hb3; have n0_ := Aside0.mk (below_then HB.out HB.out.size hb); have n1_ := Aside0.mk (blk_below BK3.out hb); have n2_ := Aside0.mk (Kd.C_below HCb.out hb); clear HB BK3 HCb hb; have HB := n0_; have BK3 := n1_; have HCb := n2_; clear n0_ n1_ n2_)
    | ((with_reducible refine gate_dst (N := 34) rfl ?_); have hb := (Below.refl wq.heap.size wq).alloc (Nat.le_refl _) (.cells #[.int .i64 a0, .string a1, .string a2, .string a3, .int .i64 a4, .string a5] 23); have n9_ := Aside0.mk (heap_alloc_new wq (.cells #[.int .i64 a0, .string a1, .string a2, .string a3, .int .i64 a4, .string a5] 23)); have n0_ := Aside0.mk (below_then HB.out HB.out.size hb); have n1_ := Aside0.mk (blk_below BK3.out hb); have n2_ := Aside0.mk (Kd.C_below HCb.out hb); clear HB BK3 HCb hb; have HB := n0_; have BK3 := n1_; have HCb := n2_; clear n0_ n1_ n2_; have BK9 := n9_; clear n9_; generalize wq.alloc (.cells #[.int .i64 a0, .string a1, .string a2, .string a3, .int .i64 a4, .string a5] 23) = wb at *; generalize wq.heap.size = g9 at *; refine Kd.R_lit (Kd.int .u8) _ 5 ?hg (N := 34) ?hd (xs := ([] : List Int)) (inner := []) (ok := fun _ => True) (okp := fun _ => True) ?hr ?hp (fun _ hk => hk) trivial (Below.refl _ _) (Nat.le_refl _) (by simp) ?_; (case hd => rfl); (case hg => rfl); (case hr => first | (go_simp; done) | (go_simp; rfl)); (case hp => exact (Reps.none _ _)); intro vL wL ho hb hg_ hn_; clear hg_ hn_; have HLo := Aside0.mk ho; have HLb := Aside0.mk hb; clear ho hb)
    | ((with_reducible refine gate_builtin (b := .append) (xs := #[.tmp 34, .tmp 35]) rfl ?_); at_builtin; refine Kd.R_append_rows (Kd.int .u8) (w0 := wb) wb.heap.size rfl (.tmp 34) (.tmp 35) 24 5 (.int .u8 0) 1 rfl Try.underlying24 info5 rfl (by decide) (by omega) vL ([] : List Int) b _ _ _ (fun _ => True) (fun _ => False) rfl rfl ?aO ?aR (fun _ _ h => h) (fun _ h => h.elim) ?aF ?aB ?aS ?aL ?_; (case aR => exact (Kd.C_below HCb.out HLb.out)); (case aB => exact HLb.out); (case aF => exact (fun _ _ => trivial)); (case aO => exact HLo.out); (case aS => exact HLb.out.size); (case aL => simp only [List.length_nil]; omega); intro v w2 ho hb hg hat; clear hg hat HLo HLb; rw [List.nil_append] at ho; obtain ⟨Ar, cr, rfl, hcr, hCr⟩ := Kd.R_reads ho; have HLo := Aside0.mk ho; have HLb := Aside0.mk hb; have HCr := Aside0.mk hCr; have HLr := Aside0.mk hcr; clear ho hb hcr hCr)
    | ((with_reducible refine gate_builtin (b := .append) (xs := #[.tmp 36, .tmp 38]) rfl ?_); at_builtin; refine Kd.R_append (Kd.int .u8) (w0 := wb) wb.heap.size rfl (.tmp 36) (.tmp 38) 24 5 (.int .u8 0) 1 rfl Try.underlying24 info5 rfl (by decide) (by omega) _ b a7 [.int .u8 a7] (fun _ => True) (fun _ => False) rfl rfl ?aP (fun _ hk => hk.elim) ?aF ?aO ?aB ?aS ?aL ?_; (case aP => exact rfl); (case aB => exact HLb.out); (case aF => exact (fun _ _ => trivial)); (case aO => exact HLo.out); (case aS => exact HLb.out.size); (case aL => omega); intro v w2 ho hb hg hat; clear hg hat HLo HLb HCr HLr; generalize b ++ [a7] = bm at *; obtain ⟨Ar, cr, rfl, hcr, hCr⟩ := Kd.R_reads ho; have HLo := Aside0.mk ho; have HLb := Aside0.mk hb; have HCr := Aside0.mk hCr; have HLr := Aside0.mk hcr; clear ho hb hcr hCr)
    | (go_at_call 14; (with_reducible refine (image_Read.calls Ar cr bm 0 ⟨#[]⟩ ⟨#[]⟩ ⟨#[]⟩ 0 ⟨#[]⟩ 3 _ HCr.out HLr.out HR2.out).mono ?_); rintro e wq ⟨rfl, hb3⟩; have hb := below_then HLb.out HLb.out.size hb3; clear HLo HLb HCr HLr hb3; have n0_ := Aside0.mk (below_then HB.out HB.out.size hb); have n1_ := Aside0.mk (blk_below BK3.out hb); have n2_ := Aside0.mk (Kd.C_below HCb.out hb); have n3_ := Aside0.mk (blk_below BK9.out hb); clear HB BK3 HCb BK9 hb; have HB := n0_; have BK3 := n1_; have HCb := n2_; have BK9 := n3_; clear n0_ n1_ n2_ n3_)
    | ((with_reducible refine gate_dst (N := 11) rfl ?_); refine hold_ ?_))
  have hx0 : wq.cell? ⟨w.heap.size, 0, none⟩ = some (.int .i64 a0) := (blk_cell BK3.out 0).trans rfl
  have hx1 : wq.cell? ⟨w.heap.size, 1, none⟩ = some (.string a1) := (blk_cell BK3.out 1).trans rfl
  have hx2 : wq.cell? ⟨w.heap.size, 2, none⟩ = some (.string a2) := (blk_cell BK3.out 2).trans rfl
  have hx3 : wq.cell? ⟨w.heap.size, 3, none⟩ = some (.string a3) := (blk_cell BK3.out 3).trans rfl
  have hx4 : wq.cell? ⟨w.heap.size, 4, none⟩ = some (.int .i64 a4) := (blk_cell BK3.out 4).trans rfl
  have hx5 : wq.cell? ⟨w.heap.size, 5, none⟩ = some (.string a5) := (blk_cell BK3.out 5).trans rfl
  have hy0 : wq.cell? ⟨g9, 0, none⟩ = some (.int .i64 a0) := (blk_cell BK9.out 0).trans rfl
  have hy1 : wq.cell? ⟨g9, 1, none⟩ = some (.string a1) := (blk_cell BK9.out 1).trans rfl
  have hy2 : wq.cell? ⟨g9, 2, none⟩ = some (.string a2) := (blk_cell BK9.out 2).trans rfl
  have hy3 : wq.cell? ⟨g9, 3, none⟩ = some (.string a3) := (blk_cell BK9.out 3).trans rfl
  have hy4 : wq.cell? ⟨g9, 4, none⟩ = some (.int .i64 a4) := (blk_cell BK9.out 4).trans rfl
  have hy5 : wq.cell? ⟨g9, 5, none⟩ = some (.string a5) := (blk_cell BK9.out 5).trans rfl
  have hlt16 : ¬ (b.length : Int) < 16 := by omega
  obtain ⟨i0, hi0, _, hsz, _⟩ := info_parts info5
  have hcut := cut_to (P := Try.prog) 24 5 .i64 Try.underlying24 hi0 Ab b.length cb ((b.length : Int) - 1) (by omega) (by omega) HLb0.out
  rw [show ((b.length : Int) - 1).toNat = b.length - 1 by omega] at hcut
  clear hi0 hsz
  have HCs : Aside0 (Kd.C (Kd.int .u8) wq Ab (b.length - 1) (b.take (b.length - 1))) := ⟨by have h := Kd.C_take HCb.out (m := b.length - 1) (by omega); rw [List.length_take, Nat.min_eq_left (by omega)] at h; exact h⟩
  have hbl : (b.take (b.length - 1)).length = b.length - 1 := by rw [List.length_take]; omega
  have HBL := Aside0.mk hbl
  clear hbl
  generalize b.take (b.length - 1) = bs at *
  unfold Hold
  go_wp2_with (first
    | ((with_reducible refine gate_dst (N := 60) rfl ?_); have hb := (Below.refl wq.heap.size wq).alloc (Nat.le_refl _) (.cells #[.int .i64 0, .string ⟨#[]⟩, .string ⟨#[]⟩, .string ⟨#[]⟩, .int .i64 0, .string ⟨#[]⟩] 23); have n9_ := Aside0.mk (heap_alloc_new wq (.cells #[.int .i64 0, .string ⟨#[]⟩, .string ⟨#[]⟩, .string ⟨#[]⟩, .int .i64 0, .string ⟨#[]⟩] 23)); have n0_ := Aside0.mk (below_then HB.out HB.out.size hb); have n1_ := Aside0.mk (blk_below BK3.out hb); have n2_ := Aside0.mk (Kd.C_below HCs.out hb); clear HB BK3 HCs hb; have HB := n0_; have BK3 := n1_; have HCs := n2_; clear n0_ n1_ n2_; have BK11 := n9_; clear n9_; generalize wq.alloc (.cells #[.int .i64 0, .string ⟨#[]⟩, .string ⟨#[]⟩, .string ⟨#[]⟩, .int .i64 0, .string ⟨#[]⟩] 23) = wb at *; refine Kd.R_lit (Kd.int .u8) _ 5 ?hg (N := 60) ?hd (xs := ([] : List Int)) (inner := []) (ok := fun _ => True) (okp := fun _ => True) ?hr ?hp (fun _ hk => hk) trivial (Below.refl _ _) (Nat.le_refl _) (by simp) ?_; (case hd => rfl); (case hg => rfl); (case hr => first | (go_simp; done) | (go_simp; rfl)); (case hp => exact (Reps.none _ _)); intro vL wL ho hb hg_ hn_; clear hg_ hn_; have HLo := Aside0.mk ho; have HLb := Aside0.mk hb; clear ho hb)
    | ((with_reducible refine gate_builtin (b := .append) (xs := #[.tmp 60, .tmp 65]) rfl ?_); at_builtin; refine Kd.R_append_rows (Kd.int .u8) (w0 := wb) wb.heap.size rfl (.tmp 60) (.tmp 65) 24 5 (.int .u8 0) 1 rfl Try.underlying24 info5 rfl (by decide) (by omega) vL ([] : List Int) bs _ _ _ (fun _ => True) (fun _ => False) rfl rfl ?aO ?aR (fun _ _ h => h) (fun _ h => h.elim) ?aF ?aB ?aS ?aL ?_; (case aR => exact (Kd.C_below HCs.out HLb.out)); (case aB => exact HLb.out); (case aF => exact (fun _ _ => trivial)); (case aO => exact HLo.out); (case aS => exact HLb.out.size); (case aL => simp only [List.length_nil]; omega); intro v w2 ho hb hg hat; clear hg hat HLo HLb; rw [List.nil_append] at ho; obtain ⟨Ar, cr, rfl, hcr, hCr⟩ := Kd.R_reads ho; have HLo := Aside0.mk ho; have HLb := Aside0.mk hb; have HCr := Aside0.mk hCr; have HLr := Aside0.mk hcr; clear ho hb hcr hCr)
    | (go_at_call 14; (with_reducible refine (image_Read.calls Ar cr bs 0 ⟨#[]⟩ ⟨#[]⟩ ⟨#[]⟩ 0 ⟨#[]⟩ 3 _ HCr.out HLr.out HR3.out).mono ?_); rintro e wq ⟨rfl, hb3⟩; have hb := below_then HLb.out HLb.out.size hb3; clear HLo HLb HCr HLr hb3; have n0_ := Aside0.mk (below_then HB.out HB.out.size hb); have n1_ := Aside0.mk (blk_below BK3.out hb); clear HB BK3 hb; have HB := n0_; have BK3 := n1_; clear n0_ n1_)
    | ((with_reducible refine gate_dst (N := 73) rfl ?_); refine hold_ ?_))
  have hb := (Below.refl wq.heap.size wq).alloc (Nat.le_refl _) (.cells #[.int .i64 0, .string ⟨#[]⟩, .string ⟨#[]⟩, .string ⟨#[]⟩, .int .i64 0, .string ⟨#[]⟩] 23)
  have n9_ := Aside0.mk (heap_alloc_new wq (.cells #[.int .i64 0, .string ⟨#[]⟩, .string ⟨#[]⟩, .string ⟨#[]⟩, .int .i64 0, .string ⟨#[]⟩] 23))
  have n0_ := Aside0.mk (below_then HB.out HB.out.size hb)
  have n1_ := Aside0.mk (blk_below BK3.out hb)
  clear HB BK3 hb
  have HB := n0_
  have BK3 := n1_
  clear n0_ n1_
  have BK13 := n9_
  clear n9_
  generalize wq.alloc (.cells #[.int .i64 0, .string ⟨#[]⟩, .string ⟨#[]⟩, .string ⟨#[]⟩, .int .i64 0, .string ⟨#[]⟩] 23) = wb at *
  unfold Hold
  go_wp2_with (first
    | ((with_reducible refine gate_dst (N := 73) rfl ?_); refine Kd.R_lit (Kd.int .u8) _ 5 ?hg (N := 73) ?hd (xs := ([] : List Int)) (inner := []) (ok := fun _ => True) (okp := fun _ => True) ?hr ?hp (fun _ hk => hk) trivial (Below.refl _ _) (Nat.le_refl _) (by simp) ?_; (case hd => rfl); (case hg => rfl); (case hr => first | (go_simp; done) | (go_simp; rfl)); (case hp => exact (Reps.none _ _)); intro vL wL ho hb hg_ hn_; clear hg_ hn_; have HLo := Aside0.mk ho; have HLb := Aside0.mk hb; clear ho hb)
    | ((with_reducible refine gate_builtin (b := .append) (xs := #[.tmp 73, .tmp 74]) rfl ?_); at_builtin; refine Kd.R_append_rows (Kd.int .u8) (w0 := wb) wb.heap.size rfl (.tmp 73) (.tmp 74) 24 5 (.int .u8 0) 1 rfl Try.underlying24 info5 rfl (by decide) (by omega) vL ([] : List Int) l6 _ _ _ (fun _ => True) (fun _ => False) rfl rfl ?aO ?aR (fun _ _ h => h) (fun _ h => h.elim) ?aF ?aB ?aS ?aL ?_; (case aR => exact (Kd.C_below (Kd.C_below HC6.out HB.out) HLb.out)); (case aB => exact HLb.out); (case aF => exact (fun _ _ => trivial)); (case aO => exact HLo.out); (case aS => exact HLb.out.size); (case aL => simp only [List.length_nil]; omega); intro v w2 ho hb hg hat; clear hg hat HLo HLb; rw [List.nil_append] at ho; obtain ⟨Ar, cr, rfl, hcr, hCr⟩ := Kd.R_reads ho; have HLo := Aside0.mk ho; have HLb := Aside0.mk hb; have HCr := Aside0.mk hCr; have HLr := Aside0.mk hcr; clear ho hb hcr hCr)
    | (go_at_call 14; (with_reducible refine (image_Read.calls Ar cr l6 o sA sB sC n sT 0 _ HCr.out HLr.out HR4.out).mono ?_); rintro e wq ⟨rfl, hb3⟩; have hb := below_then HLb.out HLb.out.size hb3; clear HLo HLb HCr HLr hb3; have n0_ := Aside0.mk (below_then HB.out HB.out.size hb); have n1_ := Aside0.mk (blk_below BK3.out hb); clear HB BK3 hb; have HB := n0_; have BK3 := n1_; clear n0_ n1_)
    | ((with_reducible refine gate_dst (N := 15) rfl ?_); refine hold_ ?_))
  unfold Hold
  go_wp2_with (first
    | (go_at_call 11; (with_reducible refine (image_Write.calls o sA sB sC n sT l6 0 _ HW2.out).mono ?_); rintro e wx ⟨vx, rfl, ho, hb⟩; obtain ⟨Ax, cx, rfl, hcx, hCx⟩ := Kd.R_reads ho; clear ho; have HBX := Aside0.mk (below_then (below_alloc HB.out _) (below_size (below_alloc HB.out _)) hb); clear hb; have hk1 := Kd.C_string (P := Try.prog) (src := 24) (dst := 9) Try.underlying24 Try.underlying5 Try.underlying9 (c := cx) hCx; have hk2 := Kd.C_string (P := Try.prog) (src := 24) (dst := 9) Try.underlying24 Try.underlying5 Try.underlying9 (c := n6) (Kd.C_below HC6.out HBX.out); clear hCx hcx)
    | (go_at_call 13; (with_reducible refine (provostlaw21_wakes.calls true _ HWK.out).mono ?_); rintro e wf ⟨rfl, hbw⟩; have HBF := Aside0.mk (below_then HBX.out (below_size HBX.out) hbw); clear hbw))
  go_ret
  exact ⟨rfl, HBF.out⟩
end Go.Proofs.Ythdkmohgphbdeaa.PImR
