/- The pure law of ImageBack: what was written is read again, and no byte less or more. -/
import Derived.Test.YthdkmohgphbdeaaImgBack
namespace Go.Proofs.Ythdkmohgphbdeaa.PImR
open Go Go.RowKit Go.Proofs.YthdkmohgphbdeaaW.PrintWords Go.Proofs.YthdkmohgphbdeaaW.PrintLast Go.Proofs.YthdkmohgphbdeaaW.Mine
set_option linter.unusedVariables false
theorem back_wakes : provostlaw21_wakes.f = some true := by
  have h : image_Write.f 20 (⟨#[97, 110, 110]⟩ : ByteArray) (⟨#[115, 105, 103, 110]⟩ : ByteArray) (⟨#[]⟩ : ByteArray) 3 (⟨#[]⟩ : ByteArray) = some ([20, 0, 0, 0, 0, 0, 0, 0, 3, 3, 97, 110, 110, 4, 115, 105, 103, 110, 0, 0, 0, 0, 0], 0) := by
    unfold image_Write.f
    rw [if_neg (by decide), if_neg (by decide), if_neg (by unfold mx3; decide), if_neg (by decide)]
    decide
  unfold provostlaw21_wakes.f
  rw [h]
  simp only [Option.bind_some]
  simp [strOfNums]
section
variable {op : Int} {sA sB sC : ByteArray} {n : Int} {sT : ByteArray} (h : good op sA sB sC sT) (hn : (Lit.int .i64 n).wf = true)
include h
theorem all_len : 16 ≤ (image_Write.all op sA sB sC n sT).length ∧ (image_Write.all op sA sB sC n sT).length ≤ 1000000 := by
  obtain ⟨h1, h2, h3, h4, h5, h6⟩ := h
  have e := congrArg List.length (all_form op sA sB sC n sT [])
  simp only [List.append_nil, List.length_cons, List.length_append, List.length_nil, bytesOf_len, image_Write.be8, image_Write.be4] at e
  omega
include hn
theorem back_same : image_Read.f (image_Write.all op sA sB sC n sT) = some (op, sA, sB, sC, n, sT, 0) := by
  have hb := all_bytes (n := n) h
  have hl := all_len (n := n) h
  rw [img_read_eq _ hb (by omega), told_yes (ok_of_all h hn _ rfl)]
  obtain ⟨a1, a2, a3, a4, a5, a6, _⟩ := parse_all h hn [] _ (List.append_nil _).symm
  rw [a1, a2, a3, a4, a5, a6]
theorem back_more (x : Int) (hx : 0 ≤ x ∧ x ≤ 255) : image_Read.f (image_Write.all op sA sB sC n sT ++ [x]) = some (0, ⟨#[]⟩, ⟨#[]⟩, ⟨#[]⟩, 0, ⟨#[]⟩, 3) := by
  have hb : Bytes (image_Write.all op sA sB sC n sT ++ [x]) := by
    intro y hy
    rcases List.mem_append.1 hy with hy | hy
    · exact all_bytes h y hy
    · rw [List.mem_singleton.1 hy]; exact hx
  have hl := all_len (n := n) h
  rw [img_read_eq _ hb (by rw [List.length_append, List.length_singleton]; omega), told_no]
  intro hok
  obtain ⟨_, _, _, _, _, _, a7, _⟩ := parse_all h hn [x] _ rfl
  have := hok.2.2.2.2.2.2.1
  rw [a7] at this
  cases this
theorem back_less : image_Read.f ((image_Write.all op sA sB sC n sT).take ((image_Write.all op sA sB sC n sT).length - 1)) = some (0, ⟨#[]⟩, ⟨#[]⟩, ⟨#[]⟩, 0, ⟨#[]⟩, 3) := by
  have hl := all_len (n := n) h
  have hb := all_bytes (n := n) h
  have hbs := bytes_take hb ((image_Write.all op sA sB sC n sT).length - 1)
  rw [img_read_eq _ hbs (by rw [List.length_take]; omega), told_no]
  intro hok
  obtain ⟨hg, ha⟩ := ok_all _ hbs hok
  obtain ⟨_, _, _, _, _, _, a7, _⟩ := parse_all h hn [] _ (List.append_nil _).symm
  have hsplit := (List.take_append_drop ((image_Write.all op sA sB sC n sT).length - 1) (image_Write.all op sA sB sC n sT)).symm
  obtain ⟨_, _, _, _, _, _, b7, _⟩ := parse_all hg (wf_num _) ((image_Write.all op sA sB sC n sT).drop ((image_Write.all op sA sB sC n sT).length - 1)) (image_Write.all op sA sB sC n sT) (by rw [ha]; exact hsplit)
  rw [a7] at b7
  have := congrArg List.length b7
  rw [List.length_drop] at this
  simp at this
  omega
end
theorem back_walk (a0 : Int) (a1 a2 a3 : ByteArray) (a4 : Int) (a5 : ByteArray) (A6 : Option Addr) (n6 : Nat) (l6 : List Int) (a7 : Int) (w : World) (hr6 : Kd.C (Kd.int .u8) w A6 l6.length l6) (hc6 : l6.length ≤ n6)
    (g0 : (Lit.int .i64 a0).wf = true) (g1 : a1.size ≤ maxLen) (g2 : a2.size ≤ maxLen) (g3 : a3.size ≤ maxLen) (g4 : (Lit.int .i64 a4).wf = true) (g5 : a5.size ≤ maxLen) (g6 : l6.length ≤ maxLen ∧ ∀ x ∈ l6, (Lit.int .u8 x).wf = true) (g7 : (Lit.int .u8 a7).wf = true) (y6 : l6.length * 1 ≤ 140737488351232) :
    Calls Try.prog 5 #[.agg #[.int .i64 a0, .string a1, .string a2, .string a3, .int .i64 a4, .string a5], .slice A6 l6.length n6, .int .u8 a7] w fun e w' => e = .returned (.bool true) ∧ Below w.heap.size w w' := by
  have hb6 : Bytes l6 := fun x hx => by
    have := g6.2 x hx
    simpa [Lit.wf, IntKind.min, IntKind.max, IntKind.signed, IntKind.bits] using this
  have hb7 : 0 ≤ a7 ∧ a7 ≤ 255 := by simpa [Lit.wf, IntKind.min, IntKind.max, IntKind.signed, IntKind.bits] using g7
  have y : l6.length ≤ 140737488351232 := by omega
  have hr := img_read_eq l6 hb6 (by omega)
  rcases write_cases a0 a1 a2 a3 a4 a5 with hg | ⟨e, he, hne⟩
  · have hl := all_len (n := a4) hg
    by_cases hok : okL l6
    · rw [told_yes hok] at hr
      obtain ⟨hg2, ha2⟩ := ok_all l6 hb6 hok
      exact back_gy a0 a1 a2 a3 a4 a5 A6 n6 l6 a7 w hr6 hc6 y back_wakes _ (write_good a4 hg) (back_same hg g4) (back_more hg g4 a7 hb7) (back_less hg g4) hl.1 hl.2 _ _ _ _ _ _ hr (by rw [write_good _ hg2, ha2])
    · rw [told_no hok] at hr
      exact back_gn a0 a1 a2 a3 a4 a5 A6 n6 l6 a7 w hr6 hc6 y back_wakes _ (write_good a4 hg) (back_same hg g4) (back_more hg g4 a7 hb7) (back_less hg g4) hl.1 hl.2 hr
  · by_cases hok : okL l6
    · rw [told_yes hok] at hr
      obtain ⟨hg2, ha2⟩ := ok_all l6 hb6 hok
      exact back_by a0 a1 a2 a3 a4 a5 A6 n6 l6 a7 w hr6 hc6 y back_wakes _ _ he hne _ _ _ _ _ _ hr (by rw [write_good _ hg2, ha2])
    · rw [told_no hok] at hr
      exact back_bn a0 a1 a2 a3 a4 a5 A6 n6 l6 a7 w hr6 hc6 y back_wakes _ _ he hne hr
end Go.Proofs.Ythdkmohgphbdeaa.PImR
