/- The pure law of ImageWrite: the two writers tell the same bytes. -/
import Derived.Test.YthdkmohgphbdeaaPImgx1
namespace Go.Proofs.Ythdkmohgphbdeaa.PImg
open Go.RowKit Go.Proofs.YthdkmohgphbdeaaW.PrintWords Go.Proofs.YthdkmohgphbdeaaW.PrintLast Go.Proofs.YthdkmohgphbdeaaW.Mine
set_option linter.unusedVariables false
theorem img_same (a : Int) (b c d : ByteArray) (e : Int) (f : ByteArray) : image_Write.f a b c d e f = provostref21_Write.f a b c d e f := by
  unfold image_Write.f provostref21_Write.f
  by_cases h1 : a < 1
  · rw [if_pos h1, if_pos h1]
  rw [if_neg h1, if_neg h1]
  by_cases h2 : a > 255
  · rw [if_pos h2, if_pos h2]
  rw [if_neg h2, if_neg h2]
  by_cases h3 : (b.size : Int) > 255
  · rw [if_pos (by unfold mx3; omega), if_pos h3]
  rw [if_neg h3]
  by_cases h4 : (c.size : Int) > 255
  · rw [if_pos (by unfold mx3; omega), if_pos h4]
  rw [if_neg h4]
  by_cases h5 : (d.size : Int) > 255
  · rw [if_pos (by unfold mx3; omega), if_pos h5]
  rw [if_neg h5, if_neg (by unfold mx3; omega)]
  by_cases h6 : (f.size : Int) > 65536
  · rw [if_pos h6, if_pos h6]
  rw [if_neg h6, if_neg h6]
  simp only [image_Write.all, provostref21_Write.all, image_Write.pre, image_Write.str, image_Write.be8, provostref21_Write.be8, image_Write.be4, provostref21_Write.be4]
theorem img_wakes : provostlaw21_wakes.f = some true := by
  have h : image_Write.f 20 (⟨#[97, 110, 110]⟩ : ByteArray) (⟨#[115, 105, 103, 110]⟩ : ByteArray) (⟨#[]⟩ : ByteArray) 3 (⟨#[]⟩ : ByteArray) = some ([20, 0, 0, 0, 0, 0, 0, 0, 3, 3, 97, 110, 110, 4, 115, 105, 103, 110, 0, 0, 0, 0, 0], 0) := by
    unfold image_Write.f
    rw [if_neg (by decide), if_neg (by decide), if_neg (by unfold mx3; decide), if_neg (by decide)]
    decide
  unfold provostlaw21_wakes.f
  rw [h]
  simp only [Option.bind_some]
  simp [strOfNums]
theorem img_total (a : Int) (b c d : ByteArray) (e : Int) (f : ByteArray) : ∃ r, provostref21_Write.f a b c d e f = some r := by
  unfold provostref21_Write.f
  repeat' split
  all_goals exact ⟨_, rfl⟩
theorem write_pure (a : Int) (b c d : ByteArray) (e : Int) (f : ByteArray) : provostlaw21_ImageWrite.f a b c d e f = some true := by
  unfold provostlaw21_ImageWrite.f
  rw [img_same]
  obtain ⟨r, hr⟩ := img_total a b c d e f
  rw [hr]
  simp [img_wakes]
theorem write_walk (a0 : Int) (a1 a2 a3 : ByteArray) (a4 : Int) (a5 : ByteArray) (w : World) (g0 : (Lit.int .i64 a0).wf = true) (g1 : a1.size ≤ maxLen) (g2 : a2.size ≤ maxLen) (g3 : a3.size ≤ maxLen) (g4 : (Lit.int .i64 a4).wf = true) (g5 : a5.size ≤ maxLen) :
    Calls Try.prog 3 #[.agg #[.int .i64 a0, .string a1, .string a2, .string a3, .int .i64 a4, .string a5]] w fun e w' => e = .returned (.bool true) ∧ Below w.heap.size w w' :=
  provostlaw21_ImageWrite.calls a0 a1 a2 a3 a4 a5 true w (write_pure a0 a1 a2 a3 a4 a5)
end Go.Proofs.Ythdkmohgphbdeaa.PImg
