/- ImageRead's pure statement. -/
import Derived.Test.YthdkmohgphbdeaaPureImgRead
import Derived.Test.YthdkmohgphbdeaaPImRx2
import Derived.Test.YthdkmohgphbdeaaPImRx4
namespace Go.Proofs.Ythdkmohgphbdeaa.Pure
open Go.RowKit Go.Proofs.Ythdkmohgphbdeaa.PImR Go.Proofs.YthdkmohgphbdeaaW.PrintWords Go.Proofs.YthdkmohgphbdeaaW.PrintLast Go.Proofs.YthdkmohgphbdeaaW.Mine
set_option linter.unusedVariables false
theorem img_wakes : provostlaw21_wakes.f = some true := by
  have h : image_Write.f 20 (⟨#[97, 110, 110]⟩ : ByteArray) (⟨#[115, 105, 103, 110]⟩ : ByteArray) (⟨#[]⟩ : ByteArray) 3 (⟨#[]⟩ : ByteArray) = some ([20, 0, 0, 0, 0, 0, 0, 0, 3, 3, 97, 110, 110, 4, 115, 105, 103, 110, 0, 0, 0, 0, 0], 0) := by
    unfold image_Write.f
    rw [if_neg (by decide), if_neg (by decide), if_neg (by unfold mx3; decide), if_neg (by decide)]
    decide
  unfold provostlaw21_wakes.f
  rw [h]
  simp only [Option.bind_some]
  simp [strOfNums]
theorem ImageRead : provostlaw21_ImageRead.Pure := by
  intro l h1 h2 h3
  refine ⟨13, ?_⟩
  have hb : Bytes l := fun x hx => by
    have := h3 x hx
    simpa [Lit.wf, IntKind.min, IntKind.max, IntKind.signed, IntKind.bits] using this
  unfold provostlaw21_ImageRead.f
  simp only [Option.bind_some, List.nil_append, List.length_nil]
  rw [if_pos (by omega), img_read_eq l hb (by omega), ref_read_eq l hb (by omega)]
  simp [img_wakes]
end Go.Proofs.Ythdkmohgphbdeaa.Pure
