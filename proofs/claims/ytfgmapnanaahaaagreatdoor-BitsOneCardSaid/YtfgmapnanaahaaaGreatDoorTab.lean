/- A table of the library's, in its variable: what the walks ask of the world. -/
import Derived.Test.YtfgmapnanaahaaaGreatDoorProg
import Derived.Test.YtfgmapnanaahaaaGreatDoorWWords
import Derived.Lib.LaidTab
import Derived.Lib.TrailingZeros
import Derived.Below
import Derived.RangeFuncNested
namespace Go.Proofs.YtfgmapnanaahaaaGreatDoorW.Tab
open Go Go.RowKit Go.Proofs.YtfgmapnanaahaaaGreatDoorW.PrintWords
/-- math/bits.deBruijn64tab lies in its variable (block g). -/
def TabW (w : World) : Prop := ∀ j, j < 64 → w.cell? ⟨0, j, none⟩ = some (.int .u8 (Lib.deBruijn64tab.getD j 0))
theorem tab_below {w W : World} (h : TabW w) (hb : Below w.heap.size w W) : TabW W := fun j hj => pw_cell_below hb (h j hj)
theorem tab_lt {w : World} (h : TabW w) : 0 < w.heap.size := World.block_lt_of_cell? w _ (h 0 (by decide))
theorem tab_low {n : Nat} {w W : World} (hn : 0 < n) (h : TabW w) (hb : Below n w W) : TabW W := fun j hj => (hb.cell (p := ⟨0, j, none⟩) hn).trans (h j hj)
theorem tab_put {W : World} {l : Nat} {o o' : Obj} (hc : o.isCells = false) (hl : W.heap[l]? = some o) (h : TabW W) : TabW (W.putObj l o') := by
  intro j hj
  have hne : 0 ≠ l := by
    rintro rfl
    have h0 := h 0 (by decide)
    simp only [World.cell?, hl] at h0
    cases o <;> simp_all [Obj.isCells]
  have := h j hj
  simp only [World.cell?] at this ⊢
  rw [World.putObj_heap_other hne]
  exact this
end Go.Proofs.YtfgmapnanaahaaaGreatDoorW.Tab
