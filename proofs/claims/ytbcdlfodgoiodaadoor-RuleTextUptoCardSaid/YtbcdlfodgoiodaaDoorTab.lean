/- A table of the library's, in its variable: what the walks ask of the world (strconv's powers of ten). -/
import Derived.Test.YtbcdlfodgoiodaaDoorProg
import Derived.Test.YtbcdlfodgoiodaaDoorWWords
import Derived.Lib.LaidTab
import Derived.Shelf.Strconv.Itoa3
import Derived.Lib.ItoaLen
import Derived.Below
namespace Go.Proofs.YtbcdlfodgoiodaaDoorW.Tab
open Go Go.RowKit Go.Proofs.YtbcdlfodgoiodaaDoorW.PrintWords
/-- internal/strconv.uint64pow10 lies in its variable (block g). -/
def TabW (w : World) : Prop := Lib.TabIs Tryd.prog w "internal/strconv.uint64pow10" .u64 Lib.pow10Tab
theorem tab_below {w W : World} (h : TabW w) (hb : Below w.heap.size w W) : TabW W := by
  unfold TabW Lib.TabIs World.var? at *
  cases hg : Tryd.prog.globalNamed "internal/strconv.uint64pow10" with
  | none => simp [hg] at h
  | some g =>
    simp only [hg, Option.bind_some] at h ⊢
    have hlt : g < w.heap.size := by
      rcases Nat.lt_or_ge g w.heap.size with h' | h'
      · exact h'
      · rw [Array.getElem?_eq_none h'] at h; simp at h
    rw [hb.block g hlt]
    exact h
end Go.Proofs.YtbcdlfodgoiodaaDoorW.Tab
