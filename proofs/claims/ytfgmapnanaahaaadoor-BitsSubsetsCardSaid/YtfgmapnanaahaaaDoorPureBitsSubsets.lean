/- BitsSubsets: a range over Subsets tells the subsets, rising, two times as many for each number. -/
import Derived.Test.YtfgmapnanaahaaaDoorPBsux3
namespace Go.Proofs.YtfgmapnanaahaaaDoor.Pure
open Go Go.RowKit Go.Proofs.YtfgmapnanaahaaaDoor.PBsu Go.Proofs.YtfgmapnanaahaaaDoorW.PrintWords
theorem subsets_walk (a0 a1 a2 a3 : Int) (w : World) (g0 : (Lit.int .u64 a0).wf = true) (_g1 : (Lit.int .u64 a1).wf = true) (_g2 : (Lit.int .i64 a2).wf = true) (_g3 : (Lit.int .i64 a3).wf = true) (hT : Go.Proofs.YtfgmapnanaahaaaDoorW.Tab.TabW w) :
    Calls Tryd.prog 5 #[.agg #[.int .u64 a0, .int .u64 a1, .int .i64 a2, .int .i64 a3]] w fun e w' => e = .returned (.bool true) ∧ Below w.heap.size w w' := by
  simp [Lit.wf, IntKind.min, IntKind.max, IntKind.signed, IntKind.bits] at g0
  obtain ⟨a, rfl⟩ := Int.eq_ofNat_of_zero_le g0.1
  exact provostlaw01_BitsSubsets.walk a (by omega) a1 a2 a3 w hT
end Go.Proofs.YtfgmapnanaahaaaDoor.Pure
