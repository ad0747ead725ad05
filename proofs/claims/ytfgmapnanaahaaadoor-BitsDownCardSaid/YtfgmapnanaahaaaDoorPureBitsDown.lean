/- BitsDown: a range over Down tells the numbers, falling. -/
import Derived.Test.YtfgmapnanaahaaaDoorPBdnx3
namespace Go.Proofs.YtfgmapnanaahaaaDoor.Pure
open Go Go.RowKit Go.Proofs.YtfgmapnanaahaaaDoor.PBdn Go.Proofs.YtfgmapnanaahaaaDoorW.PrintWords
theorem down_walk (a0 a1 a2 a3 : Int) (w : World) (_g0 : (Lit.int .u64 a0).wf = true) (_g1 : (Lit.int .u64 a1).wf = true) (_g2 : (Lit.int .i64 a2).wf = true) (_g3 : (Lit.int .i64 a3).wf = true) (hT : Go.Proofs.YtfgmapnanaahaaaDoorW.Tab.TabW w) :
    Calls Tryd.prog 7 #[.agg #[.int .u64 a0, .int .u64 a1, .int .i64 a2, .int .i64 a3]] w fun e w' => e = .returned (.bool true) ∧ Below w.heap.size w w' :=
  provostlaw01_BitsDown.walk a0 a1 a2 a3 w hT
end Go.Proofs.YtfgmapnanaahaaaDoor.Pure
