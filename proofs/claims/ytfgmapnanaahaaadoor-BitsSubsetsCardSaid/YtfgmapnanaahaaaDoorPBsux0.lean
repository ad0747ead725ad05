/- A text written by my program wip/gen/p2.py out of the translation and of my foreign texts; not trusted: Lean checks it. -/
import Derived.Test.YtfgmapnanaahaaaDoorProg
import Derived.Below
import Derived.Deep.Draws
import Derived.Deep.AppendLies
import Derived.Maps.AppendAt
import Derived.OwnWalk
import Derived.Laws.BytesArg
import Derived.Laws.MakeOwn
import Derived.Laws.OwnMore
import Derived.Deep.OwnRows
import Derived.Tactics
import Derived.Lib.ConvBytes
import Derived.Laws.Slices
import Derived.WalkKit
import Derived.KernelRfl
import Derived.RowKit3
import Derived.Deep.LoopGhost
import Derived.Deep.QuietTactic
import Derived.BigQuiet
import Derived.WideLaws
import Derived.Deep.DeepCutAuto
import Derived.Deep.CutBlock
import Derived.Deep.RegionHeld3
import Derived.Laws.Rows
import Derived.Lib.AppendStr
import Derived.ArgAppend
import Derived.Laws.IdiomCopy
import Derived.OrdersHeld
import Derived.Laws.BitsLemmas
import Derived.RowKit
import Derived.Maps.OwnSet
import Derived.Maps.OwnOps
import Derived.StillTailTactics
import Derived.Laws.EntriesVeiled
import Derived.Test.YtfgmapnanaahaaaDoorMine
import Derived.Test.YtfgmapnanaahaaaDoorTab
import Derived.Test.YtfgmapnanaahaaaDoorShelf
import Derived.Test.YtfgmapnanaahaaaDoorRng
import Derived.Test.YtfgmapnanaahaaaDoorBitsM
import Derived.Test.YtfgmapnanaahaaaDoorWWords
import Derived.Test.YtfgmapnanaahaaaDoorWLast
import Derived.Test.YtfgmapnanaahaaaDoorWTab
import Derived.Test.YtfgmapnanaahaaaDoorWFour
import Derived.Test.YtfgmapnanaahaaaDoorWQPut
import Derived.Test.YtfgmapnanaahaaaDoorWApart
import Derived.Test.YtfgmapnanaahaaaDoorWArr
import Derived.Test.YtfgmapnanaahaaaDoorWZeros
import Derived.Test.YtfgmapnanaahaaaDoorWFoot
import Derived.Test.YtfgmapnanaahaaaDoorWKept
import Derived.Test.YtfgmapnanaahaaaDoorWShare
import Derived.Test.YtfgmapnanaahaaaDoorWN
import Derived.Test.YtfgmapnanaahaaaDoorWFootNe
import Derived.Test.YtfgmapnanaahaaaDoorWAt
import Derived.Test.YtfgmapnanaahaaaDoorWEqStruct
import Derived.Test.YtfgmapnanaahaaaDoorWRepsOne
import Derived.Test.YtfgmapnanaahaaaDoorWInv
import Derived.Test.YtfgmapnanaahaaaDoorWInvWords
import Derived.Test.YtfgmapnanaahaaaDoorWGuard
import Derived.Test.YtfgmapnanaahaaaDoorWNEv
import Derived.Test.YtfgmapnanaahaaaDoorWMore
namespace Go.Proofs.YtfgmapnanaahaaaDoor.PBsu
open Go.RowKit Go.Proofs.YtfgmapnanaahaaaDoorW.PrintWords Go.Proofs.YtfgmapnanaahaaaDoorW.PrintLast Go.Proofs.YtfgmapnanaahaaaDoorW.PrintMore
attribute [local go_sem] max2_int min2_int max_two min_two max_three min_three max_four min_four   -- for this text's walks alone
set_option linter.unusedVariables false
set_option linter.unusedSimpArgs false



def errW : Option Int → Value
  | none => .nilIface
  | some c => .iface 0 (.int .i64 c)
theorem errW_none : errW none = .nilIface := rfl
theorem errW_some (c : Int) : errW (some c) = .iface 0 (.int .i64 c) := rfl

-- the values' own types
/-! #### struct type 58 -/
structure S58 where
  f0 : Int
def z58 : S58 := ⟨(0 : Int)⟩
def k58 : Kd S58 := Kd.iso (Kd.int .u8) (fun x : S58 => x.f0)
theorem k58_open {w : World} {x : S58} {cs : List Value} (h : k58.K w x cs) : cs = [.int .u8 x.f0] := by
  obtain rfl := h
  exact rfl
theorem k58_openM {w : World} {base : Nat} {ok : Nat → Prop} {x : S58} {cs : List Value} (h : k58.M w base ok x cs) : cs = [.int .u8 x.f0] := by
  obtain rfl := h
  exact rfl
theorem k58_mk (w : World) (x : S58)  : k58.K w x [.int .u8 x.f0] := rfl
theorem k58_mkM (w : World) (base : Nat) (ok : Nat → Prop) (x : S58)  : k58.M w base ok x [.int .u8 x.f0] := rfl
def rd_T58 (xs : List S58) (i : Int) : S58 := xs.getD i.toNat z58
theorem at_T58 {w : World} {A : Option Addr} {n : Nat} {xs : List S58} (h : Kd.C k58 w A n xs) (i : Int) (h0 : 0 ≤ i) (h1 : i < n) : ∃ ad , A = some ad ∧ w.cell? (ad.add i.toNat) = some (.int .u8 (rd_T58 xs i).f0) := by
  obtain ⟨ad, c, e, _, hK, hc0⟩ := Kd.C_get h z58 i h0 h1
  have hc : ∀ j u, c[j]? = some u → w.cell? (ad.add (i.toNat * 1 + j)) = some u := hc0
  obtain rfl := k58_open hK
  exact ⟨ad, e, by have hq := hc 0 _ rfl; rwa [Nat.mul_one, Nat.add_zero] at hq⟩

end Go.Proofs.YtfgmapnanaahaaaDoor.PBsu
