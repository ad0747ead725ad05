/-
  No cell of these rows narrows 'for every input' (looked for: loops, veiled, ifaces, maps, wideKeys, modest, calm, conditions, laid).
  DERIVED. THE GIVEN ROWS OF THIS SEAT. 11 by the template 'for every input the law returns true; each argument reads behind the call as it read before'; 0 by the template 'total and deterministic' (their statements: YtpcnpmcknknfcaaTotals.lean).
  GIVEN WITH THE SEED: the statements are not yours to turn. If you find one false, say at which input.
  Laid BY PROGRAM, IN A SANDBOX (cutbox-rows.mjs): the forced cells as the released guide's own fill.sh prints them over the translation ab16f0dadb584b91… (all of the seat's roots in one cut). By AI agents, Wed Nov 11 2026. No macro, syntax, notation, axiom, sorry.
-/
import Derived.Test.YtpcnpmcknknfcaaChecked
import GoSem.Claim
import GoSem.ClaimJoined
import GoSem.ClaimMapViews
import Derived.JoinedTies
import Derived.KernelRfl
namespace Go.Proofs.Ytpcnpmcknknfcaa
/- THE CELL 'sum', in the pinned program and in every row, IS THE sha256 OF THE DUMP (.gsa) THAT YtpcnpmcknknfcaaProg.lean LOADS. Nothing in Lean hashes anything: it is a label: what it is worth is what the hold of that sum in a sandbox is worth. -/
noncomputable def Try.pinned : Pinned := { name := "ytpcnpmcknknfcaa", sum := "ab16f0dadb584b919f58fde2b229ec89cace6b2fc4673b4121a99020fcd7d864", checked := Try.checked }
namespace Rows
def none {H : Type} : Left H := { results := [], args := [] }

/-- 'provostlaw02.PartOf': WHATEVER THE INPUT: true; the input reads as it did. -/
def partOfSpec : ChangeSpec := { name := "partOf", fn := fun _ => fun
  | [d] => { results := [.lit (.bool true)], args := [d] }
  | _ => none }
def partOfRow : OpenClaim := { program := "ytpcnpmcknknfcaa", sum := "ab16f0dadb584b919f58fde2b229ec89cace6b2fc4673b4121a99020fcd7d864", func := "provost/provostlaw02.PartOf", spec := "partOf", apart := false }
def PartOfSaid : Prop := partOfRow.holds Try.pinned (OpenSpec.ofChange partOfSpec)

/-- ITS FALSE NEIGHBOUR: 'it returns false'. Refute it at one input. -/
def partOfWrong : ChangeSpec := { name := "partOf", fn := fun _ => fun
  | [d] => { results := [.lit (.bool false)], args := [d] }
  | _ => none }
def PartOfWrongFalsely : Prop := partOfRow.holds Try.pinned (OpenSpec.ofChange partOfWrong)

/-- 'provostlaw05.LexScan': WHATEVER THE INPUT: true; the input reads as it did. -/
def lexScanSpec : ChangeSpec := { name := "lexScan", fn := fun _ => fun
  | [d] => { results := [.lit (.bool true)], args := [d] }
  | _ => none }
def lexScanRow : OpenClaim := { program := "ytpcnpmcknknfcaa", sum := "ab16f0dadb584b919f58fde2b229ec89cace6b2fc4673b4121a99020fcd7d864", func := "provost/provostlaw05.LexScan", spec := "lexScan", inPlace := ["internal/bytealg.IndexByteString"], unfollowed := true, recurses := true, apart := false }
def LexScanSaid : Prop := lexScanRow.holds Try.pinned (OpenSpec.ofChange lexScanSpec)

/-- ITS FALSE NEIGHBOUR: 'it returns false'. Refute it at one input. -/
def lexScanWrong : ChangeSpec := { name := "lexScan", fn := fun _ => fun
  | [d] => { results := [.lit (.bool false)], args := [d] }
  | _ => none }
def LexScanWrongFalsely : Prop := lexScanRow.holds Try.pinned (OpenSpec.ofChange lexScanWrong)

/-- 'provostlaw05.LexPlaces': WHATEVER THE INPUT: true; the input reads as it did. -/
def lexPlacesSpec : ChangeSpec := { name := "lexPlaces", fn := fun _ => fun
  | [d] => { results := [.lit (.bool true)], args := [d] }
  | _ => none }
def lexPlacesRow : OpenClaim := { program := "ytpcnpmcknknfcaa", sum := "ab16f0dadb584b919f58fde2b229ec89cace6b2fc4673b4121a99020fcd7d864", func := "provost/provostlaw05.LexPlaces", spec := "lexPlaces", inPlace := ["internal/bytealg.IndexByteString"], unfollowed := true, recurses := true, apart := false }
def LexPlacesSaid : Prop := lexPlacesRow.holds Try.pinned (OpenSpec.ofChange lexPlacesSpec)

/-- ITS FALSE NEIGHBOUR: 'it returns false'. Refute it at one input. -/
def lexPlacesWrong : ChangeSpec := { name := "lexPlaces", fn := fun _ => fun
  | [d] => { results := [.lit (.bool false)], args := [d] }
  | _ => none }
def LexPlacesWrongFalsely : Prop := lexPlacesRow.holds Try.pinned (OpenSpec.ofChange lexPlacesWrong)

/-- 'provostlaw02.PartAll': WHATEVER THE INPUT: true; the input reads as it did. -/
def partAllSpec : ChangeSpec := { name := "partAll", fn := fun _ => fun
  | [d1, d2] => { results := [.lit (.bool true)], args := [d1, d2] }
  | _ => none }
def partAllRow : OpenClaim := { program := "ytpcnpmcknknfcaa", sum := "ab16f0dadb584b919f58fde2b229ec89cace6b2fc4673b4121a99020fcd7d864", func := "provost/provostlaw02.PartAll", spec := "partAll", unfollowed := true, recurses := true, apart := false }
def PartAllSaid : Prop := partAllRow.holds Try.pinned (OpenSpec.ofChange partAllSpec)

/-- ITS FALSE NEIGHBOUR: 'it returns false'. Refute it at one input. -/
def partAllWrong : ChangeSpec := { name := "partAll", fn := fun _ => fun
  | [d1, d2] => { results := [.lit (.bool false)], args := [d1, d2] }
  | _ => none }
def PartAllWrongFalsely : Prop := partAllRow.holds Try.pinned (OpenSpec.ofChange partAllWrong)

/-- 'provostlaw02.PartRank': WHATEVER THE INPUT: true; the input reads as it did. -/
def partRankSpec : ChangeSpec := { name := "partRank", fn := fun _ => fun
  | [d] => { results := [.lit (.bool true)], args := [d] }
  | _ => none }
def partRankRow : OpenClaim := { program := "ytpcnpmcknknfcaa", sum := "ab16f0dadb584b919f58fde2b229ec89cace6b2fc4673b4121a99020fcd7d864", func := "provost/provostlaw02.PartRank", spec := "partRank", apart := false }
def PartRankSaid : Prop := partRankRow.holds Try.pinned (OpenSpec.ofChange partRankSpec)

/-- ITS FALSE NEIGHBOUR: 'it returns false'. Refute it at one input. -/
def partRankWrong : ChangeSpec := { name := "partRank", fn := fun _ => fun
  | [d] => { results := [.lit (.bool false)], args := [d] }
  | _ => none }
def PartRankWrongFalsely : Prop := partRankRow.holds Try.pinned (OpenSpec.ofChange partRankWrong)

/-- 'provostlaw02.PartBounds': WHATEVER THE INPUT: true; the input reads as it did. -/
def partBoundsSpec : ChangeSpec := { name := "partBounds", fn := fun _ => fun
  | [d] => { results := [.lit (.bool true)], args := [d] }
  | _ => none }
def partBoundsRow : OpenClaim := { program := "ytpcnpmcknknfcaa", sum := "ab16f0dadb584b919f58fde2b229ec89cace6b2fc4673b4121a99020fcd7d864", func := "provost/provostlaw02.PartBounds", spec := "partBounds", apart := false }
def PartBoundsSaid : Prop := partBoundsRow.holds Try.pinned (OpenSpec.ofChange partBoundsSpec)

/-- ITS FALSE NEIGHBOUR: 'it returns false'. Refute it at one input. -/
def partBoundsWrong : ChangeSpec := { name := "partBounds", fn := fun _ => fun
  | [d] => { results := [.lit (.bool false)], args := [d] }
  | _ => none }
def PartBoundsWrongFalsely : Prop := partBoundsRow.holds Try.pinned (OpenSpec.ofChange partBoundsWrong)

/-- 'provostlaw02.PartExact': WHATEVER THE INPUT: true; the input reads as it did. -/
def partExactSpec : ChangeSpec := { name := "partExact", fn := fun _ => fun
  | [d] => { results := [.lit (.bool true)], args := [d] }
  | _ => none }
def partExactRow : OpenClaim := { program := "ytpcnpmcknknfcaa", sum := "ab16f0dadb584b919f58fde2b229ec89cace6b2fc4673b4121a99020fcd7d864", func := "provost/provostlaw02.PartExact", spec := "partExact", apart := false }
def PartExactSaid : Prop := partExactRow.holds Try.pinned (OpenSpec.ofChange partExactSpec)

/-- ITS FALSE NEIGHBOUR: 'it returns false'. Refute it at one input. -/
def partExactWrong : ChangeSpec := { name := "partExact", fn := fun _ => fun
  | [d] => { results := [.lit (.bool false)], args := [d] }
  | _ => none }
def PartExactWrongFalsely : Prop := partExactRow.holds Try.pinned (OpenSpec.ofChange partExactWrong)

/-- 'provostlaw02.PartOwn': WHATEVER THE INPUT: true; the input reads as it did. -/
def partOwnSpec : ChangeSpec := { name := "partOwn", fn := fun _ => fun
  | [d] => { results := [.lit (.bool true)], args := [d] }
  | _ => none }
def partOwnRow : OpenClaim := { program := "ytpcnpmcknknfcaa", sum := "ab16f0dadb584b919f58fde2b229ec89cace6b2fc4673b4121a99020fcd7d864", func := "provost/provostlaw02.PartOwn", spec := "partOwn", unfollowed := true, recurses := true, apart := false }
def PartOwnSaid : Prop := partOwnRow.holds Try.pinned (OpenSpec.ofChange partOwnSpec)

/-- ITS FALSE NEIGHBOUR: 'it returns false'. Refute it at one input. -/
def partOwnWrong : ChangeSpec := { name := "partOwn", fn := fun _ => fun
  | [d] => { results := [.lit (.bool false)], args := [d] }
  | _ => none }
def PartOwnWrongFalsely : Prop := partOwnRow.holds Try.pinned (OpenSpec.ofChange partOwnWrong)

/-- 'provostlaw05.LexBack': WHATEVER THE INPUT: true; the input reads as it did. -/
def lexBackSpec : ChangeSpec := { name := "lexBack", fn := fun _ => fun
  | [d] => { results := [.lit (.bool true)], args := [d] }
  | _ => none }
def lexBackRow : OpenClaim := { program := "ytpcnpmcknknfcaa", sum := "ab16f0dadb584b919f58fde2b229ec89cace6b2fc4673b4121a99020fcd7d864", func := "provost/provostlaw05.LexBack", spec := "lexBack", inPlace := ["internal/bytealg.IndexByteString", "internal/bytealg.IndexString", "internal/abi.NoEscape"], unfollowed := true, recurses := true, named := ["internal/bytealg.MaxLen"], apart := false }
def LexBackSaid : Prop := lexBackRow.holds Try.pinned (OpenSpec.ofChange lexBackSpec)

/-- ITS FALSE NEIGHBOUR: 'it returns false'. Refute it at one input. -/
def lexBackWrong : ChangeSpec := { name := "lexBack", fn := fun _ => fun
  | [d] => { results := [.lit (.bool false)], args := [d] }
  | _ => none }
def LexBackWrongFalsely : Prop := lexBackRow.holds Try.pinned (OpenSpec.ofChange lexBackWrong)

/-- 'provostlaw05.LexShow': WHATEVER THE INPUT: true; the input reads as it did. -/
def lexShowSpec : ChangeSpec := { name := "lexShow", fn := fun _ => fun
  | [d] => { results := [.lit (.bool true)], args := [d] }
  | _ => none }
def lexShowRow : OpenClaim := { program := "ytpcnpmcknknfcaa", sum := "ab16f0dadb584b919f58fde2b229ec89cace6b2fc4673b4121a99020fcd7d864", func := "provost/provostlaw05.LexShow", spec := "lexShow", inPlace := ["internal/bytealg.IndexByteString", "internal/bytealg.IndexString", "internal/abi.NoEscape"], unfollowed := true, recurses := true, named := ["internal/bytealg.MaxLen"], apart := false }
def LexShowSaid : Prop := lexShowRow.holds Try.pinned (OpenSpec.ofChange lexShowSpec)

/-- ITS FALSE NEIGHBOUR: 'it returns false'. Refute it at one input. -/
def lexShowWrong : ChangeSpec := { name := "lexShow", fn := fun _ => fun
  | [d] => { results := [.lit (.bool false)], args := [d] }
  | _ => none }
def LexShowWrongFalsely : Prop := lexShowRow.holds Try.pinned (OpenSpec.ofChange lexShowWrong)

/-- 'provostlaw05.LexOwn': WHATEVER THE INPUT: true; the input reads as it did. -/
def lexOwnSpec : ChangeSpec := { name := "lexOwn", fn := fun _ => fun
  | [d1, d2] => { results := [.lit (.bool true)], args := [d1, d2] }
  | _ => none }
def lexOwnRow : OpenClaim := { program := "ytpcnpmcknknfcaa", sum := "ab16f0dadb584b919f58fde2b229ec89cace6b2fc4673b4121a99020fcd7d864", func := "provost/provostlaw05.LexOwn", spec := "lexOwn", inPlace := ["internal/bytealg.IndexByteString", "internal/bytealg.IndexString", "internal/abi.NoEscape"], unfollowed := true, recurses := true, named := ["internal/bytealg.MaxLen"], apart := false }
def LexOwnSaid : Prop := lexOwnRow.holds Try.pinned (OpenSpec.ofChange lexOwnSpec)

/-- ITS FALSE NEIGHBOUR: 'it returns false'. Refute it at one input. -/
def lexOwnWrong : ChangeSpec := { name := "lexOwn", fn := fun _ => fun
  | [d1, d2] => { results := [.lit (.bool false)], args := [d1, d2] }
  | _ => none }
def LexOwnWrongFalsely : Prop := lexOwnRow.holds Try.pinned (OpenSpec.ofChange lexOwnWrong)

/- THE SECOND FORM. 'bulk': how many values and letters a reading holds, each counted each time it is reached (what is shared counts as often as it is met; a slice's spare places count too). A statement '..UptoSaid' is the law's where the arguments, and the package variables that the reading takes, are together of bulk at most 1048576: NARROWER than '..Said'. Prove '..Said' where nothing that the law and all that it calls make is longer than what came in: it says more and counts as full. Else prove '..UptoSaid'. A law counts once. -/
mutual
def uptoBulk {H : Type} : DataW H → Nat
  | .lit (.string bytes) => bytes.length + 1
  | .lit _ => 1
  | .nil => 1
  | .ptr d => uptoBulk d + 1
  | .slice elems spare => uptoBulkAll elems + uptoBulkAll spare + 1
  | .agg parts => uptoBulkAll parts + 1
  | .iface _ d => uptoBulk d + 1
  | .map entries => uptoBulkEntries entries + 1
  | .held _ => 1
def uptoBulkAll {H : Type} : List (DataW H) → Nat
  | [] => 0
  | d :: r => uptoBulk d + uptoBulkAll r
def uptoBulkEntries {H : Type} : List (Lit × DataW H) → Nat
  | [] => 0
  | x :: r => uptoBulkEntry x + uptoBulkEntries r
def uptoBulkEntry {H : Type} : Lit × DataW H → Nat
  | (.string bytes, d) => bytes.length + uptoBulk d + 1
  | (_, d) => uptoBulk d + 1
 end
def uptoSmall : (H : Type) → List (DataW H) → Bool := fun _ ds => decide (uptoBulkAll ds ≤ 1048576)
def OpenSpec.upto (s : _root_.Go.ChangeSpec) : _root_.Go.OpenSpec := { _root_.Go.OpenSpec.ofChange s with cond := some uptoSmall }

/-- 'provostlaw02.PartOf', WHERE WHAT IT READS IS OF BULK AT MOST 1048576: true; the input reads as it did. -/
def partOfUptoRow : OpenClaim := { program := "ytpcnpmcknknfcaa", sum := "ab16f0dadb584b919f58fde2b229ec89cace6b2fc4673b4121a99020fcd7d864", func := "provost/provostlaw02.PartOf", spec := "partOf", apart := false, narrowed := true }
def PartOfUptoSaid : Prop := partOfUptoRow.holds Try.pinned (OpenSpec.upto partOfSpec)

/-- 'provostlaw05.LexScan', WHERE WHAT IT READS IS OF BULK AT MOST 1048576: true; the input reads as it did. -/
def lexScanUptoRow : OpenClaim := { program := "ytpcnpmcknknfcaa", sum := "ab16f0dadb584b919f58fde2b229ec89cace6b2fc4673b4121a99020fcd7d864", func := "provost/provostlaw05.LexScan", spec := "lexScan", inPlace := ["internal/bytealg.IndexByteString"], unfollowed := true, recurses := true, apart := false, narrowed := true }
def LexScanUptoSaid : Prop := lexScanUptoRow.holds Try.pinned (OpenSpec.upto lexScanSpec)

/-- 'provostlaw05.LexPlaces', WHERE WHAT IT READS IS OF BULK AT MOST 1048576: true; the input reads as it did. -/
def lexPlacesUptoRow : OpenClaim := { program := "ytpcnpmcknknfcaa", sum := "ab16f0dadb584b919f58fde2b229ec89cace6b2fc4673b4121a99020fcd7d864", func := "provost/provostlaw05.LexPlaces", spec := "lexPlaces", inPlace := ["internal/bytealg.IndexByteString"], unfollowed := true, recurses := true, apart := false, narrowed := true }
def LexPlacesUptoSaid : Prop := lexPlacesUptoRow.holds Try.pinned (OpenSpec.upto lexPlacesSpec)

/-- 'provostlaw02.PartAll', WHERE WHAT IT READS IS OF BULK AT MOST 1048576: true; the input reads as it did. -/
def partAllUptoRow : OpenClaim := { program := "ytpcnpmcknknfcaa", sum := "ab16f0dadb584b919f58fde2b229ec89cace6b2fc4673b4121a99020fcd7d864", func := "provost/provostlaw02.PartAll", spec := "partAll", unfollowed := true, recurses := true, apart := false, narrowed := true }
def PartAllUptoSaid : Prop := partAllUptoRow.holds Try.pinned (OpenSpec.upto partAllSpec)

/-- 'provostlaw02.PartRank', WHERE WHAT IT READS IS OF BULK AT MOST 1048576: true; the input reads as it did. -/
def partRankUptoRow : OpenClaim := { program := "ytpcnpmcknknfcaa", sum := "ab16f0dadb584b919f58fde2b229ec89cace6b2fc4673b4121a99020fcd7d864", func := "provost/provostlaw02.PartRank", spec := "partRank", apart := false, narrowed := true }
def PartRankUptoSaid : Prop := partRankUptoRow.holds Try.pinned (OpenSpec.upto partRankSpec)

/-- 'provostlaw02.PartBounds', WHERE WHAT IT READS IS OF BULK AT MOST 1048576: true; the input reads as it did. -/
def partBoundsUptoRow : OpenClaim := { program := "ytpcnpmcknknfcaa", sum := "ab16f0dadb584b919f58fde2b229ec89cace6b2fc4673b4121a99020fcd7d864", func := "provost/provostlaw02.PartBounds", spec := "partBounds", apart := false, narrowed := true }
def PartBoundsUptoSaid : Prop := partBoundsUptoRow.holds Try.pinned (OpenSpec.upto partBoundsSpec)

/-- 'provostlaw02.PartExact', WHERE WHAT IT READS IS OF BULK AT MOST 1048576: true; the input reads as it did. -/
def partExactUptoRow : OpenClaim := { program := "ytpcnpmcknknfcaa", sum := "ab16f0dadb584b919f58fde2b229ec89cace6b2fc4673b4121a99020fcd7d864", func := "provost/provostlaw02.PartExact", spec := "partExact", apart := false, narrowed := true }
def PartExactUptoSaid : Prop := partExactUptoRow.holds Try.pinned (OpenSpec.upto partExactSpec)

/-- 'provostlaw02.PartOwn', WHERE WHAT IT READS IS OF BULK AT MOST 1048576: true; the input reads as it did. -/
def partOwnUptoRow : OpenClaim := { program := "ytpcnpmcknknfcaa", sum := "ab16f0dadb584b919f58fde2b229ec89cace6b2fc4673b4121a99020fcd7d864", func := "provost/provostlaw02.PartOwn", spec := "partOwn", unfollowed := true, recurses := true, apart := false, narrowed := true }
def PartOwnUptoSaid : Prop := partOwnUptoRow.holds Try.pinned (OpenSpec.upto partOwnSpec)

/-- 'provostlaw05.LexBack', WHERE WHAT IT READS IS OF BULK AT MOST 1048576: true; the input reads as it did. -/
def lexBackUptoRow : OpenClaim := { program := "ytpcnpmcknknfcaa", sum := "ab16f0dadb584b919f58fde2b229ec89cace6b2fc4673b4121a99020fcd7d864", func := "provost/provostlaw05.LexBack", spec := "lexBack", inPlace := ["internal/bytealg.IndexByteString", "internal/bytealg.IndexString", "internal/abi.NoEscape"], unfollowed := true, recurses := true, named := ["internal/bytealg.MaxLen"], apart := false, narrowed := true }
def LexBackUptoSaid : Prop := lexBackUptoRow.holds Try.pinned (OpenSpec.upto lexBackSpec)

/-- 'provostlaw05.LexShow', WHERE WHAT IT READS IS OF BULK AT MOST 1048576: true; the input reads as it did. -/
def lexShowUptoRow : OpenClaim := { program := "ytpcnpmcknknfcaa", sum := "ab16f0dadb584b919f58fde2b229ec89cace6b2fc4673b4121a99020fcd7d864", func := "provost/provostlaw05.LexShow", spec := "lexShow", inPlace := ["internal/bytealg.IndexByteString", "internal/bytealg.IndexString", "internal/abi.NoEscape"], unfollowed := true, recurses := true, named := ["internal/bytealg.MaxLen"], apart := false, narrowed := true }
def LexShowUptoSaid : Prop := lexShowUptoRow.holds Try.pinned (OpenSpec.upto lexShowSpec)

/-- 'provostlaw05.LexOwn', WHERE WHAT IT READS IS OF BULK AT MOST 1048576: true; the input reads as it did. -/
def lexOwnUptoRow : OpenClaim := { program := "ytpcnpmcknknfcaa", sum := "ab16f0dadb584b919f58fde2b229ec89cace6b2fc4673b4121a99020fcd7d864", func := "provost/provostlaw05.LexOwn", spec := "lexOwn", inPlace := ["internal/bytealg.IndexByteString", "internal/bytealg.IndexString", "internal/abi.NoEscape"], unfollowed := true, recurses := true, named := ["internal/bytealg.MaxLen"], apart := false, narrowed := true }
def LexOwnUptoSaid : Prop := lexOwnUptoRow.holds Try.pinned (OpenSpec.upto lexOwnSpec)

end Rows
end Go.Proofs.Ytpcnpmcknknfcaa
