/-
  No cell of these rows narrows 'for every input' (looked for: loops, veiled, ifaces, maps, wideKeys, modest, calm, conditions, laid).
  DERIVED. THE GIVEN ROWS OF THIS SEAT. 8 by the template 'for every input the law returns true; each argument reads behind the call as it read before'; 0 by the template 'total and deterministic' (their statements: YthdkmohgphbdeaaTotals.lean).
  GIVEN WITH THE SEED: the statements are not yours to turn. If you find one false, say at which input.
  Laid BY PROGRAM, IN A SANDBOX (cutbox-rows.mjs): the forced cells as the released guide's own fill.sh prints them over the translation 448520c75d411041… (all of the seat's roots in one cut). By AI agents, Wed Nov 11 2026. No macro, syntax, notation, axiom, sorry.
-/
import Derived.Test.YthdkmohgphbdeaaChecked
import GoSem.Claim
import GoSem.ClaimJoined
import GoSem.ClaimMapViews
import Derived.JoinedTies
import Derived.KernelRfl
namespace Go.Proofs.Ythdkmohgphbdeaa
/- THE CELL 'sum', in the pinned program and in every row, IS THE sha256 OF THE DUMP (.gsa) THAT YthdkmohgphbdeaaProg.lean LOADS. Nothing in Lean hashes anything: it is a label: what it is worth is what the hold of that sum in a sandbox is worth. -/
noncomputable def Try.pinned : Pinned := { name := "ythdkmohgphbdeaa", sum := "448520c75d411041d9287e156010d457c74754ea7ee4ab9809207815273c1969", checked := Try.checked }
namespace Rows
def none {H : Type} : Left H := { results := [], args := [] }

/-- 'provostlaw21.ImageWrite': WHATEVER THE INPUT: true; the input reads as it did. -/
def imageWriteSpec : ChangeSpec := { name := "imageWrite", fn := fun _ => fun
  | [d] => { results := [.lit (.bool true)], args := [d] }
  | _ => none }
def imageWriteRow : OpenClaim := { program := "ythdkmohgphbdeaa", sum := "448520c75d411041d9287e156010d457c74754ea7ee4ab9809207815273c1969", func := "provost/provostlaw21.ImageWrite", spec := "imageWrite", apart := false }
def ImageWriteSaid : Prop := imageWriteRow.holds Try.pinned (OpenSpec.ofChange imageWriteSpec)

/-- ITS FALSE NEIGHBOUR: 'it returns false'. Refute it at one input. -/
def imageWriteWrong : ChangeSpec := { name := "imageWrite", fn := fun _ => fun
  | [d] => { results := [.lit (.bool false)], args := [d] }
  | _ => none }
def ImageWriteWrongFalsely : Prop := imageWriteRow.holds Try.pinned (OpenSpec.ofChange imageWriteWrong)

/-- 'provostlaw21.ImageRead': WHATEVER THE INPUT: true; the input reads as it did. -/
def imageReadSpec : ChangeSpec := { name := "imageRead", fn := fun _ => fun
  | [d] => { results := [.lit (.bool true)], args := [d] }
  | _ => none }
def imageReadRow : OpenClaim := { program := "ythdkmohgphbdeaa", sum := "448520c75d411041d9287e156010d457c74754ea7ee4ab9809207815273c1969", func := "provost/provostlaw21.ImageRead", spec := "imageRead", apart := false }
def ImageReadSaid : Prop := imageReadRow.holds Try.pinned (OpenSpec.ofChange imageReadSpec)

/-- ITS FALSE NEIGHBOUR: 'it returns false'. Refute it at one input. -/
def imageReadWrong : ChangeSpec := { name := "imageRead", fn := fun _ => fun
  | [d] => { results := [.lit (.bool false)], args := [d] }
  | _ => none }
def ImageReadWrongFalsely : Prop := imageReadRow.holds Try.pinned (OpenSpec.ofChange imageReadWrong)

/-- 'provostlaw21.ImageBack': WHATEVER THE INPUT: true; the input reads as it did. -/
def imageBackSpec : ChangeSpec := { name := "imageBack", fn := fun _ => fun
  | [d1, d2, d3] => { results := [.lit (.bool true)], args := [d1, d2, d3] }
  | _ => none }
def imageBackRow : OpenClaim := { program := "ythdkmohgphbdeaa", sum := "448520c75d411041d9287e156010d457c74754ea7ee4ab9809207815273c1969", func := "provost/provostlaw21.ImageBack", spec := "imageBack", apart := false }
def ImageBackSaid : Prop := imageBackRow.holds Try.pinned (OpenSpec.ofChange imageBackSpec)

/-- ITS FALSE NEIGHBOUR: 'it returns false'. Refute it at one input. -/
def imageBackWrong : ChangeSpec := { name := "imageBack", fn := fun _ => fun
  | [d1, d2, d3] => { results := [.lit (.bool false)], args := [d1, d2, d3] }
  | _ => none }
def ImageBackWrongFalsely : Prop := imageBackRow.holds Try.pinned (OpenSpec.ofChange imageBackWrong)

/-- 'provostlaw21.ImageOwn': WHATEVER THE INPUT: true; the input reads as it did. -/
def imageOwnSpec : ChangeSpec := { name := "imageOwn", fn := fun _ => fun
  | [d1, d2] => { results := [.lit (.bool true)], args := [d1, d2] }
  | _ => none }
def imageOwnRow : OpenClaim := { program := "ythdkmohgphbdeaa", sum := "448520c75d411041d9287e156010d457c74754ea7ee4ab9809207815273c1969", func := "provost/provostlaw21.ImageOwn", spec := "imageOwn", recurses := true, apart := false }
def ImageOwnSaid : Prop := imageOwnRow.holds Try.pinned (OpenSpec.ofChange imageOwnSpec)

/-- ITS FALSE NEIGHBOUR: 'it returns false'. Refute it at one input. -/
def imageOwnWrong : ChangeSpec := { name := "imageOwn", fn := fun _ => fun
  | [d1, d2] => { results := [.lit (.bool false)], args := [d1, d2] }
  | _ => none }
def ImageOwnWrongFalsely : Prop := imageOwnRow.holds Try.pinned (OpenSpec.ofChange imageOwnWrong)

/-- 'provostlaw06.RuleMeans': WHATEVER THE INPUT: true; the input reads as it did. -/
def ruleMeansSpec : ChangeSpec := { name := "ruleMeans", fn := fun _ => fun
  | [d] => { results := [.lit (.bool true)], args := [d] }
  | _ => none }
def ruleMeansRow : OpenClaim := { program := "ythdkmohgphbdeaa", sum := "448520c75d411041d9287e156010d457c74754ea7ee4ab9809207815273c1969", func := "provost/provostlaw06.RuleMeans", spec := "ruleMeans", unfollowed := true, recurses := true, apart := false }
def RuleMeansSaid : Prop := ruleMeansRow.holds Try.pinned (OpenSpec.ofChange ruleMeansSpec)

/-- ITS FALSE NEIGHBOUR: 'it returns false'. Refute it at one input. -/
def ruleMeansWrong : ChangeSpec := { name := "ruleMeans", fn := fun _ => fun
  | [d] => { results := [.lit (.bool false)], args := [d] }
  | _ => none }
def RuleMeansWrongFalsely : Prop := ruleMeansRow.holds Try.pinned (OpenSpec.ofChange ruleMeansWrong)

/-- 'provostlaw06.RuleEarly': WHATEVER THE INPUT: true; the input reads as it did. -/
def ruleEarlySpec : ChangeSpec := { name := "ruleEarly", fn := fun _ => fun
  | [d] => { results := [.lit (.bool true)], args := [d] }
  | _ => none }
def ruleEarlyRow : OpenClaim := { program := "ythdkmohgphbdeaa", sum := "448520c75d411041d9287e156010d457c74754ea7ee4ab9809207815273c1969", func := "provost/provostlaw06.RuleEarly", spec := "ruleEarly", unfollowed := true, recurses := true, apart := false }
def RuleEarlySaid : Prop := ruleEarlyRow.holds Try.pinned (OpenSpec.ofChange ruleEarlySpec)

/-- ITS FALSE NEIGHBOUR: 'it returns false'. Refute it at one input. -/
def ruleEarlyWrong : ChangeSpec := { name := "ruleEarly", fn := fun _ => fun
  | [d] => { results := [.lit (.bool false)], args := [d] }
  | _ => none }
def RuleEarlyWrongFalsely : Prop := ruleEarlyRow.holds Try.pinned (OpenSpec.ofChange ruleEarlyWrong)

/-- 'provostlaw06.RuleAhead': WHATEVER THE INPUT: true; the input reads as it did. -/
def ruleAheadSpec : ChangeSpec := { name := "ruleAhead", fn := fun _ => fun
  | [d] => { results := [.lit (.bool true)], args := [d] }
  | _ => none }
def ruleAheadRow : OpenClaim := { program := "ythdkmohgphbdeaa", sum := "448520c75d411041d9287e156010d457c74754ea7ee4ab9809207815273c1969", func := "provost/provostlaw06.RuleAhead", spec := "ruleAhead", unfollowed := true, recurses := true, apart := false }
def RuleAheadSaid : Prop := ruleAheadRow.holds Try.pinned (OpenSpec.ofChange ruleAheadSpec)

/-- ITS FALSE NEIGHBOUR: 'it returns false'. Refute it at one input. -/
def ruleAheadWrong : ChangeSpec := { name := "ruleAhead", fn := fun _ => fun
  | [d] => { results := [.lit (.bool false)], args := [d] }
  | _ => none }
def RuleAheadWrongFalsely : Prop := ruleAheadRow.holds Try.pinned (OpenSpec.ofChange ruleAheadWrong)

/-- 'provostlaw06.RuleOne': WHATEVER THE INPUT: true; the input reads as it did. -/
def ruleOneSpec : ChangeSpec := { name := "ruleOne", fn := fun _ => fun
  | [d] => { results := [.lit (.bool true)], args := [d] }
  | _ => none }
def ruleOneRow : OpenClaim := { program := "ythdkmohgphbdeaa", sum := "448520c75d411041d9287e156010d457c74754ea7ee4ab9809207815273c1969", func := "provost/provostlaw06.RuleOne", spec := "ruleOne", unfollowed := true, recurses := true, apart := false }
def RuleOneSaid : Prop := ruleOneRow.holds Try.pinned (OpenSpec.ofChange ruleOneSpec)

/-- ITS FALSE NEIGHBOUR: 'it returns false'. Refute it at one input. -/
def ruleOneWrong : ChangeSpec := { name := "ruleOne", fn := fun _ => fun
  | [d] => { results := [.lit (.bool false)], args := [d] }
  | _ => none }
def RuleOneWrongFalsely : Prop := ruleOneRow.holds Try.pinned (OpenSpec.ofChange ruleOneWrong)

/- THE SECOND FORM. 'bulk': how many values and letters a reading holds, each counted each time it is reached (what is shared counts as often as it is met; a slice's spare places count too). A statement '..UptoSaid' is the law's where the arguments, and the package variables that the reading takes, are together of bulk at most 1048576: NARROWER than '..Said'. Prove '..Said' where nothing that the law and all that it calls make is longer than what came in: it says more and counts as full. Else prove '..UptoSaid'. A law counts once. -/
mutual
def uptoBulk {H : Type} : DataW H → Nat
  | .lit (.string bytes) => bytes.length + 1
  | .lit _ => 1
  | .nil => 1
  | .ptr d => uptoBulk d + 1
  | .slice elems spare => uptoBulkAll elems + uptoBulkAll spare + 1
  | .agg parts => uptoBulkAll parts + 1
  | .iface _ d => uptoBulk d + 1
  | .map entries => uptoBulkEntries entries + 1
  | .held _ => 1
def uptoBulkAll {H : Type} : List (DataW H) → Nat
  | [] => 0
  | d :: r => uptoBulk d + uptoBulkAll r
def uptoBulkEntries {H : Type} : List (Lit × DataW H) → Nat
  | [] => 0
  | x :: r => uptoBulkEntry x + uptoBulkEntries r
def uptoBulkEntry {H : Type} : Lit × DataW H → Nat
  | (.string bytes, d) => bytes.length + uptoBulk d + 1
  | (_, d) => uptoBulk d + 1
 end
def uptoSmall : (H : Type) → List (DataW H) → Bool := fun _ ds => decide (uptoBulkAll ds ≤ 1048576)
def OpenSpec.upto (s : _root_.Go.ChangeSpec) : _root_.Go.OpenSpec := { _root_.Go.OpenSpec.ofChange s with cond := some uptoSmall }

/-- 'provostlaw21.ImageWrite', WHERE WHAT IT READS IS OF BULK AT MOST 1048576: true; the input reads as it did. -/
def imageWriteUptoRow : OpenClaim := { program := "ythdkmohgphbdeaa", sum := "448520c75d411041d9287e156010d457c74754ea7ee4ab9809207815273c1969", func := "provost/provostlaw21.ImageWrite", spec := "imageWrite", apart := false, narrowed := true }
def ImageWriteUptoSaid : Prop := imageWriteUptoRow.holds Try.pinned (OpenSpec.upto imageWriteSpec)

/-- 'provostlaw21.ImageRead', WHERE WHAT IT READS IS OF BULK AT MOST 1048576: true; the input reads as it did. -/
def imageReadUptoRow : OpenClaim := { program := "ythdkmohgphbdeaa", sum := "448520c75d411041d9287e156010d457c74754ea7ee4ab9809207815273c1969", func := "provost/provostlaw21.ImageRead", spec := "imageRead", apart := false, narrowed := true }
def ImageReadUptoSaid : Prop := imageReadUptoRow.holds Try.pinned (OpenSpec.upto imageReadSpec)

/-- 'provostlaw21.ImageBack', WHERE WHAT IT READS IS OF BULK AT MOST 1048576: true; the input reads as it did. -/
def imageBackUptoRow : OpenClaim := { program := "ythdkmohgphbdeaa", sum := "448520c75d411041d9287e156010d457c74754ea7ee4ab9809207815273c1969", func := "provost/provostlaw21.ImageBack", spec := "imageBack", apart := false, narrowed := true }
def ImageBackUptoSaid : Prop := imageBackUptoRow.holds Try.pinned (OpenSpec.upto imageBackSpec)

/-- 'provostlaw21.ImageOwn', WHERE WHAT IT READS IS OF BULK AT MOST 1048576: true; the input reads as it did. -/
def imageOwnUptoRow : OpenClaim := { program := "ythdkmohgphbdeaa", sum := "448520c75d411041d9287e156010d457c74754ea7ee4ab9809207815273c1969", func := "provost/provostlaw21.ImageOwn", spec := "imageOwn", recurses := true, apart := false, narrowed := true }
def ImageOwnUptoSaid : Prop := imageOwnUptoRow.holds Try.pinned (OpenSpec.upto imageOwnSpec)

/-- 'provostlaw06.RuleMeans', WHERE WHAT IT READS IS OF BULK AT MOST 1048576: true; the input reads as it did. -/
def ruleMeansUptoRow : OpenClaim := { program := "ythdkmohgphbdeaa", sum := "448520c75d411041d9287e156010d457c74754ea7ee4ab9809207815273c1969", func := "provost/provostlaw06.RuleMeans", spec := "ruleMeans", unfollowed := true, recurses := true, apart := false, narrowed := true }
def RuleMeansUptoSaid : Prop := ruleMeansUptoRow.holds Try.pinned (OpenSpec.upto ruleMeansSpec)

/-- 'provostlaw06.RuleEarly', WHERE WHAT IT READS IS OF BULK AT MOST 1048576: true; the input reads as it did. -/
def ruleEarlyUptoRow : OpenClaim := { program := "ythdkmohgphbdeaa", sum := "448520c75d411041d9287e156010d457c74754ea7ee4ab9809207815273c1969", func := "provost/provostlaw06.RuleEarly", spec := "ruleEarly", unfollowed := true, recurses := true, apart := false, narrowed := true }
def RuleEarlyUptoSaid : Prop := ruleEarlyUptoRow.holds Try.pinned (OpenSpec.upto ruleEarlySpec)

/-- 'provostlaw06.RuleAhead', WHERE WHAT IT READS IS OF BULK AT MOST 1048576: true; the input reads as it did. -/
def ruleAheadUptoRow : OpenClaim := { program := "ythdkmohgphbdeaa", sum := "448520c75d411041d9287e156010d457c74754ea7ee4ab9809207815273c1969", func := "provost/provostlaw06.RuleAhead", spec := "ruleAhead", unfollowed := true, recurses := true, apart := false, narrowed := true }
def RuleAheadUptoSaid : Prop := ruleAheadUptoRow.holds Try.pinned (OpenSpec.upto ruleAheadSpec)

/-- 'provostlaw06.RuleOne', WHERE WHAT IT READS IS OF BULK AT MOST 1048576: true; the input reads as it did. -/
def ruleOneUptoRow : OpenClaim := { program := "ythdkmohgphbdeaa", sum := "448520c75d411041d9287e156010d457c74754ea7ee4ab9809207815273c1969", func := "provost/provostlaw06.RuleOne", spec := "ruleOne", unfollowed := true, recurses := true, apart := false, narrowed := true }
def RuleOneUptoSaid : Prop := ruleOneUptoRow.holds Try.pinned (OpenSpec.upto ruleOneSpec)

end Rows
end Go.Proofs.Ythdkmohgphbdeaa
