/-
  DERIVED. GIVEN WITH THE SEED: THE CARDS: each row of YtbcdlfodgoiodaaDoorRows.lean that lists a variable, with what it lists TIED to the program's text (the seventh form; the later family's looks); each row that meets fmt, with fmt's text TOLD by the authors' own Lean function (tested against real Go, not proved from fmt's source: count such statements apart). THE CARD IS WHAT COUNTS. Prove the row's statement (the work); the ties are given (YtbcdlfodgoiodaaDoorTie.lean); close each card by the builder's one call (the guide's Derived/Test/ToyasCard.lean, 'card_holds'). Laid BY PROGRAM, IN A SANDBOX (cutbox-door.mjs). By AI agents, Wed Nov 11 2026. No macro, syntax, notation, axiom, sorry.
-/
import Derived.Test.YtbcdlfodgoiodaaDoorRows
import GoSem.ClaimSeven
namespace Go.Proofs.YtbcdlfodgoiodaaDoor
namespace Rows

/-- THE TIED CARD OF 'provostlaw06.RuleTies'. -/
def ruleTiesCard : Claim7 := { stood := { row := ruleTiesRow, standIns := [], harness := (true, "eea6e0fad1ef6ab0101cef4ca06b8843fc19b7d135c025c89d7f72d134f4bd9a"), looks := false }, kinds := [], alts := [], laidByText := true, laidKinds := [.data], laidTests := true, laidLooks := .later }
def RuleTiesCardSaid : Prop := Claim7.holds Tryd.pinned (.plain (OpenSpec.ofChange ruleTiesSpec)) ruleTiesCard

/-- THE TIED CARD OF 'provostlaw06.RuleOwn'. -/
def ruleOwnCard : Claim7 := { stood := { row := ruleOwnRow, standIns := [], harness := (true, "eea6e0fad1ef6ab0101cef4ca06b8843fc19b7d135c025c89d7f72d134f4bd9a"), looks := false }, kinds := [], alts := [], laidByText := true, laidKinds := [.data], laidTests := true, laidLooks := .later }
def RuleOwnCardSaid : Prop := Claim7.holds Tryd.pinned (.plain (OpenSpec.ofChange ruleOwnSpec)) ruleOwnCard

/-- THE TIED CARD OF 'provostlaw06.RulePattern'. -/
def rulePatternCard : Claim7 := { stood := { row := rulePatternRow, standIns := [], harness := (true, "eea6e0fad1ef6ab0101cef4ca06b8843fc19b7d135c025c89d7f72d134f4bd9a"), looks := false }, kinds := [], alts := [], laidByText := true, laidKinds := [.data], laidTests := true, laidLooks := .later }
def RulePatternCardSaid : Prop := Claim7.holds Tryd.pinned (.plain (OpenSpec.ofChange rulePatternSpec)) rulePatternCard

/-- THE TIED CARD OF 'provostlaw06.RuleText'. -/
def ruleTextCard : Claim7 := { stood := { row := ruleTextRow, standIns := [], harness := (true, "eea6e0fad1ef6ab0101cef4ca06b8843fc19b7d135c025c89d7f72d134f4bd9a"), looks := false }, kinds := [], alts := [], laidByText := true, laidKinds := [.data, .data, .data], laidTests := true, laidLooks := .later }
def RuleTextCardSaid : Prop := Claim7.holds Tryd.pinned (.plain (OpenSpec.ofChange ruleTextSpec)) ruleTextCard

/-- THE SECOND FORM's CARD OF 'provostlaw06.RuleTies'. -/
def ruleTiesUptoCard : Claim7 := { stood := { row := ruleTiesUptoRow, standIns := [], harness := (true, "eea6e0fad1ef6ab0101cef4ca06b8843fc19b7d135c025c89d7f72d134f4bd9a"), looks := false }, kinds := [], alts := [], laidByText := true, laidKinds := [.data], laidTests := true, laidLooks := .later }
def RuleTiesUptoCardSaid : Prop := Claim7.holds Tryd.pinned (.plain (OpenSpec.upto ruleTiesSpec)) ruleTiesUptoCard

/-- THE SECOND FORM's CARD OF 'provostlaw06.RuleOwn'. -/
def ruleOwnUptoCard : Claim7 := { stood := { row := ruleOwnUptoRow, standIns := [], harness := (true, "eea6e0fad1ef6ab0101cef4ca06b8843fc19b7d135c025c89d7f72d134f4bd9a"), looks := false }, kinds := [], alts := [], laidByText := true, laidKinds := [.data], laidTests := true, laidLooks := .later }
def RuleOwnUptoCardSaid : Prop := Claim7.holds Tryd.pinned (.plain (OpenSpec.upto ruleOwnSpec)) ruleOwnUptoCard

/-- THE SECOND FORM's CARD OF 'provostlaw06.RulePattern'. -/
def rulePatternUptoCard : Claim7 := { stood := { row := rulePatternUptoRow, standIns := [], harness := (true, "eea6e0fad1ef6ab0101cef4ca06b8843fc19b7d135c025c89d7f72d134f4bd9a"), looks := false }, kinds := [], alts := [], laidByText := true, laidKinds := [.data], laidTests := true, laidLooks := .later }
def RulePatternUptoCardSaid : Prop := Claim7.holds Tryd.pinned (.plain (OpenSpec.upto rulePatternSpec)) rulePatternUptoCard

/-- THE SECOND FORM's CARD OF 'provostlaw06.RuleText'. -/
def ruleTextUptoCard : Claim7 := { stood := { row := ruleTextUptoRow, standIns := [], harness := (true, "eea6e0fad1ef6ab0101cef4ca06b8843fc19b7d135c025c89d7f72d134f4bd9a"), looks := false }, kinds := [], alts := [], laidByText := true, laidKinds := [.data, .data, .data], laidTests := true, laidLooks := .later }
def RuleTextUptoCardSaid : Prop := Claim7.holds Tryd.pinned (.plain (OpenSpec.upto ruleTextSpec)) ruleTextUptoCard
end Rows
end Go.Proofs.YtbcdlfodgoiodaaDoor
