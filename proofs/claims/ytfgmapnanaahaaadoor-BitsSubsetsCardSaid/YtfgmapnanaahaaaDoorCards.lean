/-
  DERIVED. GIVEN WITH THE SEED: THE CARDS: each row of YtfgmapnanaahaaaDoorRows.lean that lists a variable, with what it lists TIED to the program's text (the seventh form; the later family's looks); each row that meets fmt, with fmt's text TOLD by the authors' own Lean function (tested against real Go, not proved from fmt's source: count such statements apart). THE CARD IS WHAT COUNTS. Prove the row's statement (the work); the ties are given (YtfgmapnanaahaaaDoorTie.lean); close each card by the builder's one call (the guide's Derived/Test/ToyasCard.lean, 'card_holds'). Laid BY PROGRAM, IN A SANDBOX (cutbox-door.mjs). By AI agents, Wed Nov 11 2026. No macro, syntax, notation, axiom, sorry.
-/
import Derived.Test.YtfgmapnanaahaaaDoorRows
import GoSem.ClaimSeven
namespace Go.Proofs.YtfgmapnanaahaaaDoor
namespace Rows

/-- THE TIED CARD OF 'provostlaw01.BitsAll'. -/
def bitsAllCard : Claim7 := { stood := { row := bitsAllRow, standIns := [], harness := (true, "88f557fe09d5f1130974fef744585650d1fa01bc519ab03eb1e718e742283f89"), looks := false }, kinds := [], alts := [], laidByText := true, laidKinds := [.data, .data, .data], laidTests := true, laidLooks := .later }
def BitsAllCardSaid : Prop := Claim7.holds Tryd.pinned (.plain (OpenSpec.ofChange bitsAllSpec)) bitsAllCard

/-- THE TIED CARD OF 'provostlaw01.BitsOwn'. -/
def bitsOwnCard : Claim7 := { stood := { row := bitsOwnRow, standIns := [], harness := (true, "88f557fe09d5f1130974fef744585650d1fa01bc519ab03eb1e718e742283f89"), looks := false }, kinds := [], alts := [], laidByText := true, laidKinds := [.data, .data, .data], laidTests := true, laidLooks := .later }
def BitsOwnCardSaid : Prop := Claim7.holds Tryd.pinned (.plain (OpenSpec.ofChange bitsOwnSpec)) bitsOwnCard

/-- THE TIED CARD OF 'provostlaw01.BitsSubsets'. -/
def bitsSubsetsCard : Claim7 := { stood := { row := bitsSubsetsRow, standIns := [], harness := (true, "88f557fe09d5f1130974fef744585650d1fa01bc519ab03eb1e718e742283f89"), looks := false }, kinds := [], alts := [], laidByText := true, laidKinds := [.data, .data, .data], laidTests := true, laidLooks := .later }
def BitsSubsetsCardSaid : Prop := Claim7.holds Tryd.pinned (.plain (OpenSpec.ofChange bitsSubsetsSpec)) bitsSubsetsCard

/-- THE TIED CARD OF 'provostlaw01.BitsRank'. -/
def bitsRankCard : Claim7 := { stood := { row := bitsRankRow, standIns := [], harness := (true, "88f557fe09d5f1130974fef744585650d1fa01bc519ab03eb1e718e742283f89"), looks := false }, kinds := [], alts := [], laidByText := true, laidKinds := [.data, .data, .data], laidTests := true, laidLooks := .later }
def BitsRankCardSaid : Prop := Claim7.holds Tryd.pinned (.plain (OpenSpec.ofChange bitsRankSpec)) bitsRankCard

/-- THE TIED CARD OF 'provostlaw01.BitsDown'. -/
def bitsDownCard : Claim7 := { stood := { row := bitsDownRow, standIns := [], harness := (true, "88f557fe09d5f1130974fef744585650d1fa01bc519ab03eb1e718e742283f89"), looks := false }, kinds := [], alts := [], laidByText := true, laidKinds := [.data, .data, .data], laidTests := true, laidLooks := .later }
def BitsDownCardSaid : Prop := Claim7.holds Tryd.pinned (.plain (OpenSpec.ofChange bitsDownSpec)) bitsDownCard

/-- THE TIED CARD OF 'provostlaw01.BitsChoose'. -/
def bitsChooseCard : Claim7 := { stood := { row := bitsChooseRow, standIns := [], harness := (true, "88f557fe09d5f1130974fef744585650d1fa01bc519ab03eb1e718e742283f89"), looks := false }, kinds := [], alts := [], laidByText := true, laidKinds := [.data, .data, .data], laidTests := true, laidLooks := .later }
def BitsChooseCardSaid : Prop := Claim7.holds Tryd.pinned (.plain (OpenSpec.ofChange bitsChooseSpec)) bitsChooseCard

/-- THE TIED CARD OF 'provostlaw01.BitsTwo'. -/
def bitsTwoCard : Claim7 := { stood := { row := bitsTwoRow, standIns := [], harness := (true, "88f557fe09d5f1130974fef744585650d1fa01bc519ab03eb1e718e742283f89"), looks := false }, kinds := [], alts := [], laidByText := true, laidKinds := [.data, .data, .data], laidTests := true, laidLooks := .later }
def BitsTwoCardSaid : Prop := Claim7.holds Tryd.pinned (.plain (OpenSpec.ofChange bitsTwoSpec)) bitsTwoCard

/-- THE TIED CARD OF 'provostlaw01.BitsText'. -/
def bitsTextCard : Claim7 := { stood := { row := bitsTextRow, standIns := [], harness := (true, "88f557fe09d5f1130974fef744585650d1fa01bc519ab03eb1e718e742283f89"), looks := false }, kinds := [], alts := [], laidByText := true, laidKinds := [.data, .data, .data, .data, .pinned], laidTests := true, laidLooks := .later }
def BitsTextCardSaid : Prop := Claim7.holds Tryd.pinned (.plain (OpenSpec.ofChange bitsTextSpec)) bitsTextCard

/-- THE SECOND FORM's CARD OF 'provostlaw01.BitsAll'. -/
def bitsAllUptoCard : Claim7 := { stood := { row := bitsAllUptoRow, standIns := [], harness := (true, "88f557fe09d5f1130974fef744585650d1fa01bc519ab03eb1e718e742283f89"), looks := false }, kinds := [], alts := [], laidByText := true, laidKinds := [.data, .data, .data], laidTests := true, laidLooks := .later }
def BitsAllUptoCardSaid : Prop := Claim7.holds Tryd.pinned (.plain (OpenSpec.upto bitsAllSpec)) bitsAllUptoCard

/-- THE SECOND FORM's CARD OF 'provostlaw01.BitsOwn'. -/
def bitsOwnUptoCard : Claim7 := { stood := { row := bitsOwnUptoRow, standIns := [], harness := (true, "88f557fe09d5f1130974fef744585650d1fa01bc519ab03eb1e718e742283f89"), looks := false }, kinds := [], alts := [], laidByText := true, laidKinds := [.data, .data, .data], laidTests := true, laidLooks := .later }
def BitsOwnUptoCardSaid : Prop := Claim7.holds Tryd.pinned (.plain (OpenSpec.upto bitsOwnSpec)) bitsOwnUptoCard

/-- THE SECOND FORM's CARD OF 'provostlaw01.BitsSubsets'. -/
def bitsSubsetsUptoCard : Claim7 := { stood := { row := bitsSubsetsUptoRow, standIns := [], harness := (true, "88f557fe09d5f1130974fef744585650d1fa01bc519ab03eb1e718e742283f89"), looks := false }, kinds := [], alts := [], laidByText := true, laidKinds := [.data, .data, .data], laidTests := true, laidLooks := .later }
def BitsSubsetsUptoCardSaid : Prop := Claim7.holds Tryd.pinned (.plain (OpenSpec.upto bitsSubsetsSpec)) bitsSubsetsUptoCard

/-- THE SECOND FORM's CARD OF 'provostlaw01.BitsRank'. -/
def bitsRankUptoCard : Claim7 := { stood := { row := bitsRankUptoRow, standIns := [], harness := (true, "88f557fe09d5f1130974fef744585650d1fa01bc519ab03eb1e718e742283f89"), looks := false }, kinds := [], alts := [], laidByText := true, laidKinds := [.data, .data, .data], laidTests := true, laidLooks := .later }
def BitsRankUptoCardSaid : Prop := Claim7.holds Tryd.pinned (.plain (OpenSpec.upto bitsRankSpec)) bitsRankUptoCard

/-- THE SECOND FORM's CARD OF 'provostlaw01.BitsDown'. -/
def bitsDownUptoCard : Claim7 := { stood := { row := bitsDownUptoRow, standIns := [], harness := (true, "88f557fe09d5f1130974fef744585650d1fa01bc519ab03eb1e718e742283f89"), looks := false }, kinds := [], alts := [], laidByText := true, laidKinds := [.data, .data, .data], laidTests := true, laidLooks := .later }
def BitsDownUptoCardSaid : Prop := Claim7.holds Tryd.pinned (.plain (OpenSpec.upto bitsDownSpec)) bitsDownUptoCard

/-- THE SECOND FORM's CARD OF 'provostlaw01.BitsChoose'. -/
def bitsChooseUptoCard : Claim7 := { stood := { row := bitsChooseUptoRow, standIns := [], harness := (true, "88f557fe09d5f1130974fef744585650d1fa01bc519ab03eb1e718e742283f89"), looks := false }, kinds := [], alts := [], laidByText := true, laidKinds := [.data, .data, .data], laidTests := true, laidLooks := .later }
def BitsChooseUptoCardSaid : Prop := Claim7.holds Tryd.pinned (.plain (OpenSpec.upto bitsChooseSpec)) bitsChooseUptoCard

/-- THE SECOND FORM's CARD OF 'provostlaw01.BitsTwo'. -/
def bitsTwoUptoCard : Claim7 := { stood := { row := bitsTwoUptoRow, standIns := [], harness := (true, "88f557fe09d5f1130974fef744585650d1fa01bc519ab03eb1e718e742283f89"), looks := false }, kinds := [], alts := [], laidByText := true, laidKinds := [.data, .data, .data], laidTests := true, laidLooks := .later }
def BitsTwoUptoCardSaid : Prop := Claim7.holds Tryd.pinned (.plain (OpenSpec.upto bitsTwoSpec)) bitsTwoUptoCard

/-- THE SECOND FORM's CARD OF 'provostlaw01.BitsText'. -/
def bitsTextUptoCard : Claim7 := { stood := { row := bitsTextUptoRow, standIns := [], harness := (true, "88f557fe09d5f1130974fef744585650d1fa01bc519ab03eb1e718e742283f89"), looks := false }, kinds := [], alts := [], laidByText := true, laidKinds := [.data, .data, .data, .data, .pinned], laidTests := true, laidLooks := .later }
def BitsTextUptoCardSaid : Prop := Claim7.holds Tryd.pinned (.plain (OpenSpec.upto bitsTextSpec)) bitsTextUptoCard
end Rows
end Go.Proofs.YtfgmapnanaahaaaDoor
