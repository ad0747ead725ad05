/-
  DERIVED. GIVEN WITH THE SEED: THE CARDS: each row of YtfgmapnanaahaaaGreatDoorRows.lean that lists a variable, with what it lists TIED to the program's text (the seventh form; the later family's looks); each row that meets fmt, with fmt's text TOLD by the authors' own Lean function (tested against real Go, not proved from fmt's source: count such statements apart). THE CARD IS WHAT COUNTS. Prove the row's statement (the work); the ties are given (YtfgmapnanaahaaaGreatDoorTie.lean); close each card by the builder's one call (the guide's Derived/Test/ToyasCard.lean, 'card_holds'). Laid BY PROGRAM, IN A SANDBOX (cutbox-door.mjs). By AI agents, Wed Nov 11 2026. No macro, syntax, notation, axiom, sorry.
-/
import Derived.Test.YtfgmapnanaahaaaGreatDoorRows
import GoSem.ClaimSeven
namespace Go.Proofs.YtfgmapnanaahaaaGreatDoor
namespace Rows

/-- THE TIED CARD OF 'provostlaw01.BitsOne'. -/
def bitsOneCard : Claim7 := { stood := { row := bitsOneRow, standIns := [], harness := (true, "88af3130c8821543ce15e8372991f57a3e219107cd1d4de7004f8058f0f9f1e6"), looks := false }, kinds := [], alts := [], laidByText := true, laidKinds := [.data, .data, .data], laidTests := true, laidLooks := .later }
def BitsOneCardSaid : Prop := Claim7.holds Tryz.pinned (.plain (OpenSpec.ofChange bitsOneSpec)) bitsOneCard

/-- THE SECOND FORM's CARD OF 'provostlaw01.BitsOne'. -/
def bitsOneUptoCard : Claim7 := { stood := { row := bitsOneUptoRow, standIns := [], harness := (true, "88af3130c8821543ce15e8372991f57a3e219107cd1d4de7004f8058f0f9f1e6"), looks := false }, kinds := [], alts := [], laidByText := true, laidKinds := [.data, .data, .data], laidTests := true, laidLooks := .later }
def BitsOneUptoCardSaid : Prop := Claim7.holds Tryz.pinned (.plain (OpenSpec.upto bitsOneSpec)) bitsOneUptoCard
end Rows
end Go.Proofs.YtfgmapnanaahaaaGreatDoor
