/-
  DERIVED. GIVEN WITH THE SEED: THE CARDS: each row of YtopadpgpmkkpgaaGreatDoorRows.lean that lists a variable, with what it lists TIED to the program's text (the seventh form; the later family's looks); each row that meets fmt, with fmt's text TOLD by the authors' own Lean function (tested against real Go, not proved from fmt's source: count such statements apart). THE CARD IS WHAT COUNTS. Prove the row's statement (the work); the ties are given (YtopadpgpmkkpgaaGreatDoorTie.lean); close each card by the builder's one call (the guide's Derived/Test/ToyasCard.lean, 'card_holds'). Laid BY PROGRAM, IN A SANDBOX (cutbox-door.mjs). By AI agents, Wed Nov 11 2026. No macro, syntax, notation, axiom, sorry.
-/
import Derived.Test.YtopadpgpmkkpgaaGreatDoorRows
import GoSem.ClaimSeven
namespace Go.Proofs.YtopadpgpmkkpgaaGreatDoor
namespace Rows

/-- THE TIED CARD OF 'guidepostlaw13.AclTexts'. -/
def aclTextsCard : Claim7 := { stood := { row := aclTextsRow, standIns := [], harness := (true, "fff43a2d22d03ca48f003cbac047c507ce0c6a676542e47c29741bc4a4b65a95"), looks := true }, kinds := [], alts := [], laidByText := true, laidKinds := [.data, .data, .data, .data, .sentinel, .sentinel, .pinned], laidTests := true, laidLooks := .later }
def AclTextsCardSaid : Prop := Claim7.holds Tryz.pinned (.plain (OpenSpec.ofChange aclTextsSpec)) aclTextsCard

/-- THE SECOND FORM's CARD OF 'guidepostlaw13.AclTexts'. -/
def aclTextsUptoCard : Claim7 := { stood := { row := aclTextsUptoRow, standIns := [], harness := (true, "fff43a2d22d03ca48f003cbac047c507ce0c6a676542e47c29741bc4a4b65a95"), looks := true }, kinds := [], alts := [], laidByText := true, laidKinds := [.data, .data, .data, .data, .sentinel, .sentinel, .pinned], laidTests := true, laidLooks := .later }
def AclTextsUptoCardSaid : Prop := Claim7.holds Tryz.pinned (.plain (OpenSpec.upto aclTextsSpec)) aclTextsUptoCard
end Rows
end Go.Proofs.YtopadpgpmkkpgaaGreatDoor
