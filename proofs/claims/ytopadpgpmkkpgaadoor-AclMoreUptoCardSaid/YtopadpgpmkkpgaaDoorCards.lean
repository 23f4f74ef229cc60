/-
  DERIVED. GIVEN WITH THE SEED: THE CARDS: each row of YtopadpgpmkkpgaaDoorRows.lean that lists a variable, with what it lists TIED to the program's text (the seventh form; the later family's looks); each row that meets fmt, with fmt's text TOLD by the authors' own Lean function (tested against real Go, not proved from fmt's source: count such statements apart). THE CARD IS WHAT COUNTS. Prove the row's statement (the work); the ties are given (YtopadpgpmkkpgaaDoorTie.lean); close each card by the builder's one call (the guide's Derived/Test/ToyasCard.lean, 'card_holds'). Laid BY PROGRAM, IN A SANDBOX (cutbox-door.mjs). By AI agents, Wed Nov 11 2026. No macro, syntax, notation, axiom, sorry.
-/
import Derived.Test.YtopadpgpmkkpgaaDoorRows
import GoSem.ClaimSeven
namespace Go.Proofs.YtopadpgpmkkpgaaDoor
namespace Rows

/-- THE TIED CARD OF 'guidepostlaw13.AclFinds'. -/
def aclFindsCard : Claim7 := { stood := { row := aclFindsRow, standIns := [], harness := (true, "95aa7bcc7005c887cfcb4e390e0b26cc5e0d741d762227fcd3d33d07bcce68ab"), looks := true }, kinds := [], alts := [], laidByText := true, laidKinds := [.data, .data, .data, .data, .sentinel, .sentinel, .pinned], laidTests := true, laidLooks := .later }
def AclFindsCardSaid : Prop := Claim7.holds Tryd.pinned (.plain (OpenSpec.ofChange aclFindsSpec)) aclFindsCard

/-- THE TIED CARD OF 'guidepostlaw13.AclBack'. -/
def aclBackCard : Claim7 := { stood := { row := aclBackRow, standIns := [], harness := (true, "95aa7bcc7005c887cfcb4e390e0b26cc5e0d741d762227fcd3d33d07bcce68ab"), looks := true }, kinds := [], alts := [], laidByText := true, laidKinds := [.data, .data, .data, .data, .sentinel, .sentinel, .pinned], laidTests := true, laidLooks := .later }
def AclBackCardSaid : Prop := Claim7.holds Tryd.pinned (.plain (OpenSpec.ofChange aclBackSpec)) aclBackCard

/-- THE TIED CARD OF 'guidepostlaw13.AclNothing'. -/
def aclNothingCard : Claim7 := { stood := { row := aclNothingRow, standIns := [], harness := (true, "95aa7bcc7005c887cfcb4e390e0b26cc5e0d741d762227fcd3d33d07bcce68ab"), looks := true }, kinds := [], alts := [], laidByText := true, laidKinds := [.data, .data, .data, .data, .sentinel, .sentinel, .pinned], laidTests := true, laidLooks := .later }
def AclNothingCardSaid : Prop := Claim7.holds Tryd.pinned (.plain (OpenSpec.ofChange aclNothingSpec)) aclNothingCard

/-- THE TIED CARD OF 'guidepostlaw13.AclHolds'. -/
def aclHoldsCard : Claim7 := { stood := { row := aclHoldsRow, standIns := [], harness := (true, "95aa7bcc7005c887cfcb4e390e0b26cc5e0d741d762227fcd3d33d07bcce68ab"), looks := true }, kinds := [], alts := [], laidByText := true, laidKinds := [.data, .data, .data, .data, .sentinel, .sentinel, .pinned], laidTests := true, laidLooks := .later }
def AclHoldsCardSaid : Prop := Claim7.holds Tryd.pinned (.plain (OpenSpec.ofChange aclHoldsSpec)) aclHoldsCard

/-- THE TIED CARD OF 'guidepostlaw13.AclMore'. -/
def aclMoreCard : Claim7 := { stood := { row := aclMoreRow, standIns := [], harness := (true, "95aa7bcc7005c887cfcb4e390e0b26cc5e0d741d762227fcd3d33d07bcce68ab"), looks := true }, kinds := [], alts := [], laidByText := true, laidKinds := [.data, .data, .data, .data, .sentinel, .sentinel, .pinned], laidTests := true, laidLooks := .later }
def AclMoreCardSaid : Prop := Claim7.holds Tryd.pinned (.plain (OpenSpec.ofChange aclMoreSpec)) aclMoreCard

/-- THE SECOND FORM's CARD OF 'guidepostlaw13.AclFinds'. -/
def aclFindsUptoCard : Claim7 := { stood := { row := aclFindsUptoRow, standIns := [], harness := (true, "95aa7bcc7005c887cfcb4e390e0b26cc5e0d741d762227fcd3d33d07bcce68ab"), looks := true }, kinds := [], alts := [], laidByText := true, laidKinds := [.data, .data, .data, .data, .sentinel, .sentinel, .pinned], laidTests := true, laidLooks := .later }
def AclFindsUptoCardSaid : Prop := Claim7.holds Tryd.pinned (.plain (OpenSpec.upto aclFindsSpec)) aclFindsUptoCard

/-- THE SECOND FORM's CARD OF 'guidepostlaw13.AclBack'. -/
def aclBackUptoCard : Claim7 := { stood := { row := aclBackUptoRow, standIns := [], harness := (true, "95aa7bcc7005c887cfcb4e390e0b26cc5e0d741d762227fcd3d33d07bcce68ab"), looks := true }, kinds := [], alts := [], laidByText := true, laidKinds := [.data, .data, .data, .data, .sentinel, .sentinel, .pinned], laidTests := true, laidLooks := .later }
def AclBackUptoCardSaid : Prop := Claim7.holds Tryd.pinned (.plain (OpenSpec.upto aclBackSpec)) aclBackUptoCard

/-- THE SECOND FORM's CARD OF 'guidepostlaw13.AclNothing'. -/
def aclNothingUptoCard : Claim7 := { stood := { row := aclNothingUptoRow, standIns := [], harness := (true, "95aa7bcc7005c887cfcb4e390e0b26cc5e0d741d762227fcd3d33d07bcce68ab"), looks := true }, kinds := [], alts := [], laidByText := true, laidKinds := [.data, .data, .data, .data, .sentinel, .sentinel, .pinned], laidTests := true, laidLooks := .later }
def AclNothingUptoCardSaid : Prop := Claim7.holds Tryd.pinned (.plain (OpenSpec.upto aclNothingSpec)) aclNothingUptoCard

/-- THE SECOND FORM's CARD OF 'guidepostlaw13.AclHolds'. -/
def aclHoldsUptoCard : Claim7 := { stood := { row := aclHoldsUptoRow, standIns := [], harness := (true, "95aa7bcc7005c887cfcb4e390e0b26cc5e0d741d762227fcd3d33d07bcce68ab"), looks := true }, kinds := [], alts := [], laidByText := true, laidKinds := [.data, .data, .data, .data, .sentinel, .sentinel, .pinned], laidTests := true, laidLooks := .later }
def AclHoldsUptoCardSaid : Prop := Claim7.holds Tryd.pinned (.plain (OpenSpec.upto aclHoldsSpec)) aclHoldsUptoCard

/-- THE SECOND FORM's CARD OF 'guidepostlaw13.AclMore'. -/
def aclMoreUptoCard : Claim7 := { stood := { row := aclMoreUptoRow, standIns := [], harness := (true, "95aa7bcc7005c887cfcb4e390e0b26cc5e0d741d762227fcd3d33d07bcce68ab"), looks := true }, kinds := [], alts := [], laidByText := true, laidKinds := [.data, .data, .data, .data, .sentinel, .sentinel, .pinned], laidTests := true, laidLooks := .later }
def AclMoreUptoCardSaid : Prop := Claim7.holds Tryd.pinned (.plain (OpenSpec.upto aclMoreSpec)) aclMoreUptoCard
end Rows
end Go.Proofs.YtopadpgpmkkpgaaDoor
