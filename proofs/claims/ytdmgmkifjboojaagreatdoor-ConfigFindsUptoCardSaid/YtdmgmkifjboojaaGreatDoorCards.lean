/-
  DERIVED. GIVEN WITH THE SEED: THE CARDS: each row of YtdmgmkifjboojaaGreatDoorRows.lean that lists a variable, with what it lists TIED to the program's text (the seventh form; the later family's looks); each row that meets fmt, with fmt's text TOLD by the authors' own Lean function (tested against real Go, not proved from fmt's source: count such statements apart). THE CARD IS WHAT COUNTS. Prove the row's statement (the work); the ties are given (YtdmgmkifjboojaaGreatDoorTie.lean); close each card by the builder's one call (the guide's Derived/Test/ToyasCard.lean, 'card_holds'). Laid BY PROGRAM, IN A SANDBOX (cutbox-door.mjs). By AI agents, Wed Nov 11 2026. No macro, syntax, notation, axiom, sorry.
-/
import Derived.Test.YtdmgmkifjboojaaGreatDoorRows
import GoSem.ClaimSeven
namespace Go.Proofs.YtdmgmkifjboojaaGreatDoor
namespace Rows

/-- THE TIED CARD OF 'guidepostlaw15.ConfigChecks'. -/
def configChecksCard : Claim7 := { stood := { row := configChecksRow, standIns := [], harness := (true, "5ca3bcab9b0be6ce36f92cacc00493e5ca7795991f0439c326c3dd07ae8eb7ab"), looks := true }, kinds := [], alts := [], laidByText := true, laidKinds := [.data, .data, .data, .data, .sentinel, .sentinel, .pinned], laidTests := true, laidLooks := .later }
def ConfigChecksCardSaid : Prop := Claim7.holds Tryz.pinned (.plain (OpenSpec.ofChange configChecksSpec)) configChecksCard

/-- THE TIED CARD OF 'guidepostlaw15.ConfigParts'. -/
def configPartsCard : Claim7 := { stood := { row := configPartsRow, standIns := [], harness := (true, "5ca3bcab9b0be6ce36f92cacc00493e5ca7795991f0439c326c3dd07ae8eb7ab"), looks := true }, kinds := [], alts := [], laidByText := true, laidKinds := [.data, .data, .data, .data, .sentinel, .sentinel, .pinned], laidTests := true, laidLooks := .later }
def ConfigPartsCardSaid : Prop := Claim7.holds Tryz.pinned (.plain (OpenSpec.ofChange configPartsSpec)) configPartsCard

/-- THE TIED CARD OF 'guidepostlaw15.ConfigFinds'. -/
def configFindsCard : Claim7 := { stood := { row := configFindsRow, standIns := [], harness := (true, "5ca3bcab9b0be6ce36f92cacc00493e5ca7795991f0439c326c3dd07ae8eb7ab"), looks := true }, kinds := [], alts := [], laidByText := true, laidKinds := [.data, .data, .data, .data, .sentinel, .sentinel, .pinned], laidTests := true, laidLooks := .later }
def ConfigFindsCardSaid : Prop := Claim7.holds Tryz.pinned (.plain (OpenSpec.ofChange configFindsSpec)) configFindsCard

/-- THE TIED CARD OF 'guidepostlaw15.ConfigNear'. -/
def configNearCard : Claim7 := { stood := { row := configNearRow, standIns := [], harness := (true, "5ca3bcab9b0be6ce36f92cacc00493e5ca7795991f0439c326c3dd07ae8eb7ab"), looks := true }, kinds := [], alts := [], laidByText := true, laidKinds := [.data, .data, .data, .data, .sentinel, .sentinel, .pinned], laidTests := true, laidLooks := .later }
def ConfigNearCardSaid : Prop := Claim7.holds Tryz.pinned (.plain (OpenSpec.ofChange configNearSpec)) configNearCard

/-- THE TIED CARD OF 'guidepostlaw03.WireWrites'. -/
def wireWritesCard : Claim7 := { stood := { row := wireWritesRow, standIns := [], harness := (true, "5ca3bcab9b0be6ce36f92cacc00493e5ca7795991f0439c326c3dd07ae8eb7ab"), looks := true }, kinds := [], alts := [], laidByText := true, laidKinds := [.data, .data, .data, .data, .sentinel, .sentinel, .pinned], laidTests := true, laidLooks := .later }
def WireWritesCardSaid : Prop := Claim7.holds Tryz.pinned (.plain (OpenSpec.ofChange wireWritesSpec)) wireWritesCard

/-- THE TIED CARD OF 'guidepostlaw03.WireFaults'. -/
def wireFaultsCard : Claim7 := { stood := { row := wireFaultsRow, standIns := [], harness := (true, "5ca3bcab9b0be6ce36f92cacc00493e5ca7795991f0439c326c3dd07ae8eb7ab"), looks := true }, kinds := [], alts := [], laidByText := true, laidKinds := [.data, .data, .data, .data, .sentinel, .sentinel, .pinned], laidTests := true, laidLooks := .later }
def WireFaultsCardSaid : Prop := Claim7.holds Tryz.pinned (.plain (OpenSpec.ofChange wireFaultsSpec)) wireFaultsCard

/-- THE TIED CARD OF 'guidepostlaw03.WireBack'. -/
def wireBackCard : Claim7 := { stood := { row := wireBackRow, standIns := [], harness := (true, "5ca3bcab9b0be6ce36f92cacc00493e5ca7795991f0439c326c3dd07ae8eb7ab"), looks := true }, kinds := [], alts := [], laidByText := true, laidKinds := [.data, .data, .data, .data, .sentinel, .sentinel, .pinned], laidTests := true, laidLooks := .later }
def WireBackCardSaid : Prop := Claim7.holds Tryz.pinned (.plain (OpenSpec.ofChange wireBackSpec)) wireBackCard

/-- THE TIED CARD OF 'guidepostlaw03.WireAgain'. -/
def wireAgainCard : Claim7 := { stood := { row := wireAgainRow, standIns := [], harness := (true, "5ca3bcab9b0be6ce36f92cacc00493e5ca7795991f0439c326c3dd07ae8eb7ab"), looks := true }, kinds := [], alts := [], laidByText := true, laidKinds := [.data, .data, .data, .data, .sentinel, .sentinel, .pinned], laidTests := true, laidLooks := .later }
def WireAgainCardSaid : Prop := Claim7.holds Tryz.pinned (.plain (OpenSpec.ofChange wireAgainSpec)) wireAgainCard

/-- THE TIED CARD OF 'guidepostlaw03.WireFaulty'. -/
def wireFaultyCard : Claim7 := { stood := { row := wireFaultyRow, standIns := [], harness := (true, "5ca3bcab9b0be6ce36f92cacc00493e5ca7795991f0439c326c3dd07ae8eb7ab"), looks := true }, kinds := [], alts := [], laidByText := true, laidKinds := [.data, .data, .data, .data, .sentinel, .sentinel, .pinned], laidTests := true, laidLooks := .later }
def WireFaultyCardSaid : Prop := Claim7.holds Tryz.pinned (.plain (OpenSpec.ofChange wireFaultySpec)) wireFaultyCard

/-- THE TIED CARD OF 'guidepostlaw03.WireCuts'. -/
def wireCutsCard : Claim7 := { stood := { row := wireCutsRow, standIns := [], harness := (true, "5ca3bcab9b0be6ce36f92cacc00493e5ca7795991f0439c326c3dd07ae8eb7ab"), looks := true }, kinds := [], alts := [], laidByText := true, laidKinds := [.data, .data, .data, .data, .sentinel, .sentinel, .pinned], laidTests := true, laidLooks := .later }
def WireCutsCardSaid : Prop := Claim7.holds Tryz.pinned (.plain (OpenSpec.ofChange wireCutsSpec)) wireCutsCard

/-- THE TIED CARD OF 'guidepostlaw03.WireHeads'. -/
def wireHeadsCard : Claim7 := { stood := { row := wireHeadsRow, standIns := [], harness := (true, "5ca3bcab9b0be6ce36f92cacc00493e5ca7795991f0439c326c3dd07ae8eb7ab"), looks := true }, kinds := [], alts := [], laidByText := true, laidKinds := [.data, .data, .data, .data, .sentinel, .sentinel, .pinned], laidTests := true, laidLooks := .later }
def WireHeadsCardSaid : Prop := Claim7.holds Tryz.pinned (.plain (OpenSpec.ofChange wireHeadsSpec)) wireHeadsCard

/-- THE TIED CARD OF 'guidepostlaw03.WirePoints'. -/
def wirePointsCard : Claim7 := { stood := { row := wirePointsRow, standIns := [], harness := (true, "5ca3bcab9b0be6ce36f92cacc00493e5ca7795991f0439c326c3dd07ae8eb7ab"), looks := true }, kinds := [], alts := [], laidByText := true, laidKinds := [.data, .data, .data, .data, .sentinel, .sentinel, .pinned], laidTests := true, laidLooks := .later }
def WirePointsCardSaid : Prop := Claim7.holds Tryz.pinned (.plain (OpenSpec.ofChange wirePointsSpec)) wirePointsCard

/-- THE SECOND FORM's CARD OF 'guidepostlaw15.ConfigChecks'. -/
def configChecksUptoCard : Claim7 := { stood := { row := configChecksUptoRow, standIns := [], harness := (true, "5ca3bcab9b0be6ce36f92cacc00493e5ca7795991f0439c326c3dd07ae8eb7ab"), looks := true }, kinds := [], alts := [], laidByText := true, laidKinds := [.data, .data, .data, .data, .sentinel, .sentinel, .pinned], laidTests := true, laidLooks := .later }
def ConfigChecksUptoCardSaid : Prop := Claim7.holds Tryz.pinned (.plain (OpenSpec.upto configChecksSpec)) configChecksUptoCard

/-- THE SECOND FORM's CARD OF 'guidepostlaw15.ConfigParts'. -/
def configPartsUptoCard : Claim7 := { stood := { row := configPartsUptoRow, standIns := [], harness := (true, "5ca3bcab9b0be6ce36f92cacc00493e5ca7795991f0439c326c3dd07ae8eb7ab"), looks := true }, kinds := [], alts := [], laidByText := true, laidKinds := [.data, .data, .data, .data, .sentinel, .sentinel, .pinned], laidTests := true, laidLooks := .later }
def ConfigPartsUptoCardSaid : Prop := Claim7.holds Tryz.pinned (.plain (OpenSpec.upto configPartsSpec)) configPartsUptoCard

/-- THE SECOND FORM's CARD OF 'guidepostlaw15.ConfigFinds'. -/
def configFindsUptoCard : Claim7 := { stood := { row := configFindsUptoRow, standIns := [], harness := (true, "5ca3bcab9b0be6ce36f92cacc00493e5ca7795991f0439c326c3dd07ae8eb7ab"), looks := true }, kinds := [], alts := [], laidByText := true, laidKinds := [.data, .data, .data, .data, .sentinel, .sentinel, .pinned], laidTests := true, laidLooks := .later }
def ConfigFindsUptoCardSaid : Prop := Claim7.holds Tryz.pinned (.plain (OpenSpec.upto configFindsSpec)) configFindsUptoCard

/-- THE SECOND FORM's CARD OF 'guidepostlaw15.ConfigNear'. -/
def configNearUptoCard : Claim7 := { stood := { row := configNearUptoRow, standIns := [], harness := (true, "5ca3bcab9b0be6ce36f92cacc00493e5ca7795991f0439c326c3dd07ae8eb7ab"), looks := true }, kinds := [], alts := [], laidByText := true, laidKinds := [.data, .data, .data, .data, .sentinel, .sentinel, .pinned], laidTests := true, laidLooks := .later }
def ConfigNearUptoCardSaid : Prop := Claim7.holds Tryz.pinned (.plain (OpenSpec.upto configNearSpec)) configNearUptoCard

/-- THE SECOND FORM's CARD OF 'guidepostlaw03.WireWrites'. -/
def wireWritesUptoCard : Claim7 := { stood := { row := wireWritesUptoRow, standIns := [], harness := (true, "5ca3bcab9b0be6ce36f92cacc00493e5ca7795991f0439c326c3dd07ae8eb7ab"), looks := true }, kinds := [], alts := [], laidByText := true, laidKinds := [.data, .data, .data, .data, .sentinel, .sentinel, .pinned], laidTests := true, laidLooks := .later }
def WireWritesUptoCardSaid : Prop := Claim7.holds Tryz.pinned (.plain (OpenSpec.upto wireWritesSpec)) wireWritesUptoCard

/-- THE SECOND FORM's CARD OF 'guidepostlaw03.WireFaults'. -/
def wireFaultsUptoCard : Claim7 := { stood := { row := wireFaultsUptoRow, standIns := [], harness := (true, "5ca3bcab9b0be6ce36f92cacc00493e5ca7795991f0439c326c3dd07ae8eb7ab"), looks := true }, kinds := [], alts := [], laidByText := true, laidKinds := [.data, .data, .data, .data, .sentinel, .sentinel, .pinned], laidTests := true, laidLooks := .later }
def WireFaultsUptoCardSaid : Prop := Claim7.holds Tryz.pinned (.plain (OpenSpec.upto wireFaultsSpec)) wireFaultsUptoCard

/-- THE SECOND FORM's CARD OF 'guidepostlaw03.WireBack'. -/
def wireBackUptoCard : Claim7 := { stood := { row := wireBackUptoRow, standIns := [], harness := (true, "5ca3bcab9b0be6ce36f92cacc00493e5ca7795991f0439c326c3dd07ae8eb7ab"), looks := true }, kinds := [], alts := [], laidByText := true, laidKinds := [.data, .data, .data, .data, .sentinel, .sentinel, .pinned], laidTests := true, laidLooks := .later }
def WireBackUptoCardSaid : Prop := Claim7.holds Tryz.pinned (.plain (OpenSpec.upto wireBackSpec)) wireBackUptoCard

/-- THE SECOND FORM's CARD OF 'guidepostlaw03.WireAgain'. -/
def wireAgainUptoCard : Claim7 := { stood := { row := wireAgainUptoRow, standIns := [], harness := (true, "5ca3bcab9b0be6ce36f92cacc00493e5ca7795991f0439c326c3dd07ae8eb7ab"), looks := true }, kinds := [], alts := [], laidByText := true, laidKinds := [.data, .data, .data, .data, .sentinel, .sentinel, .pinned], laidTests := true, laidLooks := .later }
def WireAgainUptoCardSaid : Prop := Claim7.holds Tryz.pinned (.plain (OpenSpec.upto wireAgainSpec)) wireAgainUptoCard

/-- THE SECOND FORM's CARD OF 'guidepostlaw03.WireFaulty'. -/
def wireFaultyUptoCard : Claim7 := { stood := { row := wireFaultyUptoRow, standIns := [], harness := (true, "5ca3bcab9b0be6ce36f92cacc00493e5ca7795991f0439c326c3dd07ae8eb7ab"), looks := true }, kinds := [], alts := [], laidByText := true, laidKinds := [.data, .data, .data, .data, .sentinel, .sentinel, .pinned], laidTests := true, laidLooks := .later }
def WireFaultyUptoCardSaid : Prop := Claim7.holds Tryz.pinned (.plain (OpenSpec.upto wireFaultySpec)) wireFaultyUptoCard

/-- THE SECOND FORM's CARD OF 'guidepostlaw03.WireCuts'. -/
def wireCutsUptoCard : Claim7 := { stood := { row := wireCutsUptoRow, standIns := [], harness := (true, "5ca3bcab9b0be6ce36f92cacc00493e5ca7795991f0439c326c3dd07ae8eb7ab"), looks := true }, kinds := [], alts := [], laidByText := true, laidKinds := [.data, .data, .data, .data, .sentinel, .sentinel, .pinned], laidTests := true, laidLooks := .later }
def WireCutsUptoCardSaid : Prop := Claim7.holds Tryz.pinned (.plain (OpenSpec.upto wireCutsSpec)) wireCutsUptoCard

/-- THE SECOND FORM's CARD OF 'guidepostlaw03.WireHeads'. -/
def wireHeadsUptoCard : Claim7 := { stood := { row := wireHeadsUptoRow, standIns := [], harness := (true, "5ca3bcab9b0be6ce36f92cacc00493e5ca7795991f0439c326c3dd07ae8eb7ab"), looks := true }, kinds := [], alts := [], laidByText := true, laidKinds := [.data, .data, .data, .data, .sentinel, .sentinel, .pinned], laidTests := true, laidLooks := .later }
def WireHeadsUptoCardSaid : Prop := Claim7.holds Tryz.pinned (.plain (OpenSpec.upto wireHeadsSpec)) wireHeadsUptoCard

/-- THE SECOND FORM's CARD OF 'guidepostlaw03.WirePoints'. -/
def wirePointsUptoCard : Claim7 := { stood := { row := wirePointsUptoRow, standIns := [], harness := (true, "5ca3bcab9b0be6ce36f92cacc00493e5ca7795991f0439c326c3dd07ae8eb7ab"), looks := true }, kinds := [], alts := [], laidByText := true, laidKinds := [.data, .data, .data, .data, .sentinel, .sentinel, .pinned], laidTests := true, laidLooks := .later }
def WirePointsUptoCardSaid : Prop := Claim7.holds Tryz.pinned (.plain (OpenSpec.upto wirePointsSpec)) wirePointsUptoCard
end Rows
end Go.Proofs.YtdmgmkifjboojaaGreatDoor
