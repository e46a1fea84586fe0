/-
  DERIVED. GIVEN WITH THE SEED: THE CARDS: each row of YtliahlgkinhjlaaDoorRows.lean that lists a variable, with what it lists TIED to the program's text (the seventh form; the later family's looks); each row that meets fmt, with fmt's text TOLD by the authors' own Lean function (tested against real Go, not proved from fmt's source: count such statements apart). THE CARD IS WHAT COUNTS. Prove the row's statement (the work); the ties are given (YtliahlgkinhjlaaDoorTie.lean); close each card by the builder's one call (the guide's Derived/Test/ToyasCard.lean, 'card_holds'). Laid BY PROGRAM, IN A SANDBOX (cutbox-door.mjs). By AI agents, Wed Nov 11 2026. No macro, syntax, notation, axiom, sorry.
-/
import Derived.Test.YtliahlgkinhjlaaDoorRows
import GoSem.ClaimSeven
namespace Go.Proofs.YtliahlgkinhjlaaDoor
namespace Rows

/-- THE TIED CARD OF 'cartridgelaw11.VolumeBlocks'. -/
def volumeBlocksCard : Claim7 := { stood := { row := volumeBlocksRow, standIns := [], harness := (true, "44b797abb7dc278e02f578d8552ecee3e02312d9ac8cdc427f92ba0376365e80"), looks := false }, kinds := [], alts := [], laidByText := true, laidKinds := [.data, .pinned], laidTests := true, laidLooks := .later }
def VolumeBlocksCardSaid : Prop := Claim7.holds Tryd.pinned (.plain (OpenSpec.ofChange volumeBlocksSpec)) volumeBlocksCard

/-- THE TIED CARD OF 'cartridgelaw11.VolumeKeeps'. -/
def volumeKeepsCard : Claim7 := { stood := { row := volumeKeepsRow, standIns := [], harness := (true, "44b797abb7dc278e02f578d8552ecee3e02312d9ac8cdc427f92ba0376365e80"), looks := false }, kinds := [], alts := [], laidByText := true, laidKinds := [.data, .pinned], laidTests := true, laidLooks := .later }
def VolumeKeepsCardSaid : Prop := Claim7.holds Tryd.pinned (.plain (OpenSpec.ofChange volumeKeepsSpec)) volumeKeepsCard

/-- THE TIED CARD OF 'cartridgelaw11.VolumeFinds'. -/
def volumeFindsCard : Claim7 := { stood := { row := volumeFindsRow, standIns := [], harness := (true, "44b797abb7dc278e02f578d8552ecee3e02312d9ac8cdc427f92ba0376365e80"), looks := false }, kinds := [], alts := [], laidByText := true, laidKinds := [.data, .pinned], laidTests := true, laidLooks := .later }
def VolumeFindsCardSaid : Prop := Claim7.holds Tryd.pinned (.plain (OpenSpec.ofChange volumeFindsSpec)) volumeFindsCard

/-- THE TIED CARD OF 'cartridgelaw20.WriteRooms'. -/
def writeRoomsCard : Claim7 := { stood := { row := writeRoomsRow, standIns := [], harness := (true, "44b797abb7dc278e02f578d8552ecee3e02312d9ac8cdc427f92ba0376365e80"), looks := false }, kinds := [], alts := [], laidByText := true, laidKinds := [.data, .pinned], laidTests := true, laidLooks := .later }
def WriteRoomsCardSaid : Prop := Claim7.holds Tryd.pinned (.plain (OpenSpec.ofChange writeRoomsSpec)) writeRoomsCard

/-- THE TIED CARD OF 'cartridgelaw25.ModelPlays'. -/
def modelPlaysCard : Claim7 := { stood := { row := modelPlaysRow, standIns := [], harness := (true, "44b797abb7dc278e02f578d8552ecee3e02312d9ac8cdc427f92ba0376365e80"), looks := false }, kinds := [], alts := [], laidByText := true, laidKinds := [.data, .pinned], laidTests := true, laidLooks := .later }
def ModelPlaysCardSaid : Prop := Claim7.holds Tryd.pinned (.plain (OpenSpec.ofChange modelPlaysSpec)) modelPlaysCard

/-- THE TIED CARD OF 'cartridgelaw25.ModelVersions'. -/
def modelVersionsCard : Claim7 := { stood := { row := modelVersionsRow, standIns := [], harness := (true, "44b797abb7dc278e02f578d8552ecee3e02312d9ac8cdc427f92ba0376365e80"), looks := false }, kinds := [], alts := [], laidByText := true, laidKinds := [.data, .pinned], laidTests := true, laidLooks := .later }
def ModelVersionsCardSaid : Prop := Claim7.holds Tryd.pinned (.plain (OpenSpec.ofChange modelVersionsSpec)) modelVersionsCard

/-- THE TIED CARD OF 'cartridgelaw25.ModelNames'. -/
def modelNamesCard : Claim7 := { stood := { row := modelNamesRow, standIns := [], harness := (true, "44b797abb7dc278e02f578d8552ecee3e02312d9ac8cdc427f92ba0376365e80"), looks := false }, kinds := [], alts := [], laidByText := true, laidKinds := [.data, .pinned], laidTests := true, laidLooks := .later }
def ModelNamesCardSaid : Prop := Claim7.holds Tryd.pinned (.plain (OpenSpec.ofChange modelNamesSpec)) modelNamesCard

/-- THE TIED CARD OF 'cartridgelaw17.CatalogOrder'. -/
def catalogOrderCard : Claim7 := { stood := { row := catalogOrderRow, standIns := [], harness := (true, "44b797abb7dc278e02f578d8552ecee3e02312d9ac8cdc427f92ba0376365e80"), looks := false }, kinds := [], alts := [], laidByText := true, laidKinds := [.data, .pinned], laidTests := true, laidLooks := .later }
def CatalogOrderCardSaid : Prop := Claim7.holds Tryd.pinned (.plain (OpenSpec.ofChange catalogOrderSpec)) catalogOrderCard

/-- THE TIED CARD OF 'cartridgelaw17.CatalogGaps'. -/
def catalogGapsCard : Claim7 := { stood := { row := catalogGapsRow, standIns := [], harness := (true, "44b797abb7dc278e02f578d8552ecee3e02312d9ac8cdc427f92ba0376365e80"), looks := false }, kinds := [], alts := [], laidByText := true, laidKinds := [.data, .pinned], laidTests := true, laidLooks := .later }
def CatalogGapsCardSaid : Prop := Claim7.holds Tryd.pinned (.plain (OpenSpec.ofChange catalogGapsSpec)) catalogGapsCard

/-- THE SECOND FORM's CARD OF 'cartridgelaw11.VolumeBlocks'. -/
def volumeBlocksUptoCard : Claim7 := { stood := { row := volumeBlocksUptoRow, standIns := [], harness := (true, "44b797abb7dc278e02f578d8552ecee3e02312d9ac8cdc427f92ba0376365e80"), looks := false }, kinds := [], alts := [], laidByText := true, laidKinds := [.data, .pinned], laidTests := true, laidLooks := .later }
def VolumeBlocksUptoCardSaid : Prop := Claim7.holds Tryd.pinned (.plain (OpenSpec.upto volumeBlocksSpec)) volumeBlocksUptoCard

/-- THE SECOND FORM's CARD OF 'cartridgelaw11.VolumeKeeps'. -/
def volumeKeepsUptoCard : Claim7 := { stood := { row := volumeKeepsUptoRow, standIns := [], harness := (true, "44b797abb7dc278e02f578d8552ecee3e02312d9ac8cdc427f92ba0376365e80"), looks := false }, kinds := [], alts := [], laidByText := true, laidKinds := [.data, .pinned], laidTests := true, laidLooks := .later }
def VolumeKeepsUptoCardSaid : Prop := Claim7.holds Tryd.pinned (.plain (OpenSpec.upto volumeKeepsSpec)) volumeKeepsUptoCard

/-- THE SECOND FORM's CARD OF 'cartridgelaw11.VolumeFinds'. -/
def volumeFindsUptoCard : Claim7 := { stood := { row := volumeFindsUptoRow, standIns := [], harness := (true, "44b797abb7dc278e02f578d8552ecee3e02312d9ac8cdc427f92ba0376365e80"), looks := false }, kinds := [], alts := [], laidByText := true, laidKinds := [.data, .pinned], laidTests := true, laidLooks := .later }
def VolumeFindsUptoCardSaid : Prop := Claim7.holds Tryd.pinned (.plain (OpenSpec.upto volumeFindsSpec)) volumeFindsUptoCard

/-- THE SECOND FORM's CARD OF 'cartridgelaw20.WriteRooms'. -/
def writeRoomsUptoCard : Claim7 := { stood := { row := writeRoomsUptoRow, standIns := [], harness := (true, "44b797abb7dc278e02f578d8552ecee3e02312d9ac8cdc427f92ba0376365e80"), looks := false }, kinds := [], alts := [], laidByText := true, laidKinds := [.data, .pinned], laidTests := true, laidLooks := .later }
def WriteRoomsUptoCardSaid : Prop := Claim7.holds Tryd.pinned (.plain (OpenSpec.upto writeRoomsSpec)) writeRoomsUptoCard

/-- THE SECOND FORM's CARD OF 'cartridgelaw25.ModelPlays'. -/
def modelPlaysUptoCard : Claim7 := { stood := { row := modelPlaysUptoRow, standIns := [], harness := (true, "44b797abb7dc278e02f578d8552ecee3e02312d9ac8cdc427f92ba0376365e80"), looks := false }, kinds := [], alts := [], laidByText := true, laidKinds := [.data, .pinned], laidTests := true, laidLooks := .later }
def ModelPlaysUptoCardSaid : Prop := Claim7.holds Tryd.pinned (.plain (OpenSpec.upto modelPlaysSpec)) modelPlaysUptoCard

/-- THE SECOND FORM's CARD OF 'cartridgelaw25.ModelVersions'. -/
def modelVersionsUptoCard : Claim7 := { stood := { row := modelVersionsUptoRow, standIns := [], harness := (true, "44b797abb7dc278e02f578d8552ecee3e02312d9ac8cdc427f92ba0376365e80"), looks := false }, kinds := [], alts := [], laidByText := true, laidKinds := [.data, .pinned], laidTests := true, laidLooks := .later }
def ModelVersionsUptoCardSaid : Prop := Claim7.holds Tryd.pinned (.plain (OpenSpec.upto modelVersionsSpec)) modelVersionsUptoCard

/-- THE SECOND FORM's CARD OF 'cartridgelaw25.ModelNames'. -/
def modelNamesUptoCard : Claim7 := { stood := { row := modelNamesUptoRow, standIns := [], harness := (true, "44b797abb7dc278e02f578d8552ecee3e02312d9ac8cdc427f92ba0376365e80"), looks := false }, kinds := [], alts := [], laidByText := true, laidKinds := [.data, .pinned], laidTests := true, laidLooks := .later }
def ModelNamesUptoCardSaid : Prop := Claim7.holds Tryd.pinned (.plain (OpenSpec.upto modelNamesSpec)) modelNamesUptoCard

/-- THE SECOND FORM's CARD OF 'cartridgelaw17.CatalogOrder'. -/
def catalogOrderUptoCard : Claim7 := { stood := { row := catalogOrderUptoRow, standIns := [], harness := (true, "44b797abb7dc278e02f578d8552ecee3e02312d9ac8cdc427f92ba0376365e80"), looks := false }, kinds := [], alts := [], laidByText := true, laidKinds := [.data, .pinned], laidTests := true, laidLooks := .later }
def CatalogOrderUptoCardSaid : Prop := Claim7.holds Tryd.pinned (.plain (OpenSpec.upto catalogOrderSpec)) catalogOrderUptoCard

/-- THE SECOND FORM's CARD OF 'cartridgelaw17.CatalogGaps'. -/
def catalogGapsUptoCard : Claim7 := { stood := { row := catalogGapsUptoRow, standIns := [], harness := (true, "44b797abb7dc278e02f578d8552ecee3e02312d9ac8cdc427f92ba0376365e80"), looks := false }, kinds := [], alts := [], laidByText := true, laidKinds := [.data, .pinned], laidTests := true, laidLooks := .later }
def CatalogGapsUptoCardSaid : Prop := Claim7.holds Tryd.pinned (.plain (OpenSpec.upto catalogGapsSpec)) catalogGapsUptoCard
end Rows
end Go.Proofs.YtliahlgkinhjlaaDoor
