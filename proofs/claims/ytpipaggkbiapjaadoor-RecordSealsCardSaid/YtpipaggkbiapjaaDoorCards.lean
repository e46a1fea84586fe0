/-
  DERIVED. GIVEN WITH THE SEED: THE CARDS: each row of YtpipaggkbiapjaaDoorRows.lean that lists a variable, with what it lists TIED to the program's text (the seventh form; the later family's looks); each row that meets fmt, with fmt's text TOLD by the authors' own Lean function (tested against real Go, not proved from fmt's source: count such statements apart). THE CARD IS WHAT COUNTS. Prove the row's statement (the work); the ties are given (YtpipaggkbiapjaaDoorTie.lean); close each card by the builder's one call (the guide's Derived/Test/ToyasCard.lean, 'card_holds'). Laid BY PROGRAM, IN A SANDBOX (cutbox-door.mjs). By AI agents, Wed Nov 11 2026. No macro, syntax, notation, axiom, sorry.
-/
import Derived.Test.YtpipaggkbiapjaaDoorRows
import GoSem.ClaimSeven
namespace Go.Proofs.YtpipaggkbiapjaaDoor
namespace Rows

/-- THE TIED CARD OF 'cartridgelaw5.PathTells'. -/
def pathTellsCard : Claim7 := { stood := { row := pathTellsRow, standIns := [], harness := (true, "97829d9edc491b02ce313f78109d76b117aa191ea13b8688ff351af9ea6738bc"), looks := false }, kinds := [], alts := [], laidByText := true, laidKinds := [.data, .pinned], laidTests := true, laidLooks := .later }
def PathTellsCardSaid : Prop := Claim7.holds Tryd.pinned (.plain (OpenSpec.ofChange pathTellsSpec)) pathTellsCard

/-- THE TIED CARD OF 'cartridgelaw5.PathWrong'. -/
def pathWrongCard : Claim7 := { stood := { row := pathWrongRow, standIns := [], harness := (true, "97829d9edc491b02ce313f78109d76b117aa191ea13b8688ff351af9ea6738bc"), looks := false }, kinds := [], alts := [], laidByText := true, laidKinds := [.data, .pinned], laidTests := true, laidLooks := .later }
def PathWrongCardSaid : Prop := Claim7.holds Tryd.pinned (.plain (OpenSpec.ofChange pathWrongSpec)) pathWrongCard

/-- THE TIED CARD OF 'cartridgelaw5.PathJoins'. -/
def pathJoinsCard : Claim7 := { stood := { row := pathJoinsRow, standIns := [], harness := (true, "97829d9edc491b02ce313f78109d76b117aa191ea13b8688ff351af9ea6738bc"), looks := false }, kinds := [], alts := [], laidByText := true, laidKinds := [.data, .pinned], laidTests := true, laidLooks := .later }
def PathJoinsCardSaid : Prop := Claim7.holds Tryd.pinned (.plain (OpenSpec.ofChange pathJoinsSpec)) pathJoinsCard

/-- THE TIED CARD OF 'cartridgelaw10.RecordHeads'. -/
def recordHeadsCard : Claim7 := { stood := { row := recordHeadsRow, standIns := [], harness := (true, "97829d9edc491b02ce313f78109d76b117aa191ea13b8688ff351af9ea6738bc"), looks := false }, kinds := [], alts := [], laidByText := true, laidKinds := [.data, .pinned], laidTests := true, laidLooks := .later }
def RecordHeadsCardSaid : Prop := Claim7.holds Tryd.pinned (.plain (OpenSpec.ofChange recordHeadsSpec)) recordHeadsCard

/-- THE TIED CARD OF 'cartridgelaw10.RecordLimits'. -/
def recordLimitsCard : Claim7 := { stood := { row := recordLimitsRow, standIns := [], harness := (true, "97829d9edc491b02ce313f78109d76b117aa191ea13b8688ff351af9ea6738bc"), looks := false }, kinds := [], alts := [], laidByText := true, laidKinds := [.data, .pinned], laidTests := true, laidLooks := .later }
def RecordLimitsCardSaid : Prop := Claim7.holds Tryd.pinned (.plain (OpenSpec.ofChange recordLimitsSpec)) recordLimitsCard

/-- THE TIED CARD OF 'cartridgelaw10.RecordSeals'. -/
def recordSealsCard : Claim7 := { stood := { row := recordSealsRow, standIns := [], harness := (true, "97829d9edc491b02ce313f78109d76b117aa191ea13b8688ff351af9ea6738bc"), looks := false }, kinds := [], alts := [], laidByText := true, laidKinds := [.data, .pinned], laidTests := true, laidLooks := .later }
def RecordSealsCardSaid : Prop := Claim7.holds Tryd.pinned (.plain (OpenSpec.ofChange recordSealsSpec)) recordSealsCard

/-- THE TIED CARD OF 'cartridgelaw10.RecordTorn'. -/
def recordTornCard : Claim7 := { stood := { row := recordTornRow, standIns := [], harness := (true, "97829d9edc491b02ce313f78109d76b117aa191ea13b8688ff351af9ea6738bc"), looks := false }, kinds := [], alts := [], laidByText := true, laidKinds := [.data, .pinned], laidTests := true, laidLooks := .later }
def RecordTornCardSaid : Prop := Claim7.holds Tryd.pinned (.plain (OpenSpec.ofChange recordTornSpec)) recordTornCard

/-- THE SECOND FORM's CARD OF 'cartridgelaw5.PathTells'. -/
def pathTellsUptoCard : Claim7 := { stood := { row := pathTellsUptoRow, standIns := [], harness := (true, "97829d9edc491b02ce313f78109d76b117aa191ea13b8688ff351af9ea6738bc"), looks := false }, kinds := [], alts := [], laidByText := true, laidKinds := [.data, .pinned], laidTests := true, laidLooks := .later }
def PathTellsUptoCardSaid : Prop := Claim7.holds Tryd.pinned (.plain (OpenSpec.upto pathTellsSpec)) pathTellsUptoCard

/-- THE SECOND FORM's CARD OF 'cartridgelaw5.PathWrong'. -/
def pathWrongUptoCard : Claim7 := { stood := { row := pathWrongUptoRow, standIns := [], harness := (true, "97829d9edc491b02ce313f78109d76b117aa191ea13b8688ff351af9ea6738bc"), looks := false }, kinds := [], alts := [], laidByText := true, laidKinds := [.data, .pinned], laidTests := true, laidLooks := .later }
def PathWrongUptoCardSaid : Prop := Claim7.holds Tryd.pinned (.plain (OpenSpec.upto pathWrongSpec)) pathWrongUptoCard

/-- THE SECOND FORM's CARD OF 'cartridgelaw5.PathJoins'. -/
def pathJoinsUptoCard : Claim7 := { stood := { row := pathJoinsUptoRow, standIns := [], harness := (true, "97829d9edc491b02ce313f78109d76b117aa191ea13b8688ff351af9ea6738bc"), looks := false }, kinds := [], alts := [], laidByText := true, laidKinds := [.data, .pinned], laidTests := true, laidLooks := .later }
def PathJoinsUptoCardSaid : Prop := Claim7.holds Tryd.pinned (.plain (OpenSpec.upto pathJoinsSpec)) pathJoinsUptoCard

/-- THE SECOND FORM's CARD OF 'cartridgelaw10.RecordHeads'. -/
def recordHeadsUptoCard : Claim7 := { stood := { row := recordHeadsUptoRow, standIns := [], harness := (true, "97829d9edc491b02ce313f78109d76b117aa191ea13b8688ff351af9ea6738bc"), looks := false }, kinds := [], alts := [], laidByText := true, laidKinds := [.data, .pinned], laidTests := true, laidLooks := .later }
def RecordHeadsUptoCardSaid : Prop := Claim7.holds Tryd.pinned (.plain (OpenSpec.upto recordHeadsSpec)) recordHeadsUptoCard

/-- THE SECOND FORM's CARD OF 'cartridgelaw10.RecordLimits'. -/
def recordLimitsUptoCard : Claim7 := { stood := { row := recordLimitsUptoRow, standIns := [], harness := (true, "97829d9edc491b02ce313f78109d76b117aa191ea13b8688ff351af9ea6738bc"), looks := false }, kinds := [], alts := [], laidByText := true, laidKinds := [.data, .pinned], laidTests := true, laidLooks := .later }
def RecordLimitsUptoCardSaid : Prop := Claim7.holds Tryd.pinned (.plain (OpenSpec.upto recordLimitsSpec)) recordLimitsUptoCard

/-- THE SECOND FORM's CARD OF 'cartridgelaw10.RecordSeals'. -/
def recordSealsUptoCard : Claim7 := { stood := { row := recordSealsUptoRow, standIns := [], harness := (true, "97829d9edc491b02ce313f78109d76b117aa191ea13b8688ff351af9ea6738bc"), looks := false }, kinds := [], alts := [], laidByText := true, laidKinds := [.data, .pinned], laidTests := true, laidLooks := .later }
def RecordSealsUptoCardSaid : Prop := Claim7.holds Tryd.pinned (.plain (OpenSpec.upto recordSealsSpec)) recordSealsUptoCard

/-- THE SECOND FORM's CARD OF 'cartridgelaw10.RecordTorn'. -/
def recordTornUptoCard : Claim7 := { stood := { row := recordTornUptoRow, standIns := [], harness := (true, "97829d9edc491b02ce313f78109d76b117aa191ea13b8688ff351af9ea6738bc"), looks := false }, kinds := [], alts := [], laidByText := true, laidKinds := [.data, .pinned], laidTests := true, laidLooks := .later }
def RecordTornUptoCardSaid : Prop := Claim7.holds Tryd.pinned (.plain (OpenSpec.upto recordTornSpec)) recordTornUptoCard
end Rows
end Go.Proofs.YtpipaggkbiapjaaDoor
