/-
  NARROWER THAN 'FOR EVERY INPUT', by the rows' own cells (each row's printed sentence says how): VolumeBlocks: laid · VolumeKeeps: laid · VolumeFinds: laid · WriteRooms: laid · ModelPlays: laid · ModelVersions: laid · ModelNames: laid · CatalogOrder: laid · CatalogGaps: laid.
  DERIVED. THE GIVEN ROWS OF THIS SEAT. 9 by the template 'for every input the law returns true; each argument reads behind the call as it read before'; 0 by the template 'total and deterministic' (their statements: YtliahlgkinhjlaaDoorTotals.lean).
  GIVEN WITH THE SEED: the statements are not yours to turn. If you find one false, say at which input.
  Laid BY PROGRAM, IN A SANDBOX (cutbox-rows.mjs): the forced cells as the released guide's own fill.sh prints them over the translation 22a194999b762a26… (all of the seat's roots in one cut). By AI agents, Wed Nov 11 2026. No macro, syntax, notation, axiom, sorry.
-/
import Derived.Test.YtliahlgkinhjlaaDoorChecked
import GoSem.PinnedTables
import GoSem.Claim
import GoSem.ClaimJoined
import GoSem.ClaimMapViews
import Derived.JoinedTies
import Derived.KernelRfl
namespace Go.Proofs.YtliahlgkinhjlaaDoor
/- THE CELL 'sum', in the pinned program and in every row, IS THE sha256 OF THE DUMP (.gsa) THAT YtliahlgkinhjlaaDoorProg.lean LOADS. Nothing in Lean hashes anything: it is a label: what it is worth is what the hold of that sum in a sandbox is worth. -/
noncomputable def Tryd.pinned : Pinned := { name := "ytliahlgkinhjlaadoor", sum := "22a194999b762a2670eb44ca484abb7d5b31bff6ebb9410ee65b7fb451ec5cf6", checked := Tryd.checked }
namespace Rows
def none {H : Type} : Left H := { results := [], args := [] }

/- WHAT THE LISTED PACKAGE-LEVEL VARIABLES READ AS WHEN THE CALL BEGINS. Each datum BY PROGRAM (the guide's laid-datum.mjs) off the statement by which the dump's own 'gosem.cut.vars' lays the variable. In a bare row this is a premise. The card (YtliahlgkinhjlaaDoorCards.lean) ties it to the program's text. -/
def laid_unicode_utf8_acceptRanges {H : Type} : DataW H := .agg [.agg [.lit (.int .u8 128), .lit (.int .u8 191)], .agg [.lit (.int .u8 160), .lit (.int .u8 191)], .agg [.lit (.int .u8 128), .lit (.int .u8 159)], .agg [.lit (.int .u8 144), .lit (.int .u8 191)], .agg [.lit (.int .u8 128), .lit (.int .u8 143)], .agg [.lit (.int .u8 0), .lit (.int .u8 0)], .agg [.lit (.int .u8 0), .lit (.int .u8 0)], .agg [.lit (.int .u8 0), .lit (.int .u8 0)], .agg [.lit (.int .u8 0), .lit (.int .u8 0)], .agg [.lit (.int .u8 0), .lit (.int .u8 0)], .agg [.lit (.int .u8 0), .lit (.int .u8 0)], .agg [.lit (.int .u8 0), .lit (.int .u8 0)], .agg [.lit (.int .u8 0), .lit (.int .u8 0)], .agg [.lit (.int .u8 0), .lit (.int .u8 0)], .agg [.lit (.int .u8 0), .lit (.int .u8 0)], .agg [.lit (.int .u8 0), .lit (.int .u8 0)]]
/-- One of Go's own tables, pinned by name: the form's constant. -/
def laid_unicode_utf8_first : DataW Unit := Go.Pinned.utf8First

/-- 'cartridgelaw11.VolumeBlocks': WHATEVER THE INPUT: true; the input reads as it did. -/
def volumeBlocksSpec : ChangeSpec := { name := "volumeBlocks", fn := fun _ => fun
  | [d1, d2, d3, d4] => { results := [.lit (.bool true)], args := [d1, d2, d3, d4] }
  | _ => none }
def volumeBlocksRow : OpenClaim := { program := "ytliahlgkinhjlaadoor", sum := "22a194999b762a2670eb44ca484abb7d5b31bff6ebb9410ee65b7fb451ec5cf6", func := "cartridge/cartridgelaw11.VolumeBlocks", spec := "volumeBlocks", inPlace := ["internal/bytealg.CountString", "internal/bytealg.IndexByteString", "internal/bytealg.IndexString"], unfollowed := true, recurses := true, named := ["unicode/utf8.first", "unicode/utf8.acceptRanges", "internal/bytealg.MaxLen"], plainKeys := false, apart := false, laid := [("unicode/utf8.acceptRanges", laid_unicode_utf8_acceptRanges), ("unicode/utf8.first", laid_unicode_utf8_first)] }
def VolumeBlocksSaid : Prop := volumeBlocksRow.holds Tryd.pinned (OpenSpec.ofChange volumeBlocksSpec)

/-- ITS FALSE NEIGHBOUR: 'it returns false'. Refute it at one input. -/
def volumeBlocksWrong : ChangeSpec := { name := "volumeBlocks", fn := fun _ => fun
  | [d1, d2, d3, d4] => { results := [.lit (.bool false)], args := [d1, d2, d3, d4] }
  | _ => none }
def VolumeBlocksWrongFalsely : Prop := volumeBlocksRow.holds Tryd.pinned (OpenSpec.ofChange volumeBlocksWrong)

/-- 'cartridgelaw11.VolumeKeeps': WHATEVER THE INPUT: true; the input reads as it did. -/
def volumeKeepsSpec : ChangeSpec := { name := "volumeKeeps", fn := fun _ => fun
  | [d1, d2, d3, d4] => { results := [.lit (.bool true)], args := [d1, d2, d3, d4] }
  | _ => none }
def volumeKeepsRow : OpenClaim := { program := "ytliahlgkinhjlaadoor", sum := "22a194999b762a2670eb44ca484abb7d5b31bff6ebb9410ee65b7fb451ec5cf6", func := "cartridge/cartridgelaw11.VolumeKeeps", spec := "volumeKeeps", inPlace := ["internal/bytealg.CountString", "internal/bytealg.IndexByteString", "internal/bytealg.IndexString"], unfollowed := true, recurses := true, named := ["unicode/utf8.first", "unicode/utf8.acceptRanges", "internal/bytealg.MaxLen"], plainKeys := false, apart := false, laid := [("unicode/utf8.acceptRanges", laid_unicode_utf8_acceptRanges), ("unicode/utf8.first", laid_unicode_utf8_first)] }
def VolumeKeepsSaid : Prop := volumeKeepsRow.holds Tryd.pinned (OpenSpec.ofChange volumeKeepsSpec)

/-- ITS FALSE NEIGHBOUR: 'it returns false'. Refute it at one input. -/
def volumeKeepsWrong : ChangeSpec := { name := "volumeKeeps", fn := fun _ => fun
  | [d1, d2, d3, d4] => { results := [.lit (.bool false)], args := [d1, d2, d3, d4] }
  | _ => none }
def VolumeKeepsWrongFalsely : Prop := volumeKeepsRow.holds Tryd.pinned (OpenSpec.ofChange volumeKeepsWrong)

/-- 'cartridgelaw11.VolumeFinds': WHATEVER THE INPUT: true; the input reads as it did. -/
def volumeFindsSpec : ChangeSpec := { name := "volumeFinds", fn := fun _ => fun
  | [d1, d2] => { results := [.lit (.bool true)], args := [d1, d2] }
  | _ => none }
def volumeFindsRow : OpenClaim := { program := "ytliahlgkinhjlaadoor", sum := "22a194999b762a2670eb44ca484abb7d5b31bff6ebb9410ee65b7fb451ec5cf6", func := "cartridge/cartridgelaw11.VolumeFinds", spec := "volumeFinds", inPlace := ["internal/bytealg.CountString", "internal/bytealg.IndexByteString", "internal/bytealg.IndexString"], unfollowed := true, recurses := true, named := ["unicode/utf8.first", "unicode/utf8.acceptRanges", "internal/bytealg.MaxLen"], plainKeys := false, apart := false, laid := [("unicode/utf8.acceptRanges", laid_unicode_utf8_acceptRanges), ("unicode/utf8.first", laid_unicode_utf8_first)] }
def VolumeFindsSaid : Prop := volumeFindsRow.holds Tryd.pinned (OpenSpec.ofChange volumeFindsSpec)

/-- ITS FALSE NEIGHBOUR: 'it returns false'. Refute it at one input. -/
def volumeFindsWrong : ChangeSpec := { name := "volumeFinds", fn := fun _ => fun
  | [d1, d2] => { results := [.lit (.bool false)], args := [d1, d2] }
  | _ => none }
def VolumeFindsWrongFalsely : Prop := volumeFindsRow.holds Tryd.pinned (OpenSpec.ofChange volumeFindsWrong)

/-- 'cartridgelaw20.WriteRooms': WHATEVER THE INPUT: true; the input reads as it did. -/
def writeRoomsSpec : ChangeSpec := { name := "writeRooms", fn := fun _ => fun
  | [d1, d2, d3] => { results := [.lit (.bool true)], args := [d1, d2, d3] }
  | _ => none }
def writeRoomsRow : OpenClaim := { program := "ytliahlgkinhjlaadoor", sum := "22a194999b762a2670eb44ca484abb7d5b31bff6ebb9410ee65b7fb451ec5cf6", func := "cartridge/cartridgelaw20.WriteRooms", spec := "writeRooms", inPlace := ["internal/bytealg.CountString", "internal/bytealg.IndexByteString", "internal/bytealg.IndexString"], unfollowed := true, recurses := true, named := ["unicode/utf8.first", "unicode/utf8.acceptRanges", "internal/bytealg.MaxLen"], plainKeys := false, apart := false, laid := [("unicode/utf8.acceptRanges", laid_unicode_utf8_acceptRanges), ("unicode/utf8.first", laid_unicode_utf8_first)] }
def WriteRoomsSaid : Prop := writeRoomsRow.holds Tryd.pinned (OpenSpec.ofChange writeRoomsSpec)

/-- ITS FALSE NEIGHBOUR: 'it returns false'. Refute it at one input. -/
def writeRoomsWrong : ChangeSpec := { name := "writeRooms", fn := fun _ => fun
  | [d1, d2, d3] => { results := [.lit (.bool false)], args := [d1, d2, d3] }
  | _ => none }
def WriteRoomsWrongFalsely : Prop := writeRoomsRow.holds Tryd.pinned (OpenSpec.ofChange writeRoomsWrong)

/-- 'cartridgelaw25.ModelPlays': WHATEVER THE INPUT: true; the input reads as it did. -/
def modelPlaysSpec : ChangeSpec := { name := "modelPlays", fn := fun _ => fun
  | [d] => { results := [.lit (.bool true)], args := [d] }
  | _ => none }
def modelPlaysRow : OpenClaim := { program := "ytliahlgkinhjlaadoor", sum := "22a194999b762a2670eb44ca484abb7d5b31bff6ebb9410ee65b7fb451ec5cf6", func := "cartridge/cartridgelaw25.ModelPlays", spec := "modelPlays", inPlace := ["internal/bytealg.CountString", "internal/bytealg.IndexByteString", "internal/bytealg.IndexString"], unfollowed := true, recurses := true, named := ["unicode/utf8.first", "unicode/utf8.acceptRanges", "internal/bytealg.MaxLen"], plainKeys := false, apart := false, laid := [("unicode/utf8.acceptRanges", laid_unicode_utf8_acceptRanges), ("unicode/utf8.first", laid_unicode_utf8_first)] }
def ModelPlaysSaid : Prop := modelPlaysRow.holds Tryd.pinned (OpenSpec.ofChange modelPlaysSpec)

/-- ITS FALSE NEIGHBOUR: 'it returns false'. Refute it at one input. -/
def modelPlaysWrong : ChangeSpec := { name := "modelPlays", fn := fun _ => fun
  | [d] => { results := [.lit (.bool false)], args := [d] }
  | _ => none }
def ModelPlaysWrongFalsely : Prop := modelPlaysRow.holds Tryd.pinned (OpenSpec.ofChange modelPlaysWrong)

/-- 'cartridgelaw25.ModelVersions': WHATEVER THE INPUT: true; the input reads as it did. -/
def modelVersionsSpec : ChangeSpec := { name := "modelVersions", fn := fun _ => fun
  | [d1, d2] => { results := [.lit (.bool true)], args := [d1, d2] }
  | _ => none }
def modelVersionsRow : OpenClaim := { program := "ytliahlgkinhjlaadoor", sum := "22a194999b762a2670eb44ca484abb7d5b31bff6ebb9410ee65b7fb451ec5cf6", func := "cartridge/cartridgelaw25.ModelVersions", spec := "modelVersions", inPlace := ["internal/bytealg.CountString", "internal/bytealg.IndexByteString", "internal/bytealg.IndexString"], unfollowed := true, recurses := true, named := ["unicode/utf8.first", "unicode/utf8.acceptRanges", "internal/bytealg.MaxLen"], plainKeys := false, apart := false, laid := [("unicode/utf8.acceptRanges", laid_unicode_utf8_acceptRanges), ("unicode/utf8.first", laid_unicode_utf8_first)] }
def ModelVersionsSaid : Prop := modelVersionsRow.holds Tryd.pinned (OpenSpec.ofChange modelVersionsSpec)

/-- ITS FALSE NEIGHBOUR: 'it returns false'. Refute it at one input. -/
def modelVersionsWrong : ChangeSpec := { name := "modelVersions", fn := fun _ => fun
  | [d1, d2] => { results := [.lit (.bool false)], args := [d1, d2] }
  | _ => none }
def ModelVersionsWrongFalsely : Prop := modelVersionsRow.holds Tryd.pinned (OpenSpec.ofChange modelVersionsWrong)

/-- 'cartridgelaw25.ModelNames': WHATEVER THE INPUT: true; the input reads as it did. -/
def modelNamesSpec : ChangeSpec := { name := "modelNames", fn := fun _ => fun
  | [d1, d2] => { results := [.lit (.bool true)], args := [d1, d2] }
  | _ => none }
def modelNamesRow : OpenClaim := { program := "ytliahlgkinhjlaadoor", sum := "22a194999b762a2670eb44ca484abb7d5b31bff6ebb9410ee65b7fb451ec5cf6", func := "cartridge/cartridgelaw25.ModelNames", spec := "modelNames", inPlace := ["internal/bytealg.CountString", "internal/bytealg.IndexByteString", "internal/bytealg.IndexString"], unfollowed := true, recurses := true, named := ["unicode/utf8.first", "unicode/utf8.acceptRanges", "internal/bytealg.MaxLen"], plainKeys := false, apart := false, laid := [("unicode/utf8.acceptRanges", laid_unicode_utf8_acceptRanges), ("unicode/utf8.first", laid_unicode_utf8_first)] }
def ModelNamesSaid : Prop := modelNamesRow.holds Tryd.pinned (OpenSpec.ofChange modelNamesSpec)

/-- ITS FALSE NEIGHBOUR: 'it returns false'. Refute it at one input. -/
def modelNamesWrong : ChangeSpec := { name := "modelNames", fn := fun _ => fun
  | [d1, d2] => { results := [.lit (.bool false)], args := [d1, d2] }
  | _ => none }
def ModelNamesWrongFalsely : Prop := modelNamesRow.holds Tryd.pinned (OpenSpec.ofChange modelNamesWrong)

/-- 'cartridgelaw17.CatalogOrder': WHATEVER THE INPUT: true; the input reads as it did. -/
def catalogOrderSpec : ChangeSpec := { name := "catalogOrder", fn := fun _ => fun
  | [d1, d2] => { results := [.lit (.bool true)], args := [d1, d2] }
  | _ => none }
def catalogOrderRow : OpenClaim := { program := "ytliahlgkinhjlaadoor", sum := "22a194999b762a2670eb44ca484abb7d5b31bff6ebb9410ee65b7fb451ec5cf6", func := "cartridge/cartridgelaw17.CatalogOrder", spec := "catalogOrder", inPlace := ["internal/bytealg.CountString", "internal/bytealg.IndexByteString", "internal/bytealg.IndexString", "internal/bytealg.abigen_runtime_cmpstring", "slices.overlaps[cartridge/api.File]"], unfollowed := true, recurses := true, named := ["unicode/utf8.first", "unicode/utf8.acceptRanges", "internal/bytealg.MaxLen"], plainKeys := false, apart := false, laid := [("unicode/utf8.acceptRanges", laid_unicode_utf8_acceptRanges), ("unicode/utf8.first", laid_unicode_utf8_first)] }
def CatalogOrderSaid : Prop := catalogOrderRow.holds Tryd.pinned (OpenSpec.ofChange catalogOrderSpec)

/-- ITS FALSE NEIGHBOUR: 'it returns false'. Refute it at one input. -/
def catalogOrderWrong : ChangeSpec := { name := "catalogOrder", fn := fun _ => fun
  | [d1, d2] => { results := [.lit (.bool false)], args := [d1, d2] }
  | _ => none }
def CatalogOrderWrongFalsely : Prop := catalogOrderRow.holds Tryd.pinned (OpenSpec.ofChange catalogOrderWrong)

/-- 'cartridgelaw17.CatalogGaps': WHATEVER THE INPUT: true; the input reads as it did. -/
def catalogGapsSpec : ChangeSpec := { name := "catalogGaps", fn := fun _ => fun
  | [d1, d2, d3] => { results := [.lit (.bool true)], args := [d1, d2, d3] }
  | _ => none }
def catalogGapsRow : OpenClaim := { program := "ytliahlgkinhjlaadoor", sum := "22a194999b762a2670eb44ca484abb7d5b31bff6ebb9410ee65b7fb451ec5cf6", func := "cartridge/cartridgelaw17.CatalogGaps", spec := "catalogGaps", inPlace := ["internal/bytealg.CountString", "internal/bytealg.IndexByteString", "internal/bytealg.IndexString", "internal/bytealg.abigen_runtime_cmpstring", "slices.overlaps[cartridge/api.File]"], unfollowed := true, recurses := true, named := ["unicode/utf8.first", "unicode/utf8.acceptRanges", "internal/bytealg.MaxLen"], plainKeys := false, apart := false, laid := [("unicode/utf8.acceptRanges", laid_unicode_utf8_acceptRanges), ("unicode/utf8.first", laid_unicode_utf8_first)] }
def CatalogGapsSaid : Prop := catalogGapsRow.holds Tryd.pinned (OpenSpec.ofChange catalogGapsSpec)

/-- ITS FALSE NEIGHBOUR: 'it returns false'. Refute it at one input. -/
def catalogGapsWrong : ChangeSpec := { name := "catalogGaps", fn := fun _ => fun
  | [d1, d2, d3] => { results := [.lit (.bool false)], args := [d1, d2, d3] }
  | _ => none }
def CatalogGapsWrongFalsely : Prop := catalogGapsRow.holds Tryd.pinned (OpenSpec.ofChange catalogGapsWrong)

/- THE SECOND FORM. 'bulk': how many values and letters a reading holds, each counted each time it is reached (what is shared counts as often as it is met; a slice's spare places count too). A statement '..UptoSaid' is the law's where the arguments, and the package variables that the reading takes, are together of bulk at most 1048576: NARROWER than '..Said'. Prove '..Said' where nothing that the law and all that it calls make is longer than what came in: it says more and counts as full. Else prove '..UptoSaid'. A law counts once. -/
mutual
def uptoBulk {H : Type} : DataW H → Nat
  | .lit (.string bytes) => bytes.length + 1
  | .lit _ => 1
  | .nil => 1
  | .ptr d => uptoBulk d + 1
  | .slice elems spare => uptoBulkAll elems + uptoBulkAll spare + 1
  | .agg parts => uptoBulkAll parts + 1
  | .iface _ d => uptoBulk d + 1
  | .map entries => uptoBulkEntries entries + 1
  | .held _ => 1
def uptoBulkAll {H : Type} : List (DataW H) → Nat
  | [] => 0
  | d :: r => uptoBulk d + uptoBulkAll r
def uptoBulkEntries {H : Type} : List (Lit × DataW H) → Nat
  | [] => 0
  | x :: r => uptoBulkEntry x + uptoBulkEntries r
def uptoBulkEntry {H : Type} : Lit × DataW H → Nat
  | (.string bytes, d) => bytes.length + uptoBulk d + 1
  | (_, d) => uptoBulk d + 1
 end
def uptoSmall : (H : Type) → List (DataW H) → Bool := fun _ ds => decide (uptoBulkAll ds ≤ 1048576)
def OpenSpec.upto (s : _root_.Go.ChangeSpec) : _root_.Go.OpenSpec := { _root_.Go.OpenSpec.ofChange s with cond := some uptoSmall }

/-- 'cartridgelaw11.VolumeBlocks', WHERE WHAT IT READS IS OF BULK AT MOST 1048576: true; the input reads as it did. -/
def volumeBlocksUptoRow : OpenClaim := { program := "ytliahlgkinhjlaadoor", sum := "22a194999b762a2670eb44ca484abb7d5b31bff6ebb9410ee65b7fb451ec5cf6", func := "cartridge/cartridgelaw11.VolumeBlocks", spec := "volumeBlocks", inPlace := ["internal/bytealg.CountString", "internal/bytealg.IndexByteString", "internal/bytealg.IndexString"], unfollowed := true, recurses := true, named := ["unicode/utf8.first", "unicode/utf8.acceptRanges", "internal/bytealg.MaxLen"], plainKeys := false, apart := false, laid := [("unicode/utf8.acceptRanges", laid_unicode_utf8_acceptRanges), ("unicode/utf8.first", laid_unicode_utf8_first)], narrowed := true }
def VolumeBlocksUptoSaid : Prop := volumeBlocksUptoRow.holds Tryd.pinned (OpenSpec.upto volumeBlocksSpec)

/-- 'cartridgelaw11.VolumeKeeps', WHERE WHAT IT READS IS OF BULK AT MOST 1048576: true; the input reads as it did. -/
def volumeKeepsUptoRow : OpenClaim := { program := "ytliahlgkinhjlaadoor", sum := "22a194999b762a2670eb44ca484abb7d5b31bff6ebb9410ee65b7fb451ec5cf6", func := "cartridge/cartridgelaw11.VolumeKeeps", spec := "volumeKeeps", inPlace := ["internal/bytealg.CountString", "internal/bytealg.IndexByteString", "internal/bytealg.IndexString"], unfollowed := true, recurses := true, named := ["unicode/utf8.first", "unicode/utf8.acceptRanges", "internal/bytealg.MaxLen"], plainKeys := false, apart := false, laid := [("unicode/utf8.acceptRanges", laid_unicode_utf8_acceptRanges), ("unicode/utf8.first", laid_unicode_utf8_first)], narrowed := true }
def VolumeKeepsUptoSaid : Prop := volumeKeepsUptoRow.holds Tryd.pinned (OpenSpec.upto volumeKeepsSpec)

/-- 'cartridgelaw11.VolumeFinds', WHERE WHAT IT READS IS OF BULK AT MOST 1048576: true; the input reads as it did. -/
def volumeFindsUptoRow : OpenClaim := { program := "ytliahlgkinhjlaadoor", sum := "22a194999b762a2670eb44ca484abb7d5b31bff6ebb9410ee65b7fb451ec5cf6", func := "cartridge/cartridgelaw11.VolumeFinds", spec := "volumeFinds", inPlace := ["internal/bytealg.CountString", "internal/bytealg.IndexByteString", "internal/bytealg.IndexString"], unfollowed := true, recurses := true, named := ["unicode/utf8.first", "unicode/utf8.acceptRanges", "internal/bytealg.MaxLen"], plainKeys := false, apart := false, laid := [("unicode/utf8.acceptRanges", laid_unicode_utf8_acceptRanges), ("unicode/utf8.first", laid_unicode_utf8_first)], narrowed := true }
def VolumeFindsUptoSaid : Prop := volumeFindsUptoRow.holds Tryd.pinned (OpenSpec.upto volumeFindsSpec)

/-- 'cartridgelaw20.WriteRooms', WHERE WHAT IT READS IS OF BULK AT MOST 1048576: true; the input reads as it did. -/
def writeRoomsUptoRow : OpenClaim := { program := "ytliahlgkinhjlaadoor", sum := "22a194999b762a2670eb44ca484abb7d5b31bff6ebb9410ee65b7fb451ec5cf6", func := "cartridge/cartridgelaw20.WriteRooms", spec := "writeRooms", inPlace := ["internal/bytealg.CountString", "internal/bytealg.IndexByteString", "internal/bytealg.IndexString"], unfollowed := true, recurses := true, named := ["unicode/utf8.first", "unicode/utf8.acceptRanges", "internal/bytealg.MaxLen"], plainKeys := false, apart := false, laid := [("unicode/utf8.acceptRanges", laid_unicode_utf8_acceptRanges), ("unicode/utf8.first", laid_unicode_utf8_first)], narrowed := true }
def WriteRoomsUptoSaid : Prop := writeRoomsUptoRow.holds Tryd.pinned (OpenSpec.upto writeRoomsSpec)

/-- 'cartridgelaw25.ModelPlays', WHERE WHAT IT READS IS OF BULK AT MOST 1048576: true; the input reads as it did. -/
def modelPlaysUptoRow : OpenClaim := { program := "ytliahlgkinhjlaadoor", sum := "22a194999b762a2670eb44ca484abb7d5b31bff6ebb9410ee65b7fb451ec5cf6", func := "cartridge/cartridgelaw25.ModelPlays", spec := "modelPlays", inPlace := ["internal/bytealg.CountString", "internal/bytealg.IndexByteString", "internal/bytealg.IndexString"], unfollowed := true, recurses := true, named := ["unicode/utf8.first", "unicode/utf8.acceptRanges", "internal/bytealg.MaxLen"], plainKeys := false, apart := false, laid := [("unicode/utf8.acceptRanges", laid_unicode_utf8_acceptRanges), ("unicode/utf8.first", laid_unicode_utf8_first)], narrowed := true }
def ModelPlaysUptoSaid : Prop := modelPlaysUptoRow.holds Tryd.pinned (OpenSpec.upto modelPlaysSpec)

/-- 'cartridgelaw25.ModelVersions', WHERE WHAT IT READS IS OF BULK AT MOST 1048576: true; the input reads as it did. -/
def modelVersionsUptoRow : OpenClaim := { program := "ytliahlgkinhjlaadoor", sum := "22a194999b762a2670eb44ca484abb7d5b31bff6ebb9410ee65b7fb451ec5cf6", func := "cartridge/cartridgelaw25.ModelVersions", spec := "modelVersions", inPlace := ["internal/bytealg.CountString", "internal/bytealg.IndexByteString", "internal/bytealg.IndexString"], unfollowed := true, recurses := true, named := ["unicode/utf8.first", "unicode/utf8.acceptRanges", "internal/bytealg.MaxLen"], plainKeys := false, apart := false, laid := [("unicode/utf8.acceptRanges", laid_unicode_utf8_acceptRanges), ("unicode/utf8.first", laid_unicode_utf8_first)], narrowed := true }
def ModelVersionsUptoSaid : Prop := modelVersionsUptoRow.holds Tryd.pinned (OpenSpec.upto modelVersionsSpec)

/-- 'cartridgelaw25.ModelNames', WHERE WHAT IT READS IS OF BULK AT MOST 1048576: true; the input reads as it did. -/
def modelNamesUptoRow : OpenClaim := { program := "ytliahlgkinhjlaadoor", sum := "22a194999b762a2670eb44ca484abb7d5b31bff6ebb9410ee65b7fb451ec5cf6", func := "cartridge/cartridgelaw25.ModelNames", spec := "modelNames", inPlace := ["internal/bytealg.CountString", "internal/bytealg.IndexByteString", "internal/bytealg.IndexString"], unfollowed := true, recurses := true, named := ["unicode/utf8.first", "unicode/utf8.acceptRanges", "internal/bytealg.MaxLen"], plainKeys := false, apart := false, laid := [("unicode/utf8.acceptRanges", laid_unicode_utf8_acceptRanges), ("unicode/utf8.first", laid_unicode_utf8_first)], narrowed := true }
def ModelNamesUptoSaid : Prop := modelNamesUptoRow.holds Tryd.pinned (OpenSpec.upto modelNamesSpec)

/-- 'cartridgelaw17.CatalogOrder', WHERE WHAT IT READS IS OF BULK AT MOST 1048576: true; the input reads as it did. -/
def catalogOrderUptoRow : OpenClaim := { program := "ytliahlgkinhjlaadoor", sum := "22a194999b762a2670eb44ca484abb7d5b31bff6ebb9410ee65b7fb451ec5cf6", func := "cartridge/cartridgelaw17.CatalogOrder", spec := "catalogOrder", inPlace := ["internal/bytealg.CountString", "internal/bytealg.IndexByteString", "internal/bytealg.IndexString", "internal/bytealg.abigen_runtime_cmpstring", "slices.overlaps[cartridge/api.File]"], unfollowed := true, recurses := true, named := ["unicode/utf8.first", "unicode/utf8.acceptRanges", "internal/bytealg.MaxLen"], plainKeys := false, apart := false, laid := [("unicode/utf8.acceptRanges", laid_unicode_utf8_acceptRanges), ("unicode/utf8.first", laid_unicode_utf8_first)], narrowed := true }
def CatalogOrderUptoSaid : Prop := catalogOrderUptoRow.holds Tryd.pinned (OpenSpec.upto catalogOrderSpec)

/-- 'cartridgelaw17.CatalogGaps', WHERE WHAT IT READS IS OF BULK AT MOST 1048576: true; the input reads as it did. -/
def catalogGapsUptoRow : OpenClaim := { program := "ytliahlgkinhjlaadoor", sum := "22a194999b762a2670eb44ca484abb7d5b31bff6ebb9410ee65b7fb451ec5cf6", func := "cartridge/cartridgelaw17.CatalogGaps", spec := "catalogGaps", inPlace := ["internal/bytealg.CountString", "internal/bytealg.IndexByteString", "internal/bytealg.IndexString", "internal/bytealg.abigen_runtime_cmpstring", "slices.overlaps[cartridge/api.File]"], unfollowed := true, recurses := true, named := ["unicode/utf8.first", "unicode/utf8.acceptRanges", "internal/bytealg.MaxLen"], plainKeys := false, apart := false, laid := [("unicode/utf8.acceptRanges", laid_unicode_utf8_acceptRanges), ("unicode/utf8.first", laid_unicode_utf8_first)], narrowed := true }
def CatalogGapsUptoSaid : Prop := catalogGapsUptoRow.holds Tryd.pinned (OpenSpec.upto catalogGapsSpec)

end Rows
end Go.Proofs.YtliahlgkinhjlaaDoor
