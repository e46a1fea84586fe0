/-
  No cell of these rows narrows 'for every input' (looked for: loops, veiled, ifaces, maps, wideKeys, modest, calm, conditions, laid).
  DERIVED. THE GIVEN ROWS OF THIS SEAT. 9 by the template 'for every input the law returns true; each argument reads behind the call as it read before'; 0 by the template 'total and deterministic' (their statements: YtndjbcnpgggddaaTotals.lean).
  GIVEN WITH THE SEED: the statements are not yours to turn. If you find one false, say at which input.
  Laid BY PROGRAM, IN A SANDBOX (cutbox-rows.mjs): the forced cells as the released guide's own fill.sh prints them over the translation b68bf1f541a655d0… (all of the seat's roots in one cut). By AI agents, Wed Nov 11 2026. No macro, syntax, notation, axiom, sorry.
-/
import Derived.Test.YtndjbcnpgggddaaChecked
import GoSem.Claim
import GoSem.ClaimJoined
import GoSem.ClaimMapViews
import Derived.JoinedTies
import Derived.KernelRfl
namespace Go.Proofs.Ytndjbcnpgggddaa
/- THE CELL 'sum', in the pinned program and in every row, IS THE sha256 OF THE DUMP (.gsa) THAT YtndjbcnpgggddaaProg.lean LOADS. Nothing in Lean hashes anything: it is a label: what it is worth is what the hold of that sum in a sandbox is worth. -/
noncomputable def Try.pinned : Pinned := { name := "ytndjbcnpgggddaa", sum := "b68bf1f541a655d0035ebd4054897cc29498addf678996240d2abf0e4b0932c0", checked := Try.checked }
namespace Rows
def none {H : Type} : Left H := { results := [], args := [] }

/-- 'cartridgelaw3.ErasureLine': WHATEVER THE INPUT: true; the input reads as it did. -/
def erasureLineSpec : ChangeSpec := { name := "erasureLine", fn := fun _ => fun
  | [d1, d2, d3] => { results := [.lit (.bool true)], args := [d1, d2, d3] }
  | _ => none }
def erasureLineRow : OpenClaim := { program := "ytndjbcnpgggddaa", sum := "b68bf1f541a655d0035ebd4054897cc29498addf678996240d2abf0e4b0932c0", func := "cartridge/cartridgelaw3.ErasureLine", spec := "erasureLine", unfollowed := true, recurses := true, apart := false }
def ErasureLineSaid : Prop := erasureLineRow.holds Try.pinned (OpenSpec.ofChange erasureLineSpec)

/-- ITS FALSE NEIGHBOUR: 'it returns false'. Refute it at one input. -/
def erasureLineWrong : ChangeSpec := { name := "erasureLine", fn := fun _ => fun
  | [d1, d2, d3] => { results := [.lit (.bool false)], args := [d1, d2, d3] }
  | _ => none }
def ErasureLineWrongFalsely : Prop := erasureLineRow.holds Try.pinned (OpenSpec.ofChange erasureLineWrong)

/-- 'cartridgelaw18.ListingNames': WHATEVER THE INPUT: true; the input reads as it did. -/
def listingNamesSpec : ChangeSpec := { name := "listingNames", fn := fun _ => fun
  | [d] => { results := [.lit (.bool true)], args := [d] }
  | _ => none }
def listingNamesRow : OpenClaim := { program := "ytndjbcnpgggddaa", sum := "b68bf1f541a655d0035ebd4054897cc29498addf678996240d2abf0e4b0932c0", func := "cartridge/cartridgelaw18.ListingNames", spec := "listingNames", recurses := true, apart := false }
def ListingNamesSaid : Prop := listingNamesRow.holds Try.pinned (OpenSpec.ofChange listingNamesSpec)

/-- ITS FALSE NEIGHBOUR: 'it returns false'. Refute it at one input. -/
def listingNamesWrong : ChangeSpec := { name := "listingNames", fn := fun _ => fun
  | [d] => { results := [.lit (.bool false)], args := [d] }
  | _ => none }
def ListingNamesWrongFalsely : Prop := listingNamesRow.holds Try.pinned (OpenSpec.ofChange listingNamesWrong)

/-- 'cartridgelaw18.ListingTells': WHATEVER THE INPUT: true; the input reads as it did. -/
def listingTellsSpec : ChangeSpec := { name := "listingTells", fn := fun _ => fun
  | [d1, d2, d3] => { results := [.lit (.bool true)], args := [d1, d2, d3] }
  | _ => none }
def listingTellsRow : OpenClaim := { program := "ytndjbcnpgggddaa", sum := "b68bf1f541a655d0035ebd4054897cc29498addf678996240d2abf0e4b0932c0", func := "cartridge/cartridgelaw18.ListingTells", spec := "listingTells", unfollowed := true, recurses := true, apart := false }
def ListingTellsSaid : Prop := listingTellsRow.holds Try.pinned (OpenSpec.ofChange listingTellsSpec)

/-- ITS FALSE NEIGHBOUR: 'it returns false'. Refute it at one input. -/
def listingTellsWrong : ChangeSpec := { name := "listingTells", fn := fun _ => fun
  | [d1, d2, d3] => { results := [.lit (.bool false)], args := [d1, d2, d3] }
  | _ => none }
def ListingTellsWrongFalsely : Prop := listingTellsRow.holds Try.pinned (OpenSpec.ofChange listingTellsWrong)

/-- 'cartridgelaw18.ListingNext': WHATEVER THE INPUT: true; the input reads as it did. -/
def listingNextSpec : ChangeSpec := { name := "listingNext", fn := fun _ => fun
  | [d1, d2, d3] => { results := [.lit (.bool true)], args := [d1, d2, d3] }
  | _ => none }
def listingNextRow : OpenClaim := { program := "ytndjbcnpgggddaa", sum := "b68bf1f541a655d0035ebd4054897cc29498addf678996240d2abf0e4b0932c0", func := "cartridge/cartridgelaw18.ListingNext", spec := "listingNext", unfollowed := true, recurses := true, apart := false }
def ListingNextSaid : Prop := listingNextRow.holds Try.pinned (OpenSpec.ofChange listingNextSpec)

/-- ITS FALSE NEIGHBOUR: 'it returns false'. Refute it at one input. -/
def listingNextWrong : ChangeSpec := { name := "listingNext", fn := fun _ => fun
  | [d1, d2, d3] => { results := [.lit (.bool false)], args := [d1, d2, d3] }
  | _ => none }
def ListingNextWrongFalsely : Prop := listingNextRow.holds Try.pinned (OpenSpec.ofChange listingNextWrong)

/-- 'cartridgelaw15.MendBack': WHATEVER THE INPUT: true; the input reads as it did. -/
def mendBackSpec : ChangeSpec := { name := "mendBack", fn := fun _ => fun
  | [d1, d2, d3, d4] => { results := [.lit (.bool true)], args := [d1, d2, d3, d4] }
  | _ => none }
def mendBackRow : OpenClaim := { program := "ytndjbcnpgggddaa", sum := "b68bf1f541a655d0035ebd4054897cc29498addf678996240d2abf0e4b0932c0", func := "cartridge/cartridgelaw15.MendBack", spec := "mendBack", unfollowed := true, recurses := true, apart := false }
def MendBackSaid : Prop := mendBackRow.holds Try.pinned (OpenSpec.ofChange mendBackSpec)

/-- ITS FALSE NEIGHBOUR: 'it returns false'. Refute it at one input. -/
def mendBackWrong : ChangeSpec := { name := "mendBack", fn := fun _ => fun
  | [d1, d2, d3, d4] => { results := [.lit (.bool false)], args := [d1, d2, d3, d4] }
  | _ => none }
def MendBackWrongFalsely : Prop := mendBackRow.holds Try.pinned (OpenSpec.ofChange mendBackWrong)

/-- 'cartridgelaw15.MendMany': WHATEVER THE INPUT: true; the input reads as it did. -/
def mendManySpec : ChangeSpec := { name := "mendMany", fn := fun _ => fun
  | [d1, d2, d3] => { results := [.lit (.bool true)], args := [d1, d2, d3] }
  | _ => none }
def mendManyRow : OpenClaim := { program := "ytndjbcnpgggddaa", sum := "b68bf1f541a655d0035ebd4054897cc29498addf678996240d2abf0e4b0932c0", func := "cartridge/cartridgelaw15.MendMany", spec := "mendMany", unfollowed := true, recurses := true, apart := false }
def MendManySaid : Prop := mendManyRow.holds Try.pinned (OpenSpec.ofChange mendManySpec)

/-- ITS FALSE NEIGHBOUR: 'it returns false'. Refute it at one input. -/
def mendManyWrong : ChangeSpec := { name := "mendMany", fn := fun _ => fun
  | [d1, d2, d3] => { results := [.lit (.bool false)], args := [d1, d2, d3] }
  | _ => none }
def MendManyWrongFalsely : Prop := mendManyRow.holds Try.pinned (OpenSpec.ofChange mendManyWrong)

/-- 'cartridgelaw15.MendBlind': WHATEVER THE INPUT: true; the input reads as it did. -/
def mendBlindSpec : ChangeSpec := { name := "mendBlind", fn := fun _ => fun
  | [d1, d2, d3] => { results := [.lit (.bool true)], args := [d1, d2, d3] }
  | _ => none }
def mendBlindRow : OpenClaim := { program := "ytndjbcnpgggddaa", sum := "b68bf1f541a655d0035ebd4054897cc29498addf678996240d2abf0e4b0932c0", func := "cartridge/cartridgelaw15.MendBlind", spec := "mendBlind", unfollowed := true, recurses := true, apart := false }
def MendBlindSaid : Prop := mendBlindRow.holds Try.pinned (OpenSpec.ofChange mendBlindSpec)

/-- ITS FALSE NEIGHBOUR: 'it returns false'. Refute it at one input. -/
def mendBlindWrong : ChangeSpec := { name := "mendBlind", fn := fun _ => fun
  | [d1, d2, d3] => { results := [.lit (.bool false)], args := [d1, d2, d3] }
  | _ => none }
def MendBlindWrongFalsely : Prop := mendBlindRow.holds Try.pinned (OpenSpec.ofChange mendBlindWrong)

/-- 'cartridgelaw14.GroupKnows': WHATEVER THE INPUT: true; the input reads as it did. -/
def groupKnowsSpec : ChangeSpec := { name := "groupKnows", fn := fun _ => fun
  | [d1, d2, d3] => { results := [.lit (.bool true)], args := [d1, d2, d3] }
  | _ => none }
def groupKnowsRow : OpenClaim := { program := "ytndjbcnpgggddaa", sum := "b68bf1f541a655d0035ebd4054897cc29498addf678996240d2abf0e4b0932c0", func := "cartridge/cartridgelaw14.GroupKnows", spec := "groupKnows", unfollowed := true, recurses := true, apart := false }
def GroupKnowsSaid : Prop := groupKnowsRow.holds Try.pinned (OpenSpec.ofChange groupKnowsSpec)

/-- ITS FALSE NEIGHBOUR: 'it returns false'. Refute it at one input. -/
def groupKnowsWrong : ChangeSpec := { name := "groupKnows", fn := fun _ => fun
  | [d1, d2, d3] => { results := [.lit (.bool false)], args := [d1, d2, d3] }
  | _ => none }
def GroupKnowsWrongFalsely : Prop := groupKnowsRow.holds Try.pinned (OpenSpec.ofChange groupKnowsWrong)

/-- 'cartridgelaw14.GroupNumbers': WHATEVER THE INPUT: true; the input reads as it did. -/
def groupNumbersSpec : ChangeSpec := { name := "groupNumbers", fn := fun _ => fun
  | [d] => { results := [.lit (.bool true)], args := [d] }
  | _ => none }
def groupNumbersRow : OpenClaim := { program := "ytndjbcnpgggddaa", sum := "b68bf1f541a655d0035ebd4054897cc29498addf678996240d2abf0e4b0932c0", func := "cartridge/cartridgelaw14.GroupNumbers", spec := "groupNumbers", unfollowed := true, recurses := true, apart := false }
def GroupNumbersSaid : Prop := groupNumbersRow.holds Try.pinned (OpenSpec.ofChange groupNumbersSpec)

/-- ITS FALSE NEIGHBOUR: 'it returns false'. Refute it at one input. -/
def groupNumbersWrong : ChangeSpec := { name := "groupNumbers", fn := fun _ => fun
  | [d] => { results := [.lit (.bool false)], args := [d] }
  | _ => none }
def GroupNumbersWrongFalsely : Prop := groupNumbersRow.holds Try.pinned (OpenSpec.ofChange groupNumbersWrong)

/- THE SECOND FORM. 'bulk': how many values and letters a reading holds, each counted each time it is reached (what is shared counts as often as it is met; a slice's spare places count too). A statement '..UptoSaid' is the law's where the arguments, and the package variables that the reading takes, are together of bulk at most 1048576: NARROWER than '..Said'. Prove '..Said' where nothing that the law and all that it calls make is longer than what came in: it says more and counts as full. Else prove '..UptoSaid'. A law counts once. -/
mutual
def uptoBulk {H : Type} : DataW H → Nat
  | .lit (.string bytes) => bytes.length + 1
  | .lit _ => 1
  | .nil => 1
  | .ptr d => uptoBulk d + 1
  | .slice elems spare => uptoBulkAll elems + uptoBulkAll spare + 1
  | .agg parts => uptoBulkAll parts + 1
  | .iface _ d => uptoBulk d + 1
  | .map entries => uptoBulkEntries entries + 1
  | .held _ => 1
def uptoBulkAll {H : Type} : List (DataW H) → Nat
  | [] => 0
  | d :: r => uptoBulk d + uptoBulkAll r
def uptoBulkEntries {H : Type} : List (Lit × DataW H) → Nat
  | [] => 0
  | x :: r => uptoBulkEntry x + uptoBulkEntries r
def uptoBulkEntry {H : Type} : Lit × DataW H → Nat
  | (.string bytes, d) => bytes.length + uptoBulk d + 1
  | (_, d) => uptoBulk d + 1
 end
def uptoSmall : (H : Type) → List (DataW H) → Bool := fun _ ds => decide (uptoBulkAll ds ≤ 1048576)
def OpenSpec.upto (s : _root_.Go.ChangeSpec) : _root_.Go.OpenSpec := { _root_.Go.OpenSpec.ofChange s with cond := some uptoSmall }

/-- 'cartridgelaw3.ErasureLine', WHERE WHAT IT READS IS OF BULK AT MOST 1048576: true; the input reads as it did. -/
def erasureLineUptoRow : OpenClaim := { program := "ytndjbcnpgggddaa", sum := "b68bf1f541a655d0035ebd4054897cc29498addf678996240d2abf0e4b0932c0", func := "cartridge/cartridgelaw3.ErasureLine", spec := "erasureLine", unfollowed := true, recurses := true, apart := false, narrowed := true }
def ErasureLineUptoSaid : Prop := erasureLineUptoRow.holds Try.pinned (OpenSpec.upto erasureLineSpec)

/-- 'cartridgelaw18.ListingNames', WHERE WHAT IT READS IS OF BULK AT MOST 1048576: true; the input reads as it did. -/
def listingNamesUptoRow : OpenClaim := { program := "ytndjbcnpgggddaa", sum := "b68bf1f541a655d0035ebd4054897cc29498addf678996240d2abf0e4b0932c0", func := "cartridge/cartridgelaw18.ListingNames", spec := "listingNames", recurses := true, apart := false, narrowed := true }
def ListingNamesUptoSaid : Prop := listingNamesUptoRow.holds Try.pinned (OpenSpec.upto listingNamesSpec)

/-- 'cartridgelaw18.ListingTells', WHERE WHAT IT READS IS OF BULK AT MOST 1048576: true; the input reads as it did. -/
def listingTellsUptoRow : OpenClaim := { program := "ytndjbcnpgggddaa", sum := "b68bf1f541a655d0035ebd4054897cc29498addf678996240d2abf0e4b0932c0", func := "cartridge/cartridgelaw18.ListingTells", spec := "listingTells", unfollowed := true, recurses := true, apart := false, narrowed := true }
def ListingTellsUptoSaid : Prop := listingTellsUptoRow.holds Try.pinned (OpenSpec.upto listingTellsSpec)

/-- 'cartridgelaw18.ListingNext', WHERE WHAT IT READS IS OF BULK AT MOST 1048576: true; the input reads as it did. -/
def listingNextUptoRow : OpenClaim := { program := "ytndjbcnpgggddaa", sum := "b68bf1f541a655d0035ebd4054897cc29498addf678996240d2abf0e4b0932c0", func := "cartridge/cartridgelaw18.ListingNext", spec := "listingNext", unfollowed := true, recurses := true, apart := false, narrowed := true }
def ListingNextUptoSaid : Prop := listingNextUptoRow.holds Try.pinned (OpenSpec.upto listingNextSpec)

/-- 'cartridgelaw15.MendBack', WHERE WHAT IT READS IS OF BULK AT MOST 1048576: true; the input reads as it did. -/
def mendBackUptoRow : OpenClaim := { program := "ytndjbcnpgggddaa", sum := "b68bf1f541a655d0035ebd4054897cc29498addf678996240d2abf0e4b0932c0", func := "cartridge/cartridgelaw15.MendBack", spec := "mendBack", unfollowed := true, recurses := true, apart := false, narrowed := true }
def MendBackUptoSaid : Prop := mendBackUptoRow.holds Try.pinned (OpenSpec.upto mendBackSpec)

/-- 'cartridgelaw15.MendMany', WHERE WHAT IT READS IS OF BULK AT MOST 1048576: true; the input reads as it did. -/
def mendManyUptoRow : OpenClaim := { program := "ytndjbcnpgggddaa", sum := "b68bf1f541a655d0035ebd4054897cc29498addf678996240d2abf0e4b0932c0", func := "cartridge/cartridgelaw15.MendMany", spec := "mendMany", unfollowed := true, recurses := true, apart := false, narrowed := true }
def MendManyUptoSaid : Prop := mendManyUptoRow.holds Try.pinned (OpenSpec.upto mendManySpec)

/-- 'cartridgelaw15.MendBlind', WHERE WHAT IT READS IS OF BULK AT MOST 1048576: true; the input reads as it did. -/
def mendBlindUptoRow : OpenClaim := { program := "ytndjbcnpgggddaa", sum := "b68bf1f541a655d0035ebd4054897cc29498addf678996240d2abf0e4b0932c0", func := "cartridge/cartridgelaw15.MendBlind", spec := "mendBlind", unfollowed := true, recurses := true, apart := false, narrowed := true }
def MendBlindUptoSaid : Prop := mendBlindUptoRow.holds Try.pinned (OpenSpec.upto mendBlindSpec)

/-- 'cartridgelaw14.GroupKnows', WHERE WHAT IT READS IS OF BULK AT MOST 1048576: true; the input reads as it did. -/
def groupKnowsUptoRow : OpenClaim := { program := "ytndjbcnpgggddaa", sum := "b68bf1f541a655d0035ebd4054897cc29498addf678996240d2abf0e4b0932c0", func := "cartridge/cartridgelaw14.GroupKnows", spec := "groupKnows", unfollowed := true, recurses := true, apart := false, narrowed := true }
def GroupKnowsUptoSaid : Prop := groupKnowsUptoRow.holds Try.pinned (OpenSpec.upto groupKnowsSpec)

/-- 'cartridgelaw14.GroupNumbers', WHERE WHAT IT READS IS OF BULK AT MOST 1048576: true; the input reads as it did. -/
def groupNumbersUptoRow : OpenClaim := { program := "ytndjbcnpgggddaa", sum := "b68bf1f541a655d0035ebd4054897cc29498addf678996240d2abf0e4b0932c0", func := "cartridge/cartridgelaw14.GroupNumbers", spec := "groupNumbers", unfollowed := true, recurses := true, apart := false, narrowed := true }
def GroupNumbersUptoSaid : Prop := groupNumbersUptoRow.holds Try.pinned (OpenSpec.upto groupNumbersSpec)

end Rows
end Go.Proofs.Ytndjbcnpgggddaa
