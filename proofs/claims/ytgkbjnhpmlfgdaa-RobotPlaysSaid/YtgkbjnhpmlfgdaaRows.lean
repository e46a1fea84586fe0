/-
  No cell of these rows narrows 'for every input' (looked for: loops, veiled, ifaces, maps, wideKeys, modest, calm, conditions, laid).
  DERIVED. THE GIVEN ROWS OF THIS SEAT. 11 by the template 'for every input the law returns true; each argument reads behind the call as it read before'; 0 by the template 'total and deterministic' (their statements: YtgkbjnhpmlfgdaaTotals.lean).
  GIVEN WITH THE SEED: the statements are not yours to turn. If you find one false, say at which input.
  Laid BY PROGRAM, IN A SANDBOX (cutbox-rows.mjs): the forced cells as the released guide's own fill.sh prints them over the translation 878c11bdfa63b71b… (all of the seat's roots in one cut). By AI agents, Wed Nov 11 2026. No macro, syntax, notation, axiom, sorry.
-/
import Derived.Test.YtgkbjnhpmlfgdaaChecked
import GoSem.Claim
import GoSem.ClaimJoined
import GoSem.ClaimMapViews
import Derived.JoinedTies
import Derived.KernelRfl
namespace Go.Proofs.Ytgkbjnhpmlfgdaa
/- THE CELL 'sum', in the pinned program and in every row, IS THE sha256 OF THE DUMP (.gsa) THAT YtgkbjnhpmlfgdaaProg.lean LOADS. Nothing in Lean hashes anything: it is a label: what it is worth is what the hold of that sum in a sandbox is worth. -/
noncomputable def Try.pinned : Pinned := { name := "ytgkbjnhpmlfgdaa", sum := "878c11bdfa63b71bb67a8e762d6642c86d9e358ec81206d6b4114b1bb7f0fe2d", checked := Try.checked }
namespace Rows
def none {H : Type} : Left H := { results := [], args := [] }

/-- 'cartridgelaw2.MatrixUndoes': WHATEVER THE INPUT: true; the input reads as it did. -/
def matrixUndoesSpec : ChangeSpec := { name := "matrixUndoes", fn := fun _ => fun
  | [d1, d2] => { results := [.lit (.bool true)], args := [d1, d2] }
  | _ => none }
def matrixUndoesRow : OpenClaim := { program := "ytgkbjnhpmlfgdaa", sum := "878c11bdfa63b71bb67a8e762d6642c86d9e358ec81206d6b4114b1bb7f0fe2d", func := "cartridge/cartridgelaw2.MatrixUndoes", spec := "matrixUndoes", unfollowed := true, recurses := true, apart := false }
def MatrixUndoesSaid : Prop := matrixUndoesRow.holds Try.pinned (OpenSpec.ofChange matrixUndoesSpec)

/-- ITS FALSE NEIGHBOUR: 'it returns false'. Refute it at one input. -/
def matrixUndoesWrong : ChangeSpec := { name := "matrixUndoes", fn := fun _ => fun
  | [d1, d2] => { results := [.lit (.bool false)], args := [d1, d2] }
  | _ => none }
def MatrixUndoesWrongFalsely : Prop := matrixUndoesRow.holds Try.pinned (OpenSpec.ofChange matrixUndoesWrong)

/-- 'cartridgelaw2.MatrixEven': WHATEVER THE INPUT: true; the input reads as it did. -/
def matrixEvenSpec : ChangeSpec := { name := "matrixEven", fn := fun _ => fun
  | [d1, d2, d3] => { results := [.lit (.bool true)], args := [d1, d2, d3] }
  | _ => none }
def matrixEvenRow : OpenClaim := { program := "ytgkbjnhpmlfgdaa", sum := "878c11bdfa63b71bb67a8e762d6642c86d9e358ec81206d6b4114b1bb7f0fe2d", func := "cartridge/cartridgelaw2.MatrixEven", spec := "matrixEven", unfollowed := true, recurses := true, apart := false }
def MatrixEvenSaid : Prop := matrixEvenRow.holds Try.pinned (OpenSpec.ofChange matrixEvenSpec)

/-- ITS FALSE NEIGHBOUR: 'it returns false'. Refute it at one input. -/
def matrixEvenWrong : ChangeSpec := { name := "matrixEven", fn := fun _ => fun
  | [d1, d2, d3] => { results := [.lit (.bool false)], args := [d1, d2, d3] }
  | _ => none }
def MatrixEvenWrongFalsely : Prop := matrixEvenRow.holds Try.pinned (OpenSpec.ofChange matrixEvenWrong)

/-- 'cartridgelaw13.StripeTells': WHATEVER THE INPUT: true; the input reads as it did. -/
def stripeTellsSpec : ChangeSpec := { name := "stripeTells", fn := fun _ => fun
  | [d1, d2, d3] => { results := [.lit (.bool true)], args := [d1, d2, d3] }
  | _ => none }
def stripeTellsRow : OpenClaim := { program := "ytgkbjnhpmlfgdaa", sum := "878c11bdfa63b71bb67a8e762d6642c86d9e358ec81206d6b4114b1bb7f0fe2d", func := "cartridge/cartridgelaw13.StripeTells", spec := "stripeTells", unfollowed := true, recurses := true, apart := false }
def StripeTellsSaid : Prop := stripeTellsRow.holds Try.pinned (OpenSpec.ofChange stripeTellsSpec)

/-- ITS FALSE NEIGHBOUR: 'it returns false'. Refute it at one input. -/
def stripeTellsWrong : ChangeSpec := { name := "stripeTells", fn := fun _ => fun
  | [d1, d2, d3] => { results := [.lit (.bool false)], args := [d1, d2, d3] }
  | _ => none }
def StripeTellsWrongFalsely : Prop := stripeTellsRow.holds Try.pinned (OpenSpec.ofChange stripeTellsWrong)

/-- 'cartridgelaw13.StripeRows': WHATEVER THE INPUT: true; the input reads as it did. -/
def stripeRowsSpec : ChangeSpec := { name := "stripeRows", fn := fun _ => fun
  | [d1, d2, d3] => { results := [.lit (.bool true)], args := [d1, d2, d3] }
  | _ => none }
def stripeRowsRow : OpenClaim := { program := "ytgkbjnhpmlfgdaa", sum := "878c11bdfa63b71bb67a8e762d6642c86d9e358ec81206d6b4114b1bb7f0fe2d", func := "cartridge/cartridgelaw13.StripeRows", spec := "stripeRows", unfollowed := true, recurses := true, apart := false }
def StripeRowsSaid : Prop := stripeRowsRow.holds Try.pinned (OpenSpec.ofChange stripeRowsSpec)

/-- ITS FALSE NEIGHBOUR: 'it returns false'. Refute it at one input. -/
def stripeRowsWrong : ChangeSpec := { name := "stripeRows", fn := fun _ => fun
  | [d1, d2, d3] => { results := [.lit (.bool false)], args := [d1, d2, d3] }
  | _ => none }
def StripeRowsWrongFalsely : Prop := stripeRowsRow.holds Try.pinned (OpenSpec.ofChange stripeRowsWrong)

/-- 'cartridgelaw2.MatrixTells': WHATEVER THE INPUT: true; the input reads as it did. -/
def matrixTellsSpec : ChangeSpec := { name := "matrixTells", fn := fun _ => fun
  | [d1, d2, d3] => { results := [.lit (.bool true)], args := [d1, d2, d3] }
  | _ => none }
def matrixTellsRow : OpenClaim := { program := "ytgkbjnhpmlfgdaa", sum := "878c11bdfa63b71bb67a8e762d6642c86d9e358ec81206d6b4114b1bb7f0fe2d", func := "cartridge/cartridgelaw2.MatrixTells", spec := "matrixTells", unfollowed := true, recurses := true, apart := false }
def MatrixTellsSaid : Prop := matrixTellsRow.holds Try.pinned (OpenSpec.ofChange matrixTellsSpec)

/-- ITS FALSE NEIGHBOUR: 'it returns false'. Refute it at one input. -/
def matrixTellsWrong : ChangeSpec := { name := "matrixTells", fn := fun _ => fun
  | [d1, d2, d3] => { results := [.lit (.bool false)], args := [d1, d2, d3] }
  | _ => none }
def MatrixTellsWrongFalsely : Prop := matrixTellsRow.holds Try.pinned (OpenSpec.ofChange matrixTellsWrong)

/-- 'cartridgelaw2.MatrixOne': WHATEVER THE INPUT: true; the input reads as it did. -/
def matrixOneSpec : ChangeSpec := { name := "matrixOne", fn := fun _ => fun
  | [d1, d2] => { results := [.lit (.bool true)], args := [d1, d2] }
  | _ => none }
def matrixOneRow : OpenClaim := { program := "ytgkbjnhpmlfgdaa", sum := "878c11bdfa63b71bb67a8e762d6642c86d9e358ec81206d6b4114b1bb7f0fe2d", func := "cartridge/cartridgelaw2.MatrixOne", spec := "matrixOne", unfollowed := true, recurses := true, apart := false }
def MatrixOneSaid : Prop := matrixOneRow.holds Try.pinned (OpenSpec.ofChange matrixOneSpec)

/-- ITS FALSE NEIGHBOUR: 'it returns false'. Refute it at one input. -/
def matrixOneWrong : ChangeSpec := { name := "matrixOne", fn := fun _ => fun
  | [d1, d2] => { results := [.lit (.bool false)], args := [d1, d2] }
  | _ => none }
def MatrixOneWrongFalsely : Prop := matrixOneRow.holds Try.pinned (OpenSpec.ofChange matrixOneWrong)

/-- 'cartridgelaw2.MatrixCauchy': WHATEVER THE INPUT: true; the input reads as it did. -/
def matrixCauchySpec : ChangeSpec := { name := "matrixCauchy", fn := fun _ => fun
  | [d1, d2, d3, d4] => { results := [.lit (.bool true)], args := [d1, d2, d3, d4] }
  | _ => none }
def matrixCauchyRow : OpenClaim := { program := "ytgkbjnhpmlfgdaa", sum := "878c11bdfa63b71bb67a8e762d6642c86d9e358ec81206d6b4114b1bb7f0fe2d", func := "cartridge/cartridgelaw2.MatrixCauchy", spec := "matrixCauchy", unfollowed := true, recurses := true, apart := false }
def MatrixCauchySaid : Prop := matrixCauchyRow.holds Try.pinned (OpenSpec.ofChange matrixCauchySpec)

/-- ITS FALSE NEIGHBOUR: 'it returns false'. Refute it at one input. -/
def matrixCauchyWrong : ChangeSpec := { name := "matrixCauchy", fn := fun _ => fun
  | [d1, d2, d3, d4] => { results := [.lit (.bool false)], args := [d1, d2, d3, d4] }
  | _ => none }
def MatrixCauchyWrongFalsely : Prop := matrixCauchyRow.holds Try.pinned (OpenSpec.ofChange matrixCauchyWrong)

/-- 'cartridgelaw24.RobotBound': WHATEVER THE INPUT: true; the input reads as it did. -/
def robotBoundSpec : ChangeSpec := { name := "robotBound", fn := fun _ => fun
  | [d1, d2, d3, d4] => { results := [.lit (.bool true)], args := [d1, d2, d3, d4] }
  | _ => none }
def robotBoundRow : OpenClaim := { program := "ytgkbjnhpmlfgdaa", sum := "878c11bdfa63b71bb67a8e762d6642c86d9e358ec81206d6b4114b1bb7f0fe2d", func := "cartridge/cartridgelaw24.RobotBound", spec := "robotBound", unfollowed := true, recurses := true, apart := false }
def RobotBoundSaid : Prop := robotBoundRow.holds Try.pinned (OpenSpec.ofChange robotBoundSpec)

/-- ITS FALSE NEIGHBOUR: 'it returns false'. Refute it at one input. -/
def robotBoundWrong : ChangeSpec := { name := "robotBound", fn := fun _ => fun
  | [d1, d2, d3, d4] => { results := [.lit (.bool false)], args := [d1, d2, d3, d4] }
  | _ => none }
def RobotBoundWrongFalsely : Prop := robotBoundRow.holds Try.pinned (OpenSpec.ofChange robotBoundWrong)

/-- 'cartridgelaw24.RobotPlays': WHATEVER THE INPUT: true; the input reads as it did. -/
def robotPlaysSpec : ChangeSpec := { name := "robotPlays", fn := fun _ => fun
  | [d1, d2, d3] => { results := [.lit (.bool true)], args := [d1, d2, d3] }
  | _ => none }
def robotPlaysRow : OpenClaim := { program := "ytgkbjnhpmlfgdaa", sum := "878c11bdfa63b71bb67a8e762d6642c86d9e358ec81206d6b4114b1bb7f0fe2d", func := "cartridge/cartridgelaw24.RobotPlays", spec := "robotPlays", unfollowed := true, recurses := true, apart := false }
def RobotPlaysSaid : Prop := robotPlaysRow.holds Try.pinned (OpenSpec.ofChange robotPlaysSpec)

/-- ITS FALSE NEIGHBOUR: 'it returns false'. Refute it at one input. -/
def robotPlaysWrong : ChangeSpec := { name := "robotPlays", fn := fun _ => fun
  | [d1, d2, d3] => { results := [.lit (.bool false)], args := [d1, d2, d3] }
  | _ => none }
def RobotPlaysWrongFalsely : Prop := robotPlaysRow.holds Try.pinned (OpenSpec.ofChange robotPlaysWrong)

/-- 'cartridgelaw3.ErasureTells': WHATEVER THE INPUT: true; the input reads as it did. -/
def erasureTellsSpec : ChangeSpec := { name := "erasureTells", fn := fun _ => fun
  | [d1, d2, d3] => { results := [.lit (.bool true)], args := [d1, d2, d3] }
  | _ => none }
def erasureTellsRow : OpenClaim := { program := "ytgkbjnhpmlfgdaa", sum := "878c11bdfa63b71bb67a8e762d6642c86d9e358ec81206d6b4114b1bb7f0fe2d", func := "cartridge/cartridgelaw3.ErasureTells", spec := "erasureTells", unfollowed := true, recurses := true, apart := false }
def ErasureTellsSaid : Prop := erasureTellsRow.holds Try.pinned (OpenSpec.ofChange erasureTellsSpec)

/-- ITS FALSE NEIGHBOUR: 'it returns false'. Refute it at one input. -/
def erasureTellsWrong : ChangeSpec := { name := "erasureTells", fn := fun _ => fun
  | [d1, d2, d3] => { results := [.lit (.bool false)], args := [d1, d2, d3] }
  | _ => none }
def ErasureTellsWrongFalsely : Prop := erasureTellsRow.holds Try.pinned (OpenSpec.ofChange erasureTellsWrong)

/-- 'cartridgelaw3.ErasureBack': WHATEVER THE INPUT: true; the input reads as it did. -/
def erasureBackSpec : ChangeSpec := { name := "erasureBack", fn := fun _ => fun
  | [d1, d2, d3] => { results := [.lit (.bool true)], args := [d1, d2, d3] }
  | _ => none }
def erasureBackRow : OpenClaim := { program := "ytgkbjnhpmlfgdaa", sum := "878c11bdfa63b71bb67a8e762d6642c86d9e358ec81206d6b4114b1bb7f0fe2d", func := "cartridge/cartridgelaw3.ErasureBack", spec := "erasureBack", unfollowed := true, recurses := true, apart := false }
def ErasureBackSaid : Prop := erasureBackRow.holds Try.pinned (OpenSpec.ofChange erasureBackSpec)

/-- ITS FALSE NEIGHBOUR: 'it returns false'. Refute it at one input. -/
def erasureBackWrong : ChangeSpec := { name := "erasureBack", fn := fun _ => fun
  | [d1, d2, d3] => { results := [.lit (.bool false)], args := [d1, d2, d3] }
  | _ => none }
def ErasureBackWrongFalsely : Prop := erasureBackRow.holds Try.pinned (OpenSpec.ofChange erasureBackWrong)

/- THE SECOND FORM. 'bulk': how many values and letters a reading holds, each counted each time it is reached (what is shared counts as often as it is met; a slice's spare places count too). A statement '..UptoSaid' is the law's where the arguments, and the package variables that the reading takes, are together of bulk at most 1048576: NARROWER than '..Said'. Prove '..Said' where nothing that the law and all that it calls make is longer than what came in: it says more and counts as full. Else prove '..UptoSaid'. A law counts once. -/
mutual
def uptoBulk {H : Type} : DataW H → Nat
  | .lit (.string bytes) => bytes.length + 1
  | .lit _ => 1
  | .nil => 1
  | .ptr d => uptoBulk d + 1
  | .slice elems spare => uptoBulkAll elems + uptoBulkAll spare + 1
  | .agg parts => uptoBulkAll parts + 1
  | .iface _ d => uptoBulk d + 1
  | .map entries => uptoBulkEntries entries + 1
  | .held _ => 1
def uptoBulkAll {H : Type} : List (DataW H) → Nat
  | [] => 0
  | d :: r => uptoBulk d + uptoBulkAll r
def uptoBulkEntries {H : Type} : List (Lit × DataW H) → Nat
  | [] => 0
  | x :: r => uptoBulkEntry x + uptoBulkEntries r
def uptoBulkEntry {H : Type} : Lit × DataW H → Nat
  | (.string bytes, d) => bytes.length + uptoBulk d + 1
  | (_, d) => uptoBulk d + 1
 end
def uptoSmall : (H : Type) → List (DataW H) → Bool := fun _ ds => decide (uptoBulkAll ds ≤ 1048576)
def OpenSpec.upto (s : _root_.Go.ChangeSpec) : _root_.Go.OpenSpec := { _root_.Go.OpenSpec.ofChange s with cond := some uptoSmall }

/-- 'cartridgelaw2.MatrixUndoes', WHERE WHAT IT READS IS OF BULK AT MOST 1048576: true; the input reads as it did. -/
def matrixUndoesUptoRow : OpenClaim := { program := "ytgkbjnhpmlfgdaa", sum := "878c11bdfa63b71bb67a8e762d6642c86d9e358ec81206d6b4114b1bb7f0fe2d", func := "cartridge/cartridgelaw2.MatrixUndoes", spec := "matrixUndoes", unfollowed := true, recurses := true, apart := false, narrowed := true }
def MatrixUndoesUptoSaid : Prop := matrixUndoesUptoRow.holds Try.pinned (OpenSpec.upto matrixUndoesSpec)

/-- 'cartridgelaw2.MatrixEven', WHERE WHAT IT READS IS OF BULK AT MOST 1048576: true; the input reads as it did. -/
def matrixEvenUptoRow : OpenClaim := { program := "ytgkbjnhpmlfgdaa", sum := "878c11bdfa63b71bb67a8e762d6642c86d9e358ec81206d6b4114b1bb7f0fe2d", func := "cartridge/cartridgelaw2.MatrixEven", spec := "matrixEven", unfollowed := true, recurses := true, apart := false, narrowed := true }
def MatrixEvenUptoSaid : Prop := matrixEvenUptoRow.holds Try.pinned (OpenSpec.upto matrixEvenSpec)

/-- 'cartridgelaw13.StripeTells', WHERE WHAT IT READS IS OF BULK AT MOST 1048576: true; the input reads as it did. -/
def stripeTellsUptoRow : OpenClaim := { program := "ytgkbjnhpmlfgdaa", sum := "878c11bdfa63b71bb67a8e762d6642c86d9e358ec81206d6b4114b1bb7f0fe2d", func := "cartridge/cartridgelaw13.StripeTells", spec := "stripeTells", unfollowed := true, recurses := true, apart := false, narrowed := true }
def StripeTellsUptoSaid : Prop := stripeTellsUptoRow.holds Try.pinned (OpenSpec.upto stripeTellsSpec)

/-- 'cartridgelaw13.StripeRows', WHERE WHAT IT READS IS OF BULK AT MOST 1048576: true; the input reads as it did. -/
def stripeRowsUptoRow : OpenClaim := { program := "ytgkbjnhpmlfgdaa", sum := "878c11bdfa63b71bb67a8e762d6642c86d9e358ec81206d6b4114b1bb7f0fe2d", func := "cartridge/cartridgelaw13.StripeRows", spec := "stripeRows", unfollowed := true, recurses := true, apart := false, narrowed := true }
def StripeRowsUptoSaid : Prop := stripeRowsUptoRow.holds Try.pinned (OpenSpec.upto stripeRowsSpec)

/-- 'cartridgelaw2.MatrixTells', WHERE WHAT IT READS IS OF BULK AT MOST 1048576: true; the input reads as it did. -/
def matrixTellsUptoRow : OpenClaim := { program := "ytgkbjnhpmlfgdaa", sum := "878c11bdfa63b71bb67a8e762d6642c86d9e358ec81206d6b4114b1bb7f0fe2d", func := "cartridge/cartridgelaw2.MatrixTells", spec := "matrixTells", unfollowed := true, recurses := true, apart := false, narrowed := true }
def MatrixTellsUptoSaid : Prop := matrixTellsUptoRow.holds Try.pinned (OpenSpec.upto matrixTellsSpec)

/-- 'cartridgelaw2.MatrixOne', WHERE WHAT IT READS IS OF BULK AT MOST 1048576: true; the input reads as it did. -/
def matrixOneUptoRow : OpenClaim := { program := "ytgkbjnhpmlfgdaa", sum := "878c11bdfa63b71bb67a8e762d6642c86d9e358ec81206d6b4114b1bb7f0fe2d", func := "cartridge/cartridgelaw2.MatrixOne", spec := "matrixOne", unfollowed := true, recurses := true, apart := false, narrowed := true }
def MatrixOneUptoSaid : Prop := matrixOneUptoRow.holds Try.pinned (OpenSpec.upto matrixOneSpec)

/-- 'cartridgelaw2.MatrixCauchy', WHERE WHAT IT READS IS OF BULK AT MOST 1048576: true; the input reads as it did. -/
def matrixCauchyUptoRow : OpenClaim := { program := "ytgkbjnhpmlfgdaa", sum := "878c11bdfa63b71bb67a8e762d6642c86d9e358ec81206d6b4114b1bb7f0fe2d", func := "cartridge/cartridgelaw2.MatrixCauchy", spec := "matrixCauchy", unfollowed := true, recurses := true, apart := false, narrowed := true }
def MatrixCauchyUptoSaid : Prop := matrixCauchyUptoRow.holds Try.pinned (OpenSpec.upto matrixCauchySpec)

/-- 'cartridgelaw24.RobotBound', WHERE WHAT IT READS IS OF BULK AT MOST 1048576: true; the input reads as it did. -/
def robotBoundUptoRow : OpenClaim := { program := "ytgkbjnhpmlfgdaa", sum := "878c11bdfa63b71bb67a8e762d6642c86d9e358ec81206d6b4114b1bb7f0fe2d", func := "cartridge/cartridgelaw24.RobotBound", spec := "robotBound", unfollowed := true, recurses := true, apart := false, narrowed := true }
def RobotBoundUptoSaid : Prop := robotBoundUptoRow.holds Try.pinned (OpenSpec.upto robotBoundSpec)

/-- 'cartridgelaw24.RobotPlays', WHERE WHAT IT READS IS OF BULK AT MOST 1048576: true; the input reads as it did. -/
def robotPlaysUptoRow : OpenClaim := { program := "ytgkbjnhpmlfgdaa", sum := "878c11bdfa63b71bb67a8e762d6642c86d9e358ec81206d6b4114b1bb7f0fe2d", func := "cartridge/cartridgelaw24.RobotPlays", spec := "robotPlays", unfollowed := true, recurses := true, apart := false, narrowed := true }
def RobotPlaysUptoSaid : Prop := robotPlaysUptoRow.holds Try.pinned (OpenSpec.upto robotPlaysSpec)

/-- 'cartridgelaw3.ErasureTells', WHERE WHAT IT READS IS OF BULK AT MOST 1048576: true; the input reads as it did. -/
def erasureTellsUptoRow : OpenClaim := { program := "ytgkbjnhpmlfgdaa", sum := "878c11bdfa63b71bb67a8e762d6642c86d9e358ec81206d6b4114b1bb7f0fe2d", func := "cartridge/cartridgelaw3.ErasureTells", spec := "erasureTells", unfollowed := true, recurses := true, apart := false, narrowed := true }
def ErasureTellsUptoSaid : Prop := erasureTellsUptoRow.holds Try.pinned (OpenSpec.upto erasureTellsSpec)

/-- 'cartridgelaw3.ErasureBack', WHERE WHAT IT READS IS OF BULK AT MOST 1048576: true; the input reads as it did. -/
def erasureBackUptoRow : OpenClaim := { program := "ytgkbjnhpmlfgdaa", sum := "878c11bdfa63b71bb67a8e762d6642c86d9e358ec81206d6b4114b1bb7f0fe2d", func := "cartridge/cartridgelaw3.ErasureBack", spec := "erasureBack", unfollowed := true, recurses := true, apart := false, narrowed := true }
def ErasureBackUptoSaid : Prop := erasureBackUptoRow.holds Try.pinned (OpenSpec.upto erasureBackSpec)

end Rows
end Go.Proofs.Ytgkbjnhpmlfgdaa
