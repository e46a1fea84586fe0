/-
  No cell of these rows narrows 'for every input' (looked for: loops, veiled, ifaces, maps, wideKeys, modest, calm, conditions, laid).
  DERIVED. THE GIVEN ROWS OF THIS SEAT. 6 by the template 'for every input the law returns true; each argument reads behind the call as it read before'; 0 by the template 'total and deterministic' (their statements: YtjkjoihlpnahdaaTotals.lean).
  GIVEN WITH THE SEED: the statements are not yours to turn. If you find one false, say at which input.
  Laid BY PROGRAM, IN A SANDBOX (cutbox-rows.mjs): the forced cells as the released guide's own fill.sh prints them over the translation 474d9eb128f7efd2… (all of the seat's roots in one cut). By AI agents, Wed Nov 11 2026. No macro, syntax, notation, axiom, sorry.
-/
import Derived.Test.YtjkjoihlpnahdaaChecked
import GoSem.Claim
import GoSem.ClaimJoined
import GoSem.ClaimMapViews
import Derived.JoinedTies
import Derived.KernelRfl
namespace Go.Proofs.Ytjkjoihlpnahdaa
/- THE CELL 'sum', in the pinned program and in every row, IS THE sha256 OF THE DUMP (.gsa) THAT YtjkjoihlpnahdaaProg.lean LOADS. Nothing in Lean hashes anything: it is a label: what it is worth is what the hold of that sum in a sandbox is worth. -/
noncomputable def Try.pinned : Pinned := { name := "ytjkjoihlpnahdaa", sum := "474d9eb128f7efd29cc87af8bbfcc5c684eaf7d934e7a7c1df5d812c5b8821ef", checked := Try.checked }
namespace Rows
def none {H : Type} : Left H := { results := [], args := [] }

/-- 'cartridgelaw12.SpanWhole': WHATEVER THE INPUT: true; the input reads as it did. -/
def spanWholeSpec : ChangeSpec := { name := "spanWhole", fn := fun _ => fun
  | [d1, d2] => { results := [.lit (.bool true)], args := [d1, d2] }
  | _ => none }
def spanWholeRow : OpenClaim := { program := "ytjkjoihlpnahdaa", sum := "474d9eb128f7efd29cc87af8bbfcc5c684eaf7d934e7a7c1df5d812c5b8821ef", func := "cartridge/cartridgelaw12.SpanWhole", spec := "spanWhole", apart := false }
def SpanWholeSaid : Prop := spanWholeRow.holds Try.pinned (OpenSpec.ofChange spanWholeSpec)

/-- ITS FALSE NEIGHBOUR: 'it returns false'. Refute it at one input. -/
def spanWholeWrong : ChangeSpec := { name := "spanWhole", fn := fun _ => fun
  | [d1, d2] => { results := [.lit (.bool false)], args := [d1, d2] }
  | _ => none }
def SpanWholeWrongFalsely : Prop := spanWholeRow.holds Try.pinned (OpenSpec.ofChange spanWholeWrong)

/-- 'cartridgelaw23.MountPlays': WHATEVER THE INPUT: true; the input reads as it did. -/
def mountPlaysSpec : ChangeSpec := { name := "mountPlays", fn := fun _ => fun
  | [d] => { results := [.lit (.bool true)], args := [d] }
  | _ => none }
def mountPlaysRow : OpenClaim := { program := "ytjkjoihlpnahdaa", sum := "474d9eb128f7efd29cc87af8bbfcc5c684eaf7d934e7a7c1df5d812c5b8821ef", func := "cartridge/cartridgelaw23.MountPlays", spec := "mountPlays", unfollowed := true, recurses := true, apart := false }
def MountPlaysSaid : Prop := mountPlaysRow.holds Try.pinned (OpenSpec.ofChange mountPlaysSpec)

/-- ITS FALSE NEIGHBOUR: 'it returns false'. Refute it at one input. -/
def mountPlaysWrong : ChangeSpec := { name := "mountPlays", fn := fun _ => fun
  | [d] => { results := [.lit (.bool false)], args := [d] }
  | _ => none }
def MountPlaysWrongFalsely : Prop := mountPlaysRow.holds Try.pinned (OpenSpec.ofChange mountPlaysWrong)

/-- 'cartridgelaw23.MountOrder': WHATEVER THE INPUT: true; the input reads as it did. -/
def mountOrderSpec : ChangeSpec := { name := "mountOrder", fn := fun _ => fun
  | [d] => { results := [.lit (.bool true)], args := [d] }
  | _ => none }
def mountOrderRow : OpenClaim := { program := "ytjkjoihlpnahdaa", sum := "474d9eb128f7efd29cc87af8bbfcc5c684eaf7d934e7a7c1df5d812c5b8821ef", func := "cartridge/cartridgelaw23.MountOrder", spec := "mountOrder", unfollowed := true, recurses := true, apart := false }
def MountOrderSaid : Prop := mountOrderRow.holds Try.pinned (OpenSpec.ofChange mountOrderSpec)

/-- ITS FALSE NEIGHBOUR: 'it returns false'. Refute it at one input. -/
def mountOrderWrong : ChangeSpec := { name := "mountOrder", fn := fun _ => fun
  | [d] => { results := [.lit (.bool false)], args := [d] }
  | _ => none }
def MountOrderWrongFalsely : Prop := mountOrderRow.holds Try.pinned (OpenSpec.ofChange mountOrderWrong)

/-- 'cartridgelaw22.ShelfPlays': WHATEVER THE INPUT: true; the input reads as it did. -/
def shelfPlaysSpec : ChangeSpec := { name := "shelfPlays", fn := fun _ => fun
  | [d1, d2, d3] => { results := [.lit (.bool true)], args := [d1, d2, d3] }
  | _ => none }
def shelfPlaysRow : OpenClaim := { program := "ytjkjoihlpnahdaa", sum := "474d9eb128f7efd29cc87af8bbfcc5c684eaf7d934e7a7c1df5d812c5b8821ef", func := "cartridge/cartridgelaw22.ShelfPlays", spec := "shelfPlays", apart := false }
def ShelfPlaysSaid : Prop := shelfPlaysRow.holds Try.pinned (OpenSpec.ofChange shelfPlaysSpec)

/-- ITS FALSE NEIGHBOUR: 'it returns false'. Refute it at one input. -/
def shelfPlaysWrong : ChangeSpec := { name := "shelfPlays", fn := fun _ => fun
  | [d1, d2, d3] => { results := [.lit (.bool false)], args := [d1, d2, d3] }
  | _ => none }
def ShelfPlaysWrongFalsely : Prop := shelfPlaysRow.holds Try.pinned (OpenSpec.ofChange shelfPlaysWrong)

/-- 'cartridgelaw22.ShelfOne': WHATEVER THE INPUT: true; the input reads as it did. -/
def shelfOneSpec : ChangeSpec := { name := "shelfOne", fn := fun _ => fun
  | [d1, d2, d3] => { results := [.lit (.bool true)], args := [d1, d2, d3] }
  | _ => none }
def shelfOneRow : OpenClaim := { program := "ytjkjoihlpnahdaa", sum := "474d9eb128f7efd29cc87af8bbfcc5c684eaf7d934e7a7c1df5d812c5b8821ef", func := "cartridge/cartridgelaw22.ShelfOne", spec := "shelfOne", apart := false }
def ShelfOneSaid : Prop := shelfOneRow.holds Try.pinned (OpenSpec.ofChange shelfOneSpec)

/-- ITS FALSE NEIGHBOUR: 'it returns false'. Refute it at one input. -/
def shelfOneWrong : ChangeSpec := { name := "shelfOne", fn := fun _ => fun
  | [d1, d2, d3] => { results := [.lit (.bool false)], args := [d1, d2, d3] }
  | _ => none }
def ShelfOneWrongFalsely : Prop := shelfOneRow.holds Try.pinned (OpenSpec.ofChange shelfOneWrong)

/-- 'cartridgelaw22.ShelfBack': WHATEVER THE INPUT: true; the input reads as it did. -/
def shelfBackSpec : ChangeSpec := { name := "shelfBack", fn := fun _ => fun
  | [d1, d2, d3, d4] => { results := [.lit (.bool true)], args := [d1, d2, d3, d4] }
  | _ => none }
def shelfBackRow : OpenClaim := { program := "ytjkjoihlpnahdaa", sum := "474d9eb128f7efd29cc87af8bbfcc5c684eaf7d934e7a7c1df5d812c5b8821ef", func := "cartridge/cartridgelaw22.ShelfBack", spec := "shelfBack", apart := false }
def ShelfBackSaid : Prop := shelfBackRow.holds Try.pinned (OpenSpec.ofChange shelfBackSpec)

/-- ITS FALSE NEIGHBOUR: 'it returns false'. Refute it at one input. -/
def shelfBackWrong : ChangeSpec := { name := "shelfBack", fn := fun _ => fun
  | [d1, d2, d3, d4] => { results := [.lit (.bool false)], args := [d1, d2, d3, d4] }
  | _ => none }
def ShelfBackWrongFalsely : Prop := shelfBackRow.holds Try.pinned (OpenSpec.ofChange shelfBackWrong)

/- THE SECOND FORM. 'bulk': how many values and letters a reading holds, each counted each time it is reached (what is shared counts as often as it is met; a slice's spare places count too). A statement '..UptoSaid' is the law's where the arguments, and the package variables that the reading takes, are together of bulk at most 1048576: NARROWER than '..Said'. Prove '..Said' where nothing that the law and all that it calls make is longer than what came in: it says more and counts as full. Else prove '..UptoSaid'. A law counts once. -/
mutual
def uptoBulk {H : Type} : DataW H → Nat
  | .lit (.string bytes) => bytes.length + 1
  | .lit _ => 1
  | .nil => 1
  | .ptr d => uptoBulk d + 1
  | .slice elems spare => uptoBulkAll elems + uptoBulkAll spare + 1
  | .agg parts => uptoBulkAll parts + 1
  | .iface _ d => uptoBulk d + 1
  | .map entries => uptoBulkEntries entries + 1
  | .held _ => 1
def uptoBulkAll {H : Type} : List (DataW H) → Nat
  | [] => 0
  | d :: r => uptoBulk d + uptoBulkAll r
def uptoBulkEntries {H : Type} : List (Lit × DataW H) → Nat
  | [] => 0
  | x :: r => uptoBulkEntry x + uptoBulkEntries r
def uptoBulkEntry {H : Type} : Lit × DataW H → Nat
  | (.string bytes, d) => bytes.length + uptoBulk d + 1
  | (_, d) => uptoBulk d + 1
 end
def uptoSmall : (H : Type) → List (DataW H) → Bool := fun _ ds => decide (uptoBulkAll ds ≤ 1048576)
def OpenSpec.upto (s : _root_.Go.ChangeSpec) : _root_.Go.OpenSpec := { _root_.Go.OpenSpec.ofChange s with cond := some uptoSmall }

/-- 'cartridgelaw12.SpanWhole', WHERE WHAT IT READS IS OF BULK AT MOST 1048576: true; the input reads as it did. -/
def spanWholeUptoRow : OpenClaim := { program := "ytjkjoihlpnahdaa", sum := "474d9eb128f7efd29cc87af8bbfcc5c684eaf7d934e7a7c1df5d812c5b8821ef", func := "cartridge/cartridgelaw12.SpanWhole", spec := "spanWhole", apart := false, narrowed := true }
def SpanWholeUptoSaid : Prop := spanWholeUptoRow.holds Try.pinned (OpenSpec.upto spanWholeSpec)

/-- 'cartridgelaw23.MountPlays', WHERE WHAT IT READS IS OF BULK AT MOST 1048576: true; the input reads as it did. -/
def mountPlaysUptoRow : OpenClaim := { program := "ytjkjoihlpnahdaa", sum := "474d9eb128f7efd29cc87af8bbfcc5c684eaf7d934e7a7c1df5d812c5b8821ef", func := "cartridge/cartridgelaw23.MountPlays", spec := "mountPlays", unfollowed := true, recurses := true, apart := false, narrowed := true }
def MountPlaysUptoSaid : Prop := mountPlaysUptoRow.holds Try.pinned (OpenSpec.upto mountPlaysSpec)

/-- 'cartridgelaw23.MountOrder', WHERE WHAT IT READS IS OF BULK AT MOST 1048576: true; the input reads as it did. -/
def mountOrderUptoRow : OpenClaim := { program := "ytjkjoihlpnahdaa", sum := "474d9eb128f7efd29cc87af8bbfcc5c684eaf7d934e7a7c1df5d812c5b8821ef", func := "cartridge/cartridgelaw23.MountOrder", spec := "mountOrder", unfollowed := true, recurses := true, apart := false, narrowed := true }
def MountOrderUptoSaid : Prop := mountOrderUptoRow.holds Try.pinned (OpenSpec.upto mountOrderSpec)

/-- 'cartridgelaw22.ShelfPlays', WHERE WHAT IT READS IS OF BULK AT MOST 1048576: true; the input reads as it did. -/
def shelfPlaysUptoRow : OpenClaim := { program := "ytjkjoihlpnahdaa", sum := "474d9eb128f7efd29cc87af8bbfcc5c684eaf7d934e7a7c1df5d812c5b8821ef", func := "cartridge/cartridgelaw22.ShelfPlays", spec := "shelfPlays", apart := false, narrowed := true }
def ShelfPlaysUptoSaid : Prop := shelfPlaysUptoRow.holds Try.pinned (OpenSpec.upto shelfPlaysSpec)

/-- 'cartridgelaw22.ShelfOne', WHERE WHAT IT READS IS OF BULK AT MOST 1048576: true; the input reads as it did. -/
def shelfOneUptoRow : OpenClaim := { program := "ytjkjoihlpnahdaa", sum := "474d9eb128f7efd29cc87af8bbfcc5c684eaf7d934e7a7c1df5d812c5b8821ef", func := "cartridge/cartridgelaw22.ShelfOne", spec := "shelfOne", apart := false, narrowed := true }
def ShelfOneUptoSaid : Prop := shelfOneUptoRow.holds Try.pinned (OpenSpec.upto shelfOneSpec)

/-- 'cartridgelaw22.ShelfBack', WHERE WHAT IT READS IS OF BULK AT MOST 1048576: true; the input reads as it did. -/
def shelfBackUptoRow : OpenClaim := { program := "ytjkjoihlpnahdaa", sum := "474d9eb128f7efd29cc87af8bbfcc5c684eaf7d934e7a7c1df5d812c5b8821ef", func := "cartridge/cartridgelaw22.ShelfBack", spec := "shelfBack", apart := false, narrowed := true }
def ShelfBackUptoSaid : Prop := shelfBackUptoRow.holds Try.pinned (OpenSpec.upto shelfBackSpec)

end Rows
end Go.Proofs.Ytjkjoihlpnahdaa
