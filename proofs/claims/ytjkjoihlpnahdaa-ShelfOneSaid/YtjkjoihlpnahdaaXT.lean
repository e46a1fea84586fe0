import Derived.Test.YtjkjoihlpnahdaaXK
/- The Go structs as Lean structures. -/
namespace Go.AX
open Go.AM

structure Act_law22 where
  Way : Int
  Label : Int
  Drive : Int
  deriving DecidableEq, Inhabited
instance : Enc Act_law22 := ⟨3, true, fun x => [Enc.v x.Way, Enc.v x.Label, Enc.v x.Drive], fun x => .agg 3 (ofL [Enc.v x.Way, Enc.v x.Label, Enc.v x.Drive]), by decide, (by intro h; cases h), fun _ => rfl, fun x => allVal.mem ⟨v_val _, v_val _, v_val _, trivial⟩, fun x => allOne1.mem ⟨trivial, trivial, trivial, trivial⟩, fun _ => rfl⟩

structure Piece where
  Tape : Int
  From : Int
  Len : Int
  deriving DecidableEq, Inhabited
instance : Enc Piece := ⟨3, true, fun x => [Enc.v x.Tape, Enc.v x.From, Enc.v x.Len], fun x => .agg 3 (ofL [Enc.v x.Tape, Enc.v x.From, Enc.v x.Len]), by decide, (by intro h; cases h), fun _ => rfl, fun x => allVal.mem ⟨v_val _, v_val _, v_val _, trivial⟩, fun x => allOne1.mem ⟨trivial, trivial, trivial, trivial⟩, fun _ => rfl⟩

structure Line_mount where
  l_ : (List Int)
  deriving DecidableEq, Inhabited
instance : Enc Line_mount := ⟨1, true, fun x => [Enc.v x.l_], fun x => .agg 1 (ofL [Enc.v x.l_]), by decide, (by intro h; cases h), fun _ => rfl, fun x => allVal.mem ⟨v_val _, trivial⟩, fun x => allOne1.mem ⟨trivial, trivial⟩, fun _ => rfl⟩

structure Act_law23 where
  Way : Int
  Label : Int
  deriving DecidableEq, Inhabited
instance : Enc Act_law23 := ⟨2, true, fun x => [Enc.v x.Way, Enc.v x.Label], fun x => .agg 2 (ofL [Enc.v x.Way, Enc.v x.Label]), by decide, (by intro h; cases h), fun _ => rfl, fun x => allVal.mem ⟨v_val _, v_val _, trivial⟩, fun x => allOne1.mem ⟨trivial, trivial, trivial⟩, fun _ => rfl⟩

structure Shelf_shelf where
  labels_ : (List Int)
  drives_ : (List Int)
  deriving DecidableEq, Inhabited
instance : Enc Shelf_shelf := ⟨2, true, fun x => [Enc.v x.labels_, Enc.v x.drives_], fun x => .agg 2 (ofL [Enc.v x.labels_, Enc.v x.drives_]), by decide, (by intro h; cases h), fun _ => rfl, fun x => allVal.mem ⟨v_val _, v_val _, trivial⟩, fun x => allOne1.mem ⟨trivial, trivial, trivial⟩, fun _ => rfl⟩

structure Shelf_ref22 where
  labels_ : (List Int)
  in_ : (List Int)
  drives_ : (List Int)
  deriving DecidableEq, Inhabited
instance : Enc Shelf_ref22 := ⟨3, true, fun x => [Enc.v x.labels_, Enc.v x.in_, Enc.v x.drives_], fun x => .agg 3 (ofL [Enc.v x.labels_, Enc.v x.in_, Enc.v x.drives_]), by decide, (by intro h; cases h), fun _ => rfl, fun x => allVal.mem ⟨v_val _, v_val _, v_val _, trivial⟩, fun x => allOne1.mem ⟨trivial, trivial, trivial, trivial⟩, fun _ => rfl⟩

end Go.AX
