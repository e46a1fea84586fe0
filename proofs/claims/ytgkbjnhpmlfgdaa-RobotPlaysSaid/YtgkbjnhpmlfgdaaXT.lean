import Derived.Test.YtgkbjnhpmlfgdaaXV
import Derived.Test.YtgkbjnhpmlfgdaaXAA
/- The Go structs as Lean structures. -/
namespace Go.AX
open Go.AM

structure Act_law24 where
  Way : Int
  N : Int
  Fail : Bool
  Labels : (List Int)
  deriving DecidableEq, Inhabited
instance : Enc Act_law24 := ⟨4, true, fun x => [Enc.v x.Way, Enc.v x.N, Enc.v x.Fail, Enc.v x.Labels], fun x => .agg 4 (ofL [Enc.v x.Way, Enc.v x.N, Enc.v x.Fail, Enc.v x.Labels]), by decide, (by intro h; cases h), fun _ => rfl, fun x => allVal.mem ⟨v_val _, v_val _, v_val _, v_val _, trivial⟩, fun x => allOne1.mem ⟨trivial, trivial, trivial, trivial, trivial⟩, fun _ => rfl⟩

structure Line_mount where
  l_ : (List Int)
  deriving DecidableEq, Inhabited
instance : Enc Line_mount := ⟨1, true, fun x => [Enc.v x.l_], fun x => .agg 1 (ofL [Enc.v x.l_]), by decide, (by intro h; cases h), fun _ => rfl, fun x => allVal.mem ⟨v_val _, trivial⟩, fun x => allOne1.mem ⟨trivial, trivial⟩, fun _ => rfl⟩

structure Shelf_ref22 where
  labels_ : (List Int)
  in_ : (List Int)
  drives_ : (List Int)
  deriving DecidableEq, Inhabited
instance : Enc Shelf_ref22 := ⟨3, true, fun x => [Enc.v x.labels_, Enc.v x.in_, Enc.v x.drives_], fun x => .agg 3 (ofL [Enc.v x.labels_, Enc.v x.in_, Enc.v x.drives_]), by decide, (by intro h; cases h), fun _ => rfl, fun x => allVal.mem ⟨v_val _, v_val _, v_val _, trivial⟩, fun x => allOne1.mem ⟨trivial, trivial, trivial, trivial⟩, fun _ => rfl⟩

structure Shelf_shelf where
  labels_ : (List Int)
  drives_ : (List Int)
  deriving DecidableEq, Inhabited
instance : Enc Shelf_shelf := ⟨2, true, fun x => [Enc.v x.labels_, Enc.v x.drives_], fun x => .agg 2 (ofL [Enc.v x.labels_, Enc.v x.drives_]), by decide, (by intro h; cases h), fun _ => rfl, fun x => allVal.mem ⟨v_val _, v_val _, trivial⟩, fun x => allOne1.mem ⟨trivial, trivial, trivial⟩, fun _ => rfl⟩

end Go.AX
