import Derived.Test.YtgkbjnhpmlfgdaaXAA
/- The Go structs as Lean structures. -/
namespace Go.AX
open Go.AM

structure Line_mount where
  l_ : (List Int)
  deriving DecidableEq, Inhabited
instance : Enc Line_mount := ⟨1, true, fun x => [Enc.v x.l_], fun x => .agg 1 (ofL [Enc.v x.l_]), by decide, (by intro h; cases h), fun _ => rfl, fun x => allVal.mem ⟨v_val _, trivial⟩, fun x => allOne1.mem ⟨trivial, trivial⟩, fun _ => rfl⟩

structure Shelf_shelf where
  labels_ : (List Int)
  drives_ : (List Int)
  deriving DecidableEq, Inhabited
instance : Enc Shelf_shelf := ⟨2, true, fun x => [Enc.v x.labels_, Enc.v x.drives_], fun x => .agg 2 (ofL [Enc.v x.labels_, Enc.v x.drives_]), by decide, (by intro h; cases h), fun _ => rfl, fun x => allVal.mem ⟨v_val _, v_val _, trivial⟩, fun x => allOne1.mem ⟨trivial, trivial, trivial⟩, fun _ => rfl⟩

end Go.AX
