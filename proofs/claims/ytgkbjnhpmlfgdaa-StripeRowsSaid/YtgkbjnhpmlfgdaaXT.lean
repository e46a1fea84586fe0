import Derived.Test.YtgkbjnhpmlfgdaaXX
/- The Go structs as Lean structures. -/
namespace Go.AX
open Go.AM

structure Tape_api where
  Label : Int
  Cap : Int
  Blocks : (List (List UInt8))
  Lost : Bool
  deriving DecidableEq, Inhabited
instance : Enc Tape_api := ⟨4, true, fun x => [Enc.v x.Label, Enc.v x.Cap, Enc.v x.Blocks, Enc.v x.Lost], fun x => .agg 4 (ofL [Enc.v x.Label, Enc.v x.Cap, Enc.v x.Blocks, Enc.v x.Lost]), by decide, (by intro h; cases h), fun _ => rfl, fun x => allVal.mem ⟨v_val _, v_val _, v_val _, v_val _, trivial⟩, fun x => allOne1.mem ⟨trivial, trivial, trivial, trivial, trivial⟩, fun _ => rfl⟩

end Go.AX
