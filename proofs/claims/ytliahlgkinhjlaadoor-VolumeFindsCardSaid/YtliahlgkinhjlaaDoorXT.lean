import Derived.Test.YtliahlgkinhjlaaDoorLibC
import Derived.Test.YtliahlgkinhjlaaDoorXAB
import Derived.Test.YtliahlgkinhjlaaDoorXAC
/- The Go structs as Lean structures. -/
namespace Go.AX
open Go.AM

structure Head_api where
  Path : Str
  Version : Int
  Size : Int
  From : Int
  Len : Int
  Serial : Int
  Sum : Int
  Gone : Bool
  deriving DecidableEq, Inhabited
instance : Enc Head_api := ⟨8, true, fun x => [Enc.v x.Path, Enc.v x.Version, Enc.v x.Size, Enc.v x.From, Enc.v x.Len, Enc.v x.Serial, Enc.v x.Sum, Enc.v x.Gone], fun x => .agg 8 (ofL [Enc.v x.Path, Enc.v x.Version, Enc.v x.Size, Enc.v x.From, Enc.v x.Len, Enc.v x.Serial, Enc.v x.Sum, Enc.v x.Gone]), by decide, (by intro h; cases h), fun _ => rfl, fun x => allVal.mem ⟨v_val _, v_val _, v_val _, v_val _, v_val _, v_val _, v_val _, v_val _, trivial⟩, fun x => allOne1.mem ⟨trivial, trivial, trivial, trivial, trivial, trivial, trivial, trivial, trivial⟩, fun _ => rfl⟩

structure Unit_api where
  Kind : Int
  Label : Int
  Number : Int
  Load : (List UInt8)
  deriving DecidableEq, Inhabited
instance : Enc Unit_api := ⟨4, true, fun x => [Enc.v x.Kind, Enc.v x.Label, Enc.v x.Number, Enc.v x.Load], fun x => .agg 4 (ofL [Enc.v x.Kind, Enc.v x.Label, Enc.v x.Number, Enc.v x.Load]), by decide, (by intro h; cases h), fun _ => rfl, fun x => allVal.mem ⟨v_val _, v_val _, v_val _, v_val _, trivial⟩, fun x => allOne1.mem ⟨trivial, trivial, trivial, trivial, trivial⟩, fun _ => rfl⟩

structure Tape_api where
  Label : Int
  Cap : Int
  Blocks : (List (List UInt8))
  Lost : Bool
  deriving DecidableEq, Inhabited
instance : Enc Tape_api := ⟨4, true, fun x => [Enc.v x.Label, Enc.v x.Cap, Enc.v x.Blocks, Enc.v x.Lost], fun x => .agg 4 (ofL [Enc.v x.Label, Enc.v x.Cap, Enc.v x.Blocks, Enc.v x.Lost]), by decide, (by intro h; cases h), fun _ => rfl, fun x => allVal.mem ⟨v_val _, v_val _, v_val _, v_val _, trivial⟩, fun x => allOne1.mem ⟨trivial, trivial, trivial, trivial, trivial⟩, fun _ => rfl⟩

structure Part_api where
  Head : Head_api
  Label : Int
  Block : Int
  deriving DecidableEq, Inhabited
instance : Enc Part_api := ⟨10, true, fun x => [Enc.v x.Head.Path, Enc.v x.Head.Version, Enc.v x.Head.Size, Enc.v x.Head.From, Enc.v x.Head.Len, Enc.v x.Head.Serial, Enc.v x.Head.Sum, Enc.v x.Head.Gone, Enc.v x.Label, Enc.v x.Block], fun x => .agg 10 (ofL [Enc.v x.Head.Path, Enc.v x.Head.Version, Enc.v x.Head.Size, Enc.v x.Head.From, Enc.v x.Head.Len, Enc.v x.Head.Serial, Enc.v x.Head.Sum, Enc.v x.Head.Gone, Enc.v x.Label, Enc.v x.Block]), by decide, (by intro h; cases h), fun _ => rfl, fun x => allVal.mem ⟨v_val _, v_val _, v_val _, v_val _, v_val _, v_val _, v_val _, v_val _, v_val _, v_val _, trivial⟩, fun x => allOne1.mem ⟨trivial, trivial, trivial, trivial, trivial, trivial, trivial, trivial, trivial, trivial, trivial⟩, fun _ => rfl⟩

structure Reader_code where
  b_ : (List UInt8)
  bad_ : Bool
  deriving DecidableEq, Inhabited
instance : Enc Reader_code := ⟨2, true, fun x => [Enc.v x.b_, Enc.v x.bad_], fun x => .agg 2 (ofL [Enc.v x.b_, Enc.v x.bad_]), by decide, (by intro h; cases h), fun _ => rfl, fun x => allVal.mem ⟨v_val _, v_val _, trivial⟩, fun x => allOne1.mem ⟨trivial, trivial, trivial⟩, fun _ => rfl⟩

structure Reader_ref1 where
  b_ : (List UInt8)
  bad_ : Bool
  deriving DecidableEq, Inhabited
instance : Enc Reader_ref1 := ⟨2, true, fun x => [Enc.v x.b_, Enc.v x.bad_], fun x => .agg 2 (ofL [Enc.v x.b_, Enc.v x.bad_]), by decide, (by intro h; cases h), fun _ => rfl, fun x => allVal.mem ⟨v_val _, v_val _, trivial⟩, fun x => allOne1.mem ⟨trivial, trivial, trivial⟩, fun _ => rfl⟩

structure Writer_ref1 where
  B : (List UInt8)
  deriving DecidableEq, Inhabited
instance : Enc Writer_ref1 := ⟨1, true, fun x => [Enc.v x.B], fun x => .agg 1 (ofL [Enc.v x.B]), by decide, (by intro h; cases h), fun _ => rfl, fun x => allVal.mem ⟨v_val _, trivial⟩, fun x => allOne1.mem ⟨trivial, trivial⟩, fun _ => rfl⟩

structure Writer_code where
  b_ : (List UInt8)
  deriving DecidableEq, Inhabited
instance : Enc Writer_code := ⟨1, true, fun x => [Enc.v x.b_], fun x => .agg 1 (ofL [Enc.v x.b_]), by decide, (by intro h; cases h), fun _ => rfl, fun x => allVal.mem ⟨v_val _, trivial⟩, fun x => allOne1.mem ⟨trivial, trivial⟩, fun _ => rfl⟩

end Go.AX
