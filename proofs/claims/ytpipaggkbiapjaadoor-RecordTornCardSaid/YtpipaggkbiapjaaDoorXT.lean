import Derived.Test.YtpipaggkbiapjaaDoorLibC
import Derived.Test.YtpipaggkbiapjaaDoorXAB
import Derived.Test.YtpipaggkbiapjaaDoorXAC
/- The Go structs as Lean structures. -/
namespace Go.AX
open Go.AM

structure Head_api where
  Path : Str
  Version : Int
  Size : Int
  From : Int
  Len : Int
  Serial : Int
  Sum : Int
  Gone : Bool
  deriving DecidableEq, Inhabited
instance : Enc Head_api := ⟨8, true, fun x => [Enc.v x.Path, Enc.v x.Version, Enc.v x.Size, Enc.v x.From, Enc.v x.Len, Enc.v x.Serial, Enc.v x.Sum, Enc.v x.Gone], fun x => .agg 8 (ofL [Enc.v x.Path, Enc.v x.Version, Enc.v x.Size, Enc.v x.From, Enc.v x.Len, Enc.v x.Serial, Enc.v x.Sum, Enc.v x.Gone]), by decide, (by intro h; cases h), fun _ => rfl, fun x => allVal.mem ⟨v_val _, v_val _, v_val _, v_val _, v_val _, v_val _, v_val _, v_val _, trivial⟩, fun x => allOne1.mem ⟨trivial, trivial, trivial, trivial, trivial, trivial, trivial, trivial, trivial⟩, fun _ => rfl⟩

structure Seal_api where
  Number : Int
  Index : Int
  Data : Int
  Parity : Int
  Labels : (List Int)
  deriving DecidableEq, Inhabited
instance : Enc Seal_api := ⟨5, true, fun x => [Enc.v x.Number, Enc.v x.Index, Enc.v x.Data, Enc.v x.Parity, Enc.v x.Labels], fun x => .agg 5 (ofL [Enc.v x.Number, Enc.v x.Index, Enc.v x.Data, Enc.v x.Parity, Enc.v x.Labels]), by decide, (by intro h; cases h), fun _ => rfl, fun x => allVal.mem ⟨v_val _, v_val _, v_val _, v_val _, v_val _, trivial⟩, fun x => allOne1.mem ⟨trivial, trivial, trivial, trivial, trivial, trivial⟩, fun _ => rfl⟩

structure Reader_code where
  b_ : (List UInt8)
  bad_ : Bool
  deriving DecidableEq, Inhabited
instance : Enc Reader_code := ⟨2, true, fun x => [Enc.v x.b_, Enc.v x.bad_], fun x => .agg 2 (ofL [Enc.v x.b_, Enc.v x.bad_]), by decide, (by intro h; cases h), fun _ => rfl, fun x => allVal.mem ⟨v_val _, v_val _, trivial⟩, fun x => allOne1.mem ⟨trivial, trivial, trivial⟩, fun _ => rfl⟩

structure Writer_code where
  b_ : (List UInt8)
  deriving DecidableEq, Inhabited
instance : Enc Writer_code := ⟨1, true, fun x => [Enc.v x.b_], fun x => .agg 1 (ofL [Enc.v x.b_]), by decide, (by intro h; cases h), fun _ => rfl, fun x => allVal.mem ⟨v_val _, trivial⟩, fun x => allOne1.mem ⟨trivial, trivial⟩, fun _ => rfl⟩

end Go.AX
