import Derived.Test.YtndjbcnpgggddaaLibB
import Derived.Test.YtndjbcnpgggddaaLibC
namespace Go.AX
open Go.AM
structure Unit_api where
 Kind:Int
 Label:Int
 Number:Int
 Load:(List UInt8)
 deriving DecidableEq,Inhabited
instance:Enc Unit_api:=⟨4,true,fun x=>[Enc.v x.Kind,Enc.v x.Label,Enc.v x.Number,Enc.v x.Load],fun x=> .agg 4 (ofL [Enc.v x.Kind,Enc.v x.Label,Enc.v x.Number,Enc.v x.Load]),by decide,(by intro h;cases h),fun _=>rfl,fun x=>allVal.mem ⟨v_val _,v_val _,v_val _,v_val _,trivial⟩,fun x=>allOne1.mem ⟨trivial,trivial,trivial,trivial,trivial⟩,fun _=>rfl⟩
structure Tape_api where
 Label:Int
 Cap:Int
 Blocks:(List (List UInt8))
 Lost:Bool
 deriving DecidableEq,Inhabited
instance:Enc Tape_api:=⟨4,true,fun x=>[Enc.v x.Label,Enc.v x.Cap,Enc.v x.Blocks,Enc.v x.Lost],fun x=> .agg 4 (ofL [Enc.v x.Label,Enc.v x.Cap,Enc.v x.Blocks,Enc.v x.Lost]),by decide,(by intro h;cases h),fun _=>rfl,fun x=>allVal.mem ⟨v_val _,v_val _,v_val _,v_val _,trivial⟩,fun x=>allOne1.mem ⟨trivial,trivial,trivial,trivial,trivial⟩,fun _=>rfl⟩
structure Seal_api where
 Number:Int
 Index:Int
 Data:Int
 Parity:Int
 Labels:(List Int)
 deriving DecidableEq,Inhabited
instance:Enc Seal_api:=⟨5,true,fun x=>[Enc.v x.Number,Enc.v x.Index,Enc.v x.Data,Enc.v x.Parity,Enc.v x.Labels],fun x=> .agg 5 (ofL [Enc.v x.Number,Enc.v x.Index,Enc.v x.Data,Enc.v x.Parity,Enc.v x.Labels]),by decide,(by intro h;cases h),fun _=>rfl,fun x=>allVal.mem ⟨v_val _,v_val _,v_val _,v_val _,v_val _,trivial⟩,fun x=>allOne1.mem ⟨trivial,trivial,trivial,trivial,trivial,trivial⟩,fun _=>rfl⟩
structure Reader_code where
 b_:(List UInt8)
 bad_:Bool
 deriving DecidableEq,Inhabited
instance:Enc Reader_code:=⟨2,true,fun x=>[Enc.v x.b_,Enc.v x.bad_],fun x=> .agg 2 (ofL [Enc.v x.b_,Enc.v x.bad_]),by decide,(by intro h;cases h),fun _=>rfl,fun x=>allVal.mem ⟨v_val _,v_val _,trivial⟩,fun x=>allOne1.mem ⟨trivial,trivial,trivial⟩,fun _=>rfl⟩
structure Writer_ref1 where
 B:(List UInt8)
 deriving DecidableEq,Inhabited
instance:Enc Writer_ref1:=⟨1,true,fun x=>[Enc.v x.B],fun x=> .agg 1 (ofL [Enc.v x.B]),by decide,(by intro h;cases h),fun _=>rfl,fun x=>allVal.mem ⟨v_val _,trivial⟩,fun x=>allOne1.mem ⟨trivial,trivial⟩,fun _=>rfl⟩
structure Writer_code where
 b_:(List UInt8)
 deriving DecidableEq,Inhabited
instance:Enc Writer_code:=⟨1,true,fun x=>[Enc.v x.b_],fun x=> .agg 1 (ofL [Enc.v x.b_]),by decide,(by intro h;cases h),fun _=>rfl,fun x=>allVal.mem ⟨v_val _,trivial⟩,fun x=>allOne1.mem ⟨trivial,trivial⟩,fun _=>rfl⟩
instance:DS Tape_api UInt8:=⟨Tape_api.Blocks,fun a x=>Tape_api.mk a.Label a.Cap x a.Lost,2,by decide,fun _=>rfl,fun _ _=>rfl,fun _ _=>rfl⟩
end Go.AX
