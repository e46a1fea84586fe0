import Derived.Test.YtndjbcnpgggddaaXT
import Derived.Test.YtndjbcnpgggddaaAmT
set_option linter.unusedSimpArgs false
namespace Go.Proofs.Ytndjbcnpgggddaa
open Go.AM Go.AX
theorem Dc {p:Prop} (h:p:=by decide):p:=h
theorem mixed:Try.prog.follows .mixedOrders=true:=by kernel_rfl
theorem src3:srcOK cx 3:=show ti3.known=true from rfl
theorem src4:srcOK cx 4:=show ti4.known=true from rfl
theorem src5:srcOK cx 5:=show ti5.known=true from rfl
theorem src9:srcOK cx 9:=show ti9.known=true from rfl
theorem bo9:bytesOK cx 9:=by unfold bytesOK;rw[kd9];trivial
theorem src22:srcOK cx 22:=show ti22.known=true from rfl
theorem bo22:bytesOK cx 22:=by unfold bytesOK;rw[kd22];trivial
theorem src25:srcOK cx 25:=show ti25.known=true from rfl
theorem bo25:bytesOK cx 25:=by unfold bytesOK;rw[kd25];trivial
theorem src26:srcOK cx 26:=show ti26.known=true from rfl
theorem src47:srcOK cx 47:=show ti47.known=true from rfl
theorem bo47:bytesOK cx 47:=by unfold bytesOK;rw[kd47];trivial
theorem src48:srcOK cx 48:=show ti48.known=true from rfl
theorem bo48:bytesOK cx 48:=by unfold bytesOK;rw[kd48];trivial
theorem src50:srcOK cx 50:=show ti50.known=true from rfl
theorem all50:allTy cx [(3,0),(3,1),(3,2),(3,3),(47,4)]∧fits cx [(3,0),(3,1),(3,2),(3,3),(47,4)] ti50.sz:=⟨⟨rfl,rfl,rfl,rfl,rfl,trivial⟩,⟨(by decide:_≤_),(by decide:_≤_),(by decide:_≤_),(by decide:_≤_),(by decide:_≤_),trivial⟩⟩
theorem src54:srcOK cx 54:=show ti54.known=true from rfl
theorem all54:allTy cx [(3,0),(3,1),(22,2),(4,3)]∧fits cx [(3,0),(3,1),(22,2),(4,3)] ti54.sz:=⟨⟨rfl,rfl,rfl,rfl,trivial⟩,⟨(by decide:_≤_),(by decide:_≤_),(by decide:_≤_),(by decide:_≤_),trivial⟩⟩
theorem zrw54 (j:Nat) (hj:j<Enc.sz Tape_api):Wk (ti54.z j) (ec (Tape_api.mk (0:Int) (0:Int) ([]:(List (List UInt8))) false) j)∧∀h:Hp,oneA h (ti54.z j):=by
 rw[ti54_z]
 match j,hj with
 |0,_=>exact ⟨Wk.refl _,fun _=>trivial⟩
 |1,_=>exact ⟨Wk.refl _,fun _=>trivial⟩
 |2,_=>exact ⟨Wk.nil,fun _=>trivial⟩
 |3,_=>exact ⟨Wk.refl _,fun _=>trivial⟩
 |n+4,hj=>exact absurd hj (by simp[Enc.sz])
theorem src56:srcOK cx 56:=show ti56.known=true from rfl
theorem bo56:bytesOK cx 56:=by unfold bytesOK;rw[kd56];trivial
theorem src68:srcOK cx 68:=show ti68.known=true from rfl
theorem all68:allTy cx [(3,0),(3,1),(3,2),(25,3)]∧fits cx [(3,0),(3,1),(3,2),(25,3)] ti68.sz:=⟨⟨rfl,rfl,rfl,rfl,trivial⟩,⟨(by decide:_≤_),(by decide:_≤_),(by decide:_≤_),(by decide:_≤_),trivial⟩⟩
theorem src71:srcOK cx 71:=show ti71.known=true from rfl
theorem bo71:bytesOK cx 71:=by unfold bytesOK;rw[kd71];trivial
theorem src95:srcOK cx 95:=show ti95.known=true from rfl
theorem src96:srcOK cx 96:=show ti96.known=true from rfl
theorem src100:srcOK cx 100:=show ti100.known=true from rfl
theorem src102:srcOK cx 102:=show ti102.known=true from rfl
theorem all102:allTy cx [(25,0)]∧fits cx [(25,0)] ti102.sz:=⟨⟨rfl,trivial⟩,⟨(by decide:_≤_),trivial⟩⟩
theorem src105:srcOK cx 105:=show ti105.known=true from rfl
theorem src106:srcOK cx 106:=show ti106.known=true from rfl
theorem src111:srcOK cx 111:=show ti111.known=true from rfl
theorem bo111:bytesOK cx 111:=by unfold bytesOK;rw[kd111];trivial
theorem src116:srcOK cx 116:=show ti116.known=true from rfl
theorem src119:srcOK cx 119:=show ti119.known=true from rfl
theorem src145:srcOK cx 145:=show ti145.known=true from rfl
theorem src147:srcOK cx 147:=show ti147.known=true from rfl
theorem bo147:bytesOK cx 147:=by unfold bytesOK;rw[kd147];trivial
theorem src151:srcOK cx 151:=show ti151.known=true from rfl
theorem bo151:bytesOK cx 151:=by unfold bytesOK;rw[kd151];trivial
theorem src165:srcOK cx 165:=show ti165.known=true from rfl
theorem src184:srcOK cx 184:=show ti184.known=true from rfl
theorem src186:srcOK cx 186:=show ti186.known=true from rfl
theorem all186:allTy cx [(25,0)]∧fits cx [(25,0)] ti186.sz:=⟨⟨rfl,trivial⟩,⟨(by decide:_≤_),trivial⟩⟩
theorem src192:srcOK cx 192:=show ti192.known=true from rfl
theorem src194:srcOK cx 194:=show ti194.known=true from rfl
theorem src195:srcOK cx 195:=show ti195.known=true from rfl
theorem bo195:bytesOK cx 195:=by unfold bytesOK;rw[kd195];trivial
theorem src215:srcOK cx 215:=show ti215.known=true from rfl
theorem all215:allTy cx [(25,0),(4,1)]∧fits cx [(25,0),(4,1)] ti215.sz:=⟨⟨rfl,rfl,trivial⟩,⟨(by decide:_≤_),(by decide:_≤_),trivial⟩⟩
abbrev TLc.alO:= @TL.alO cx
abbrev TLc.appD:= @TL.appD cx
abbrev TLc.appG:= @TL.appG cx
abbrev TLc.appN:= @TL.appN cx
abbrev TLc.appNW:= @TL.appNW cx
abbrev TLc.appO:= @TL.appO cx
abbrev TLc.appOZ:= @TL.appOZ cx
abbrev TLc.appT:= @TL.appT cx
abbrev TLc.boxO:= @TL.boxO cx
abbrev TLc.boxV:= @TL.boxV cx
abbrev TLc.copyO:= @TL.copyO cx
abbrev TLc.cvtF:= @TL.cvtF cx
abbrev TLc.eqNilO:= @TL.eqNilO cx
abbrev TLc.eqNilU:= @TL.eqNilU cx
abbrev TLc.lit:= @TL.lit cx
abbrev TLc.litO:= @TL.litO cx
abbrev TLc.litP:= @TL.litP cx
abbrev TLc.litR:= @TL.litR cx
abbrev TLc.litT:= @TL.litT cx
abbrev TLc.litZ:= @TL.litZ cx
abbrev TLc.mkG:= @TL.mkG cx
abbrev TLc.mkO:= @TL.mkO cx
abbrev TLc.mkV:= @TL.mkV cx
abbrev TLc.p:= @TL.p cx
abbrev TLc.stG:= @TL.stG cx
abbrev TLc.stT:= @TL.stT cx
abbrev TLc.stV:= @TL.stV cx
abbrev TLc.stW:= @TL.stW cx
section
variable {nt:Nat} {K:Env→Hp→Prop} {Q:Post} {env:Env} {h:Hp} {d:Nat} {ks:List KO} {v:AV}
theorem P1 {g:Option (Nat×Bool)} {i:I} (hp:PVok cx h env i true v) (hg:gcOf env g=some true) (hd:Nat.ble (d+1) nt=true) (rest:TL Try.prog nt ks K ((d,true,v)::env) h):TL Try.prog nt (⟨some d,g,i⟩::ks) K env h:=TL.p (C:=cx) hp hg hd rest
theorem M {x:AM.X} (hx:ev env x=(true,v)) (hd:Nat.ble (d+1) nt=true) (rest:TL Try.prog nt ks K ((d,true,v)::env) h):TL Try.prog nt (⟨some d,none,.mv x⟩::ks) K env h:=TL.p (C:=cx) (gc:=true) (p_mv hx) rfl hd rest
theorem D0 {hS:Hp} {r:List (Nat×Nat)} {i:Nat} {g:Option (Nat×Bool)} {I':I} (hk:ks[i]? =some ⟨some d,g,I'⟩) (hp:PVok cx hS (keepE (readsK ⟨some d,g,I'⟩) env) I' true v) (hg:gcOf env g=some true) (hd:Nat.ble (d+1) nt=true) (rest:DRun Try.prog nt hS ks K r ((d,true,v)::env) h):DRun Try.prog nt hS ks K ((0,i)::r) env h:=DR0 (gc:=true) hk (vok_p (C:=cx) hp) hg hd rest
theorem DM {hS:Hp} {r:List (Nat×Nat)} {i:Nat} {x:AM.X} (hk:ks[i]? =some ⟨some d,none,.mv x⟩) (hx:ev (keepE (readsK ⟨some d,none,.mv x⟩) env) x=(true,v)) (hd:Nat.ble (d+1) nt=true) (rest:DRun Try.prog nt hS ks K r ((d,true,v)::env) h):DRun Try.prog nt hS ks K ((0,i)::r) env h:=D0 hk (p_mv hx) rfl hd rest
theorem R1 {α:Type} [Enc α] {t:Nat} {e r:α} (hl:lk env t=some (true,Enc.v e)) (hX:some e=some r):RetQ [t] (fun v _=>v=Enc.v r∧v.val) .ret env h:=ret1 (v:=Enc.v e) hl (by obtain rfl:=some_in hX;rfl) (v_val _)
theorem SR {y:KC} (k:∀K:Env→Hp→Prop,(∀env h,TK Try.prog nt y Q env h→K env h)→TL Try.prog nt ks (fun env h=>thenQ K Q .normal env h) env h):TK Try.prog nt (.seq (.reg ks) y) Q env h:=TK.seq_k fun K hK=>TK.reg (k K hK)
end
end Go.Proofs.Ytndjbcnpgggddaa
