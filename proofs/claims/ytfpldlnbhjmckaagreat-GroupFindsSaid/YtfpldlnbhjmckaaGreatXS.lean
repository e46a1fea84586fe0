import Derived.Test.YtfpldlnbhjmckaaGreatXT
import Derived.Test.YtfpldlnbhjmckaaGreatAmT
set_option linter.unusedSimpArgs false
namespace Go.Proofs.YtfpldlnbhjmckaaGreat
open Go.AM Go.AX
theorem Dc {p:Prop} (h:p:=by decide):p:=h
theorem mixed:Tryz.prog.follows .mixedOrders=true:=by kernel_rfl
theorem src3:srcOK cx 3:=show ti3.known=true from rfl
theorem src4:srcOK cx 4:=show ti4.known=true from rfl
theorem src5:srcOK cx 5:=show ti5.known=true from rfl
theorem src9:srcOK cx 9:=show ti9.known=true from rfl
theorem bo9:bytesOK cx 9:=by unfold bytesOK;rw[kd9];trivial
theorem src22:srcOK cx 22:=show ti22.known=true from rfl
theorem bo22:bytesOK cx 22:=by unfold bytesOK;rw[kd22];trivial
theorem src25:srcOK cx 25:=show ti25.known=true from rfl
theorem src33:srcOK cx 33:=show ti33.known=true from rfl
theorem bo33:bytesOK cx 33:=by unfold bytesOK;rw[kd33];trivial
theorem src36:srcOK cx 36:=show ti36.known=true from rfl
theorem bo36:bytesOK cx 36:=by unfold bytesOK;rw[kd36];trivial
theorem src38:srcOK cx 38:=show ti38.known=true from rfl
theorem all38:allTy cx [(3,0),(3,1),(3,2),(3,3),(36,4)]∧fits cx [(3,0),(3,1),(3,2),(3,3),(36,4)] ti38.sz:=⟨⟨rfl,rfl,rfl,rfl,rfl,trivial⟩,⟨(by decide:_≤_),(by decide:_≤_),(by decide:_≤_),(by decide:_≤_),(by decide:_≤_),trivial⟩⟩
theorem src42:srcOK cx 42:=show ti42.known=true from rfl
theorem bo42:bytesOK cx 42:=by unfold bytesOK;rw[kd42];trivial
theorem src46:srcOK cx 46:=show ti46.known=true from rfl
theorem all46:allTy cx [(3,0),(3,1),(3,2),(42,3)]∧fits cx [(3,0),(3,1),(3,2),(42,3)] ti46.sz:=⟨⟨rfl,rfl,rfl,rfl,trivial⟩,⟨(by decide:_≤_),(by decide:_≤_),(by decide:_≤_),(by decide:_≤_),trivial⟩⟩
theorem src47:srcOK cx 47:=show ti47.known=true from rfl
theorem bo47:bytesOK cx 47:=by unfold bytesOK;rw[kd47];trivial
theorem src49:srcOK cx 49:=show ti49.known=true from rfl
theorem all49:allTy cx [(3,0),(3,1),(47,2),(4,3)]∧fits cx [(3,0),(3,1),(47,2),(4,3)] ti49.sz:=⟨⟨rfl,rfl,rfl,rfl,trivial⟩,⟨(by decide:_≤_),(by decide:_≤_),(by decide:_≤_),(by decide:_≤_),trivial⟩⟩
theorem zrw49 (j:Nat) (hj:j<Enc.sz Tape_api):Wk (ti49.z j) (ec (Tape_api.mk (0:Int) (0:Int) ([]:(List (List UInt8))) false) j)∧∀h:Hp,oneA h (ti49.z j):=by
 rw[ti49_z]
 match j,hj with
 |0,_=>exact ⟨Wk.refl _,fun _=>trivial⟩
 |1,_=>exact ⟨Wk.refl _,fun _=>trivial⟩
 |2,_=>exact ⟨Wk.nil,fun _=>trivial⟩
 |3,_=>exact ⟨Wk.refl _,fun _=>trivial⟩
 |n+4,hj=>exact absurd hj (by simp[Enc.sz])
theorem src50:srcOK cx 50:=show ti50.known=true from rfl
theorem src54:srcOK cx 54:=show ti54.known=true from rfl
theorem bo54:bytesOK cx 54:=by unfold bytesOK;rw[kd54];trivial
theorem src62:srcOK cx 62:=show ti62.known=true from rfl
theorem src72:srcOK cx 72:=show ti72.known=true from rfl
theorem src75:srcOK cx 75:=show ti75.known=true from rfl
theorem src77:srcOK cx 77:=show ti77.known=true from rfl
theorem all77:allTy cx [(42,0)]∧fits cx [(42,0)] ti77.sz:=⟨⟨rfl,trivial⟩,⟨(by decide:_≤_),trivial⟩⟩
theorem src80:srcOK cx 80:=show ti80.known=true from rfl
theorem src81:srcOK cx 81:=show ti81.known=true from rfl
theorem src83:srcOK cx 83:=show ti83.known=true from rfl
theorem bo83:bytesOK cx 83:=by unfold bytesOK;rw[kd83];trivial
theorem src90:srcOK cx 90:=show ti90.known=true from rfl
theorem src91:srcOK cx 91:=show ti91.known=true from rfl
theorem bo91:bytesOK cx 91:=by unfold bytesOK;rw[kd91];trivial
theorem src108:srcOK cx 108:=show ti108.known=true from rfl
theorem src117:srcOK cx 117:=show ti117.known=true from rfl
theorem src119:srcOK cx 119:=show ti119.known=true from rfl
theorem all119:allTy cx [(42,0)]∧fits cx [(42,0)] ti119.sz:=⟨⟨rfl,trivial⟩,⟨(by decide:_≤_),trivial⟩⟩
theorem src123:srcOK cx 123:=show ti123.known=true from rfl
theorem src132:srcOK cx 132:=show ti132.known=true from rfl
theorem src134:srcOK cx 134:=show ti134.known=true from rfl
theorem src135:srcOK cx 135:=show ti135.known=true from rfl
theorem bo135:bytesOK cx 135:=by unfold bytesOK;rw[kd135];trivial
theorem src137:srcOK cx 137:=show ti137.known=true from rfl
theorem src151:srcOK cx 151:=show ti151.known=true from rfl
theorem all151:allTy cx [(42,0),(4,1)]∧fits cx [(42,0),(4,1)] ti151.sz:=⟨⟨rfl,rfl,trivial⟩,⟨(by decide:_≤_),(by decide:_≤_),trivial⟩⟩
theorem src154:srcOK cx 154:=show ti154.known=true from rfl
theorem all154:allTy cx [(42,0),(4,1)]∧fits cx [(42,0),(4,1)] ti154.sz:=⟨⟨rfl,rfl,trivial⟩,⟨(by decide:_≤_),(by decide:_≤_),trivial⟩⟩
theorem src155:srcOK cx 155:=show ti155.known=true from rfl
abbrev TLc.alO:= @TL.alO cx
abbrev TLc.appG:= @TL.appG cx
abbrev TLc.appN:= @TL.appN cx
abbrev TLc.appNW:= @TL.appNW cx
abbrev TLc.appO:= @TL.appO cx
abbrev TLc.appOZ:= @TL.appOZ cx
abbrev TLc.boxO:= @TL.boxO cx
abbrev TLc.boxV:= @TL.boxV cx
abbrev TLc.copyO:= @TL.copyO cx
abbrev TLc.cvtF:= @TL.cvtF cx
abbrev TLc.eqNilO:= @TL.eqNilO cx
abbrev TLc.eqNilU:= @TL.eqNilU cx
abbrev TLc.lit:= @TL.lit cx
abbrev TLc.litO:= @TL.litO cx
abbrev TLc.litR:= @TL.litR cx
abbrev TLc.litZ:= @TL.litZ cx
abbrev TLc.mkG:= @TL.mkG cx
abbrev TLc.mkO:= @TL.mkO cx
abbrev TLc.mkV:= @TL.mkV cx
abbrev TLc.p:= @TL.p cx
abbrev TLc.stG:= @TL.stG cx
abbrev TLc.stV:= @TL.stV cx
abbrev TLc.stW:= @TL.stW cx
section
variable {nt:Nat} {K:Env→Hp→Prop} {Q:Post} {env:Env} {h:Hp} {d:Nat} {ks:List KO} {v:AV}
theorem P1 {g:Option (Nat×Bool)} {i:I} (hp:PVok cx h env i true v) (hg:gcOf env g=some true) (hd:Nat.ble (d+1) nt=true) (rest:TL Tryz.prog nt ks K ((d,true,v)::env) h):TL Tryz.prog nt (⟨some d,g,i⟩::ks) K env h:=TL.p (C:=cx) hp hg hd rest
theorem M {x:AM.X} (hx:ev env x=(true,v)) (hd:Nat.ble (d+1) nt=true) (rest:TL Tryz.prog nt ks K ((d,true,v)::env) h):TL Tryz.prog nt (⟨some d,none,.mv x⟩::ks) K env h:=TL.p (C:=cx) (gc:=true) (p_mv hx) rfl hd rest
theorem D0 {hS:Hp} {r:List (Nat×Nat)} {i:Nat} {g:Option (Nat×Bool)} {I':I} (hk:ks[i]? =some ⟨some d,g,I'⟩) (hp:PVok cx hS (keepE (readsK ⟨some d,g,I'⟩) env) I' true v) (hg:gcOf env g=some true) (hd:Nat.ble (d+1) nt=true) (rest:DRun Tryz.prog nt hS ks K r ((d,true,v)::env) h):DRun Tryz.prog nt hS ks K ((0,i)::r) env h:=DR0 (gc:=true) hk (vok_p (C:=cx) hp) hg hd rest
theorem DM {hS:Hp} {r:List (Nat×Nat)} {i:Nat} {x:AM.X} (hk:ks[i]? =some ⟨some d,none,.mv x⟩) (hx:ev (keepE (readsK ⟨some d,none,.mv x⟩) env) x=(true,v)) (hd:Nat.ble (d+1) nt=true) (rest:DRun Tryz.prog nt hS ks K r ((d,true,v)::env) h):DRun Tryz.prog nt hS ks K ((0,i)::r) env h:=D0 hk (p_mv hx) rfl hd rest
theorem R1 {α:Type} [Enc α] {t:Nat} {e r:α} (hl:lk env t=some (true,Enc.v e)) (hX:some e=some r):RetQ [t] (fun v _=>v=Enc.v r∧v.val) .ret env h:=ret1 (v:=Enc.v e) hl (by obtain rfl:=some_in hX;rfl) (v_val _)
theorem SR {y:KC} (k:∀K:Env→Hp→Prop,(∀env h,TK Tryz.prog nt y Q env h→K env h)→TL Tryz.prog nt ks (fun env h=>thenQ K Q .normal env h) env h):TK Tryz.prog nt (.seq (.reg ks) y) Q env h:=TK.seq_k fun K hK=>TK.reg (k K hK)
end
end Go.Proofs.YtfpldlnbhjmckaaGreat
