import Derived.Test.YtndjbcnpgggddaaXFn
import Derived.Test.YtndjbcnpgggddaaXS
import Derived.Test.YtndjbcnpgggddaaAmK0
namespace Go.Proofs.Ytndjbcnpgggddaa
open Go.AM Go.AX
set_option linter.unusedVariables false
set_option maxRecDepth 20000
theorem ok_cartridgeref1_Writer_Byte (c4:UInt8) (B1:(List UInt8)) (b2:Nat) (b3:Nat) (nd:Nd [(b2,RV 102 [OL (α:=UInt8) b3 B1]),(b3,RL (α:=UInt8) 5 B1)]) (r:(List UInt8)) (hX:X.cartridgeref1_Writer_Byte c4 B1=some r):TCX Try.prog 62 [.ref b2 0 1,Enc.v (c4:UInt8)] [(b2,RV 102 [OL (α:=UInt8) b3 B1]),(b3,RL (α:=UInt8) 5 B1)] (fun rv h'=>∃b7,rv= .tup 0 (ofL [])∧h'=[(b2,RV 102 [OL (α:=UInt8) b7 r]),(b7,RL (α:=UInt8) 5 r)]):=by
 refine TCX.of b62 (Nat.le_of_ble_eq_true rfl) ?_
 unfold k62
 unfold X.cartridgeref1_Writer_Byte at hX
 refine TK.endK fun KE hKE=>?_
 refine TK.reg ?_
 refine M rfl rfl (M rfl rfl (P1 (p_ncR rfl (fun _=>refOK_of nd (j:=0) rfl rfl)) rfl rfl (P1 (p_faV fs102_0 Dc rfl nd (j:=0) rfl rfl) rfl rfl (P1 (p_ldV (v:=OL b3 B1) ty25 rfl rfl nd (j:=0) rfl rfl rfl rfl rfl) rfl rfl (M rfl rfl ?_)))))
 refine TLc.lit ([c4]:List UInt8) kd25 ty5 rfl ⟨⟨rfl,rfl⟩,trivial⟩ rfl rfl rfl ?_
 obtain ⟨u5,hu5,hX⟩:=bind_some hX
 refine TLc.appO nd kd25 bo25 ty5 rfl rfl (j:=1) rfl rfl (Src_L _) Dc (need_t hu5) rfl fun nd=>?_
 refine P1 (p_ncR rfl (fun _=>refOK_of nd (j:=0) rfl rfl)) rfl rfl (P1 (p_faV fs102_0 Dc rfl nd (j:=0) rfl rfl) rfl rfl ?_)
 refine TLc.stV (lu:=[OL (α:=UInt8) b3 (B1++([c4]:List UInt8))]) nd ty25 rfl (j:=0) rfl rfl rfl (Cells_rs (refOK_of nd (j:=1) rfl rfl)) rfl rfl [OL (α:=UInt8) b3 (B1++([c4]:List UInt8))] rfl fun nd=>?_
 refine TL.nil (hKE _ _ (TL.nil ?_))
 try dsimp only[thenQ]
 refine RetQ_end ?_
 exact retX (v:= .tup 0 (ofL [])) res0 (by obtain rfl:=some_in hX;exact ⟨b3,rfl,rfl⟩) nd (inH_tup (l:=[]) trivial) ⟨rowIn_RV ⟨inH_rs nd (j:=1) rfl,trivial⟩,rowIn_RL,trivial⟩
theorem ok_cartridgeref1_Writer_Int (n4:Int) (B1:(List UInt8)) (b2:Nat) (b3:Nat) (nd:Nd [(b2,RV 102 [OL (α:=UInt8) b3 B1]),(b3,RL (α:=UInt8) 5 B1)]) (r:(List UInt8)) (hX:X.cartridgeref1_Writer_Int n4 B1=some r):TCX Try.prog 63 [.ref b2 0 1,Enc.v (n4:Int)] [(b2,RV 102 [OL (α:=UInt8) b3 B1]),(b3,RL (α:=UInt8) 5 B1)] (fun rv h'=>∃b8,rv= .tup 0 (ofL [])∧h'=[(b2,RV 102 [OL (α:=UInt8) b8 r]),(b8,RL (α:=UInt8) 5 r)]):=by
 refine TCX.of b63 (Nat.le_of_ble_eq_true rfl) ?_
 unfold k63
 unfold X.cartridgeref1_Writer_Int at hX
 refine TK.endK fun KE hKE=>?_
 refine SR fun K5 hK5=>M rfl rfl (P1 (p_cvt src3 kd145 rfl (cv_u64 _)) rfl rfl (M rfl rfl (TL.nil (hK5 _ _ ?_))))
 refine TK.reg ?_
 refine M rfl rfl (M rfl rfl (P1 (p_ncR rfl (fun _=>refOK_of nd (j:=0) rfl rfl)) rfl rfl (P1 (p_faV fs102_0 Dc rfl nd (j:=0) rfl rfl) rfl rfl (P1 (p_ldV (v:=OL b3 B1) ty25 rfl rfl nd (j:=0) rfl rfl rfl rfl rfl) rfl rfl (M rfl rfl (P1 (pu64_shr (a:=(u64 n4)) (b:=24) rfl rfl) rfl rfl (P1 (pu64_and (a:=(shru64 (u64 n4) 24)) (b:=(255:UInt64)) rfl rfl) rfl rfl ?_)))))))
 refine P1 (p_cvt src145 kd5 rfl (cv_u8 _)) rfl rfl (M rfl rfl (P1 (pu64_shr (a:=(u64 n4)) (b:=16) rfl rfl) rfl rfl (P1 (pu64_and (a:=(shru64 (u64 n4) 16)) (b:=(255:UInt64)) rfl rfl) rfl rfl (P1 (p_cvt src145 kd5 rfl (cv_u8 _)) rfl rfl (M rfl rfl (P1 (pu64_shr (a:=(u64 n4)) (b:=8) rfl rfl) rfl rfl (P1 (pu64_and (a:=(shru64 (u64 n4) 8)) (b:=(255:UInt64)) rfl rfl) rfl rfl ?_)))))))
 refine P1 (p_cvt src145 kd5 rfl (cv_u8 _)) rfl rfl (M rfl rfl (P1 (pu64_and (a:=(u64 n4)) (b:=(255:UInt64)) rfl rfl) rfl rfl (P1 (p_cvt src145 kd5 rfl (cv_u8 _)) rfl rfl ?_)))
 refine TLc.lit ([(u8 (((shru64 (u64 n4) 24)&&&(255:UInt64)).toNat:Int)),(u8 (((shru64 (u64 n4) 16)&&&(255:UInt64)).toNat:Int)),(u8 (((shru64 (u64 n4) 8)&&&(255:UInt64)).toNat:Int)),(u8 (((u64 n4)&&&(255:UInt64)).toNat:Int))]:List UInt8) kd25 ty5 rfl ⟨⟨rfl,rfl⟩,⟨rfl,rfl⟩,⟨rfl,rfl⟩,⟨rfl,rfl⟩,trivial⟩ rfl rfl rfl ?_
 obtain ⟨u6,hu6,hX⟩:=bind_some hX
 refine TLc.appO nd kd25 bo25 ty5 rfl rfl (j:=1) rfl rfl (Src_L _) Dc (need_t hu6) rfl fun nd=>?_
 refine P1 (p_ncR rfl (fun _=>refOK_of nd (j:=0) rfl rfl)) rfl rfl (P1 (p_faV fs102_0 Dc rfl nd (j:=0) rfl rfl) rfl rfl ?_)
 refine TLc.stV (lu:=[OL (α:=UInt8) b3 (B1++([(u8 (((shru64 (u64 n4) 24)&&&(255:UInt64)).toNat:Int)),(u8 (((shru64 (u64 n4) 16)&&&(255:UInt64)).toNat:Int)),(u8 (((shru64 (u64 n4) 8)&&&(255:UInt64)).toNat:Int)),(u8 (((u64 n4)&&&(255:UInt64)).toNat:Int))]:List UInt8))]) nd ty25 rfl (j:=0) rfl rfl rfl (Cells_rs (refOK_of nd (j:=1) rfl rfl)) rfl rfl [OL (α:=UInt8) b3 (B1++([(u8 (((shru64 (u64 n4) 24)&&&(255:UInt64)).toNat:Int)),(u8 (((shru64 (u64 n4) 16)&&&(255:UInt64)).toNat:Int)),(u8 (((shru64 (u64 n4) 8)&&&(255:UInt64)).toNat:Int)),(u8 (((u64 n4)&&&(255:UInt64)).toNat:Int))]:List UInt8))] rfl fun nd=>?_
 refine TL.nil (hKE _ _ (TL.nil ?_))
 try dsimp only[thenQ]
 refine RetQ_end ?_
 exact retX (v:= .tup 0 (ofL [])) res0 (by obtain rfl:=some_in hX;exact ⟨b3,rfl,rfl⟩) nd (inH_tup (l:=[]) trivial) ⟨rowIn_RV ⟨inH_rs nd (j:=1) rfl,trivial⟩,rowIn_RL,trivial⟩
theorem ok_cartridgeref1_More (sum1:UInt32) (b2:(List UInt8)) (r:UInt32) (hX:X.cartridgeref1_More sum1 b2=some r):Fun Try.prog 102 [Enc.v (sum1:UInt32),Enc.v (b2:(List UInt8))] (·=Enc.v (r:UInt32)):=by
 refine Fun.of b102 (Nat.le_of_ble_eq_true rfl) (allVal.mem ⟨(by exact (v_val _)),(by exact (v_val _)),trivial⟩) ?_
 unfold k102
 have nd:Nd []:=Nd_nil
 unfold X.cartridgeref1_More at hX
 refine SR fun K3 hK3=>M rfl rfl (TL.nil (hK3 _ _ (SR fun K4 hK4=>M rfl rfl (P1 (p32_xor (a:=sum1) (b:=(4294967295:UInt32)) rfl rfl) rfl rfl (M rfl rfl (TL.nil (hK4 _ _ ?_)))))))
 refine TK.seq_k fun K5 hK5=>?_
 refine SR fun K6 hK6=>M rfl rfl (TL.nil (hK6 _ _ ?_))
 refine TK.block ?_
 obtain ⟨o7,hO7,hA7⟩:=bind_some hX
 have E7:∀(c10:UInt32) (env:Env) (h:Hp),(∃_u:Unit,keepE [5] env=[(5,true,Enc.v c10)]∧Nd []∧HSub [] h)→X.cartridgeref1_More_e7 c10=some r→K5 env h:=by
  intro c10 env h hE hX
  obtain ⟨_u,henv,nd,hs⟩:=hE
  unfold X.cartridgeref1_More_e7 at hX
  refine hK5 _ _ (TK.keep [5] ?_)
  rw[henv]
  refine TK.subH hs ?_
  refine SR fun K11 hK11=>M rfl rfl (P1 (p32_xor (a:=c10) (b:=(4294967295:UInt32)) rfl rfl) rfl rfl (M rfl rfl (TL.nil (hK11 _ _ ?_))))
  refine TK.ret ?_
  try dsimp only[thenQ]
  exact R1 rfl hX
 refine TK.iter [1,5,6] (fun s env h=>match s with|(c8,i9)=>∃_u:Unit,env=[(1,true,Enc.v b2),(5,true,Enc.v c8),(6,true,Enc.v i9)]∧Nd []∧HSub [] h) hO7 ⟨(),rfl,Nd_nil,HSub.refl _⟩ ?_
 rintro ⟨c8,i9⟩ env h x7x ⟨_u,rfl,nd,hs⟩ hX hR7
 refine TK.subH hs ?_
 unfold X.cartridgeref1_More_s7 at hX
 try dsimp only at hX
 refine TK.seq_k fun K12 hK12=>?_
 refine SR fun K13 hK13=>M rfl rfl (M rfl rfl (P1 (p_lenL (xs:=b2) kd25 rfl) rfl rfl (P1 (p_lss rfl rfl) rfl rfl (TL.nil (hK13 _ _ ?_)))))
 refine TK.cond (b:=(decide (i9<(b2.length:Int)))) rfl (fun hc=>?_) (fun hc=>?_)
 ·have hX:=ite_t hc hX
  refine TK.skip ?_
  refine hK12 _ _ ?_
  refine TK.seq_k fun K14 hK14=>?_
  refine TK.block ?_
  refine SR fun K15 hK15=>M rfl rfl (M rfl rfl (M rfl rfl ?_))
  obtain ⟨e16,he16,hX⟩:=bind_some hX
  refine P1 (p_iaL (xs:=b2) kd25 ty5 rfl rfl rfl (fun _=>he16)) rfl rfl (P1 (p_ldE (xs:=b2) (a:=e16) (e16:UInt8) ty5 rfl rfl (fun _=>he16) rfl rfl rfl) rfl rfl (P1 (p_cvt src5 kd106 rfl (cv_u32 _)) rfl rfl (P1 (p32_xor (a:=c8) (b:=(u32 (e16.toNat:Int))) rfl rfl) rfl rfl (M rfl rfl (TL.nil (hK15 _ _ (SR fun K17 hK17=>M rfl rfl (TL.nil (hK17 _ _ ?_)))))))))
  refine TK.block ?_
  obtain ⟨o18,hO18,hA18⟩:=bind_some hX
  have E18:∀(c21:UInt32) (env:Env) (h:Hp),(∃_u:Unit,keepE [1,5,6] env=[(1,true,Enc.v b2),(5,true,Enc.v c21),(6,true,Enc.v i9)]∧Nd []∧HSub [] h)→X.cartridgeref1_More_e18 i9 c21=some x7x→K14 env h:=by
   intro c21 env h hE hX
   obtain ⟨_u,henv,nd,hs⟩:=hE
   unfold X.cartridgeref1_More_e18 at hX
   refine hK14 _ _ (TK.keep [1,5,6] ?_)
   rw[henv]
   refine TK.subH hs ?_
   refine TK.reg ?_
   refine M rfl rfl (P1 (p_add rfl rfl) rfl rfl (M rfl rfl (TL.nil ?_)))
   exact ⟨_,(some_in hX).symm,(),rfl,Nd_nil,HSub.refl _⟩
  refine TK.iter [1,5,6,7] (fun s env h=>match s with|(c19,k20)=>∃_u:Unit,env=[(1,true,Enc.v b2),(5,true,Enc.v c19),(6,true,Enc.v i9),(7,true,Enc.v k20)]∧Nd []∧HSub [] h) hO18 ⟨(),rfl,Nd_nil,HSub.refl _⟩ ?_
  rintro ⟨c19,k20⟩ env h x18x ⟨_u,rfl,nd,hs⟩ hX hR18
  refine TK.subH hs ?_
  unfold X.cartridgeref1_More_s18 at hX
  try dsimp only at hX
  refine TK.seq_k fun K22 hK22=>?_
  refine SR fun K23 hK23=>M rfl rfl (P1 (p_lss rfl rfl) rfl rfl (TL.nil (hK23 _ _ ?_)))
  refine TK.cond (b:=(decide (k20<(8:Int)))) rfl (fun hc=>?_) (fun hc=>?_)
  ·have hX:=ite_t hc hX
   refine TK.skip ?_
   refine hK22 _ _ ?_
   refine TK.seq_k fun K24 hK24=>?_
   have J24:∀(c25:UInt32) (env:Env) (h:Hp),(∃_u:Unit,keepE [1,5,6,7] env=[(1,true,Enc.v b2),(5,true,Enc.v c25),(6,true,Enc.v i9),(7,true,Enc.v k20)]∧Nd []∧HSub [] h)→X.cartridgeref1_More_j24 k20 c25=some x18x→K24 env h:=by
    intro c25 env h hE hX
    obtain ⟨_u,henv,nd,hs⟩:=hE
    unfold X.cartridgeref1_More_j24 at hX
    refine hK24 _ _ (TK.keep [1,5,6,7] ?_)
    rw[henv]
    refine TK.subH hs ?_
    refine TK.reg ?_
    refine M rfl rfl (P1 (p_add rfl rfl) rfl rfl (M rfl rfl (TL.nil ?_)))
    exact ⟨_,(some_in hX).symm,(),rfl,Nd_nil,HSub.refl _⟩
   refine TK.block ?_
   refine SR fun K26 hK26=>M rfl rfl (P1 (p32_and (a:=c19) (b:=(1:UInt32)) rfl rfl) rfl rfl (P1 (p32_eql (a:=(c19&&&(1:UInt32))) (b:=(1:UInt32)) rfl rfl) rfl rfl (TL.nil (hK26 _ _ ?_))))
   refine TK.cond (b:=((c19&&&(1:UInt32))==(1:UInt32))) rfl (fun hc=>?_) (fun hc=>?_)
   ·have hX:=ite_t hc hX
    refine TK.reg ?_
    refine M rfl rfl (P1 (p32_shr (a:=c19) (b:=1) rfl rfl) rfl rfl (P1 (p32_xor (a:=(shr32 c19 1)) (b:=(2197175160:UInt32)) rfl rfl) rfl rfl (M rfl rfl (TL.nil ?_))))
    exact J24 ((shr32 c19 1)^^^(2197175160:UInt32)) _ _ ⟨(),rfl,Nd_nil,HSub.refl _⟩ hX
   ·have hX:=ite_f hc hX
    refine TK.reg ?_
    refine M rfl rfl (P1 (p32_shr (a:=c19) (b:=1) rfl rfl) rfl rfl (M rfl rfl (TL.nil ?_)))
    exact J24 (shr32 c19 1) _ _ ⟨(),rfl,Nd_nil,HSub.refl _⟩ hX
  ·have hX:=ite_f hc hX
   refine TK.exit ?_
   obtain rfl:=hR18 _ (some_in hX).symm
   exact E18 c19 _ _ ⟨(),rfl,Nd_nil,HSub.refl _⟩ hA18
 ·have hX:=ite_f hc hX
  refine TK.exit ?_
  obtain rfl:=hR7 _ (some_in hX).symm
  exact E7 c8 _ _ ⟨(),rfl,Nd_nil,HSub.refl _⟩ hA7
theorem ok_cartridgeref1_Crc (b1:(List UInt8)) (r:UInt32) (hX:X.cartridgeref1_Crc b1=some r):Fun Try.prog 64 [Enc.v (b1:(List UInt8))] (·=Enc.v (r:UInt32)):=by
 refine Fun.of b64 (Nat.le_of_ble_eq_true rfl) (allVal.mem ⟨(by exact (v_val _)),trivial⟩) ?_
 unfold k64
 have nd:Nd []:=Nd_nil
 unfold X.cartridgeref1_Crc at hX
 refine SR fun K2 hK2=>M rfl rfl (TL.nil (hK2 _ _ (SR fun K3 hK3=>M rfl rfl ?_)))
 obtain ⟨r4,hr4,hX⟩:=bind_some hX
 refine TL.cvX rfl rfl rfl (fun _=>⟨rfl,⟨rfl,⟨rfl,trivial⟩⟩⟩) (fun e=>ok_cartridgeref1_More (0:UInt32) b1 _ hr4) ?_
 refine M rfl rfl (TL.nil (hK3 _ _ ?_))
 refine TK.ret ?_
 try dsimp only[thenQ]
 exact R1 rfl hX
theorem ok_cartridgeref1_PutFrame (u1:Unit_api) (r:((List UInt8)×Int)) (hX:X.cartridgeref1_PutFrame u1=some r):Fun Try.prog 37 [Enc.v (u1:Unit_api)] (·= .tup 2 (ofL [Enc.v r.1,Enc.v r.2])):=by
 refine Fun.of b37 (Nat.le_of_ble_eq_true rfl) (allVal.mem ⟨(by exact (v_val _)),trivial⟩) ?_
 unfold k37
 have nd:Nd []:=Nd_nil
 unfold X.cartridgeref1_PutFrame at hX
 refine SR fun K2 hK2=>?_
 refine TLc.boxV (lu:=[Enc.v u1.Kind,Enc.v u1.Label,Enc.v u1.Number,Enc.v u1.Load]) nd rfl (Cells_v (u1:Unit_api)) rfl ?_
 refine M rfl rfl (M rfl rfl (TL.nil (hK2 _ _ (SR fun K3 hK3=>M rfl rfl (TL.nil (hK3 _ _ ?_))))))
 refine TK.seq_k fun K4 hK4=>?_
 have J4:∀(most5:Int) (env:Env) (h:Hp),(∃_u:Unit,keepE [1,4] env=[(1,true,.vref (ofL [Enc.v u1.Kind,Enc.v u1.Label,Enc.v u1.Number,Enc.v u1.Load]) 4 0),(4,true,Enc.v most5)]∧Nd []∧HSub [] h)→X.cartridgeref1_PutFrame_j4 u1 most5=some r→K4 env h:=by
  intro most5 env h hE hX
  obtain ⟨_u,henv,nd,hs⟩:=hE
  unfold X.cartridgeref1_PutFrame_j4 at hX
  refine hK4 _ _ (TK.keep [1,4] ?_)
  rw[henv]
  refine TK.subH hs ?_
  refine TK.seq_k fun K6 hK6=>?_
  refine TK.block ?_
  refine SR fun K7 hK7=>P1 (p_faR fs68_0 Dc rfl) rfl rfl (P1 (p_ldR (v:=Enc.v u1.Kind) ty3 rfl rfl rfl rfl rfl rfl) rfl rfl (P1 (p_lss rfl rfl) rfl rfl (M rfl rfl ?_)))
  refine TLc.p (gc:=(!((decide (u1.Kind<(1:Int)))))) (p_faR fs68_0 Dc rfl (hg:=fun e=>rfl)) (gcF1 rfl) rfl ?_
  refine TLc.p (gc:=(!((decide (u1.Kind<(1:Int)))))) (p_ldR (v:=Enc.v u1.Kind) ty3 rfl rfl rfl rfl rfl rfl (hg:=fun e=>e)) (gcF1 rfl) rfl ?_
  refine TLc.p (gc:=(!((decide (u1.Kind<(1:Int)))))) (p_gtr rfl rfl (hg:=fun e=>⟨e,rfl⟩)) (gcF1 rfl) rfl ?_
  refine P1 (p_or rfl rfl (fun e=>⟨rfl,fun h=>(not_t h)⟩)) rfl rfl (M rfl rfl ?_)
  refine TLc.p (gc:=(!(((decide (u1.Kind<(1:Int)))||(decide (u1.Kind>(6:Int))))))) (p_faR fs68_1 Dc rfl (hg:=fun e=>rfl)) (gcF1 rfl) rfl ?_
  refine TLc.p (gc:=(!(((decide (u1.Kind<(1:Int)))||(decide (u1.Kind>(6:Int))))))) (p_ldR (v:=Enc.v u1.Label) ty3 rfl rfl rfl rfl rfl rfl (hg:=fun e=>e)) (gcF1 rfl) rfl ?_
  refine TLc.p (gc:=(!(((decide (u1.Kind<(1:Int)))||(decide (u1.Kind>(6:Int))))))) (p_lss rfl rfl (hg:=fun e=>⟨e,rfl⟩)) (gcF1 rfl) rfl ?_
  refine P1 (p_or rfl rfl (fun e=>⟨rfl,fun h=>(not_t h)⟩)) rfl rfl (M rfl rfl ?_)
  refine TLc.p (gc:=(!((((decide (u1.Kind<(1:Int)))||(decide (u1.Kind>(6:Int))))||(decide (u1.Label<(1:Int))))))) (p_faR fs68_1 Dc rfl (hg:=fun e=>rfl)) (gcF1 rfl) rfl ?_
  refine TLc.p (gc:=(!((((decide (u1.Kind<(1:Int)))||(decide (u1.Kind>(6:Int))))||(decide (u1.Label<(1:Int))))))) (p_ldR (v:=Enc.v u1.Label) ty3 rfl rfl rfl rfl rfl rfl (hg:=fun e=>e)) (gcF1 rfl) rfl ?_
  refine TLc.p (gc:=(!((((decide (u1.Kind<(1:Int)))||(decide (u1.Kind>(6:Int))))||(decide (u1.Label<(1:Int))))))) (p_gtr rfl rfl (hg:=fun e=>⟨e,rfl⟩)) (gcF1 rfl) rfl ?_
  refine P1 (p_or rfl rfl (fun e=>⟨rfl,fun h=>(not_t h)⟩)) rfl rfl (M rfl rfl ?_)
  refine TLc.p (gc:=(!(((((decide (u1.Kind<(1:Int)))||(decide (u1.Kind>(6:Int))))||(decide (u1.Label<(1:Int))))||(decide (u1.Label>(2147483647:Int))))))) (p_faR fs68_2 Dc rfl (hg:=fun e=>rfl)) (gcF1 rfl) rfl ?_
  refine TLc.p (gc:=(!(((((decide (u1.Kind<(1:Int)))||(decide (u1.Kind>(6:Int))))||(decide (u1.Label<(1:Int))))||(decide (u1.Label>(2147483647:Int))))))) (p_ldR (v:=Enc.v u1.Number) ty3 rfl rfl rfl rfl rfl rfl (hg:=fun e=>e)) (gcF1 rfl) rfl ?_
  refine TLc.p (gc:=(!(((((decide (u1.Kind<(1:Int)))||(decide (u1.Kind>(6:Int))))||(decide (u1.Label<(1:Int))))||(decide (u1.Label>(2147483647:Int))))))) (p_lss rfl rfl (hg:=fun e=>⟨e,rfl⟩)) (gcF1 rfl) rfl ?_
  refine P1 (p_or rfl rfl (fun e=>⟨rfl,fun h=>(not_t h)⟩)) rfl rfl (M rfl rfl ?_)
  refine TLc.p (gc:=(!((((((decide (u1.Kind<(1:Int)))||(decide (u1.Kind>(6:Int))))||(decide (u1.Label<(1:Int))))||(decide (u1.Label>(2147483647:Int))))||(decide (u1.Number<(0:Int))))))) (p_faR fs68_2 Dc rfl (hg:=fun e=>rfl)) (gcF1 rfl) rfl ?_
  refine TLc.p (gc:=(!((((((decide (u1.Kind<(1:Int)))||(decide (u1.Kind>(6:Int))))||(decide (u1.Label<(1:Int))))||(decide (u1.Label>(2147483647:Int))))||(decide (u1.Number<(0:Int))))))) (p_ldR (v:=Enc.v u1.Number) ty3 rfl rfl rfl rfl rfl rfl (hg:=fun e=>e)) (gcF1 rfl) rfl ?_
  refine TLc.p (gc:=(!((((((decide (u1.Kind<(1:Int)))||(decide (u1.Kind>(6:Int))))||(decide (u1.Label<(1:Int))))||(decide (u1.Label>(2147483647:Int))))||(decide (u1.Number<(0:Int))))))) (p_gtr rfl rfl (hg:=fun e=>⟨e,rfl⟩)) (gcF1 rfl) rfl ?_
  refine P1 (p_or rfl rfl (fun e=>⟨rfl,fun h=>(not_t h)⟩)) rfl rfl (M rfl rfl (TL.nil (hK7 _ _ ?_)))
  refine TK.cond (b:=((((((decide (u1.Kind<(1:Int)))||(decide (u1.Kind>(6:Int))))||(decide (u1.Label<(1:Int))))||(decide (u1.Label>(2147483647:Int))))||(decide (u1.Number<(0:Int))))||(decide (u1.Number>(2147483647:Int))))) rfl (fun hc=>?_) (fun hc=>?_)
  ·have hX:=ite_t hc hX
   refine SR fun K8 hK8=>M rfl rfl (M rfl rfl (TL.nil (hK8 _ _ ?_)))
   refine TK.wk 2 (L ([]:(List UInt8))) rfl Wk_nil ?_
   refine TK.ret ?_
   try dsimp only[thenQ]
   exact retN (vs:=[Enc.v (([]:(List UInt8)):(List UInt8)),Enc.v ((1:Int):Int)]) ⟨rfl,rfl,trivial⟩ (by obtain rfl:=some_in hX;rfl) (allVal.mem ⟨v_val _,v_val _,trivial⟩)
  ·have hX:=ite_f hc hX
   refine SR fun K9 hK9=>P1 (p_faR fs68_3 Dc rfl) rfl rfl (P1 (p_ldR (v:=Enc.v u1.Load) ty25 rfl rfl rfl rfl rfl rfl) rfl rfl (P1 (p_lenL (xs:=u1.Load) kd25 rfl) rfl rfl (M rfl rfl (P1 (p_gtr rfl rfl) rfl rfl (M rfl rfl (TL.nil (hK9 _ _ ?_)))))))
   refine TK.cond (b:=(decide ((u1.Load.length:Int)>most5))) rfl (fun hc=>?_) (fun hc=>?_)
   ·have hX:=ite_t hc hX
    refine SR fun K10 hK10=>M rfl rfl (M rfl rfl (TL.nil (hK10 _ _ ?_)))
    refine TK.wk 2 (L ([]:(List UInt8))) rfl Wk_nil ?_
    refine TK.ret ?_
    try dsimp only[thenQ]
    exact retN (vs:=[Enc.v (([]:(List UInt8)):(List UInt8)),Enc.v ((4:Int):Int)]) ⟨rfl,rfl,trivial⟩ (by obtain rfl:=some_in hX;rfl) (allVal.mem ⟨v_val _,v_val _,trivial⟩)
   ·have hX:=ite_f hc hX
    refine TK.skip ?_
    refine hK6 _ _ (SR fun K11 hK11=>P1 (p_bld (l:=[.nils]) ty102 rfl all102 rfl (fun _=>trivial)) rfl rfl ?_)
    refine TLc.boxO (lu:=[.nils]) nd rfl (Cells_agg rfl (allA.mem ⟨trivial,trivial⟩)) rfl fun b12 nd=>?_
    refine M rfl rfl (TL.nil (hK11 _ _ ?_))
    refine TK.ownC (α:=UInt8) nd (j:=0) rfl 0 5 (.inl rfl) fun b13 nd=>?_
    refine SR fun K14 hK14=>M rfl rfl (P1 (p_faR fs68_0 Dc rfl) rfl rfl (P1 (p_ldR (v:=Enc.v u1.Kind) ty3 rfl rfl rfl rfl rfl rfl) rfl rfl (P1 (p_cvt src3 kd5 rfl (cv_u8 _)) rfl rfl ?_)))
    obtain ⟨r15,hr15,hX⟩:=bind_some hX
    refine TL.pick [1,0] nd Dc fun nd=>?_
    refine TL.tcX [(b12,RV 102 [OL (α:=UInt8) b13 ([]:List UInt8)]),(b13,RL (α:=UInt8) 5 ([]:List UInt8))] [] rfl nd (dlt rfl) rfl ⟨rfl,⟨rfl,⟨rfl,trivial⟩⟩⟩ (ok_cartridgeref1_Writer_Byte (u8 u1.Kind) ([]:List UInt8) b12 b13 (Nd.take nd 2 rfl) _ hr15) ?_
    rintro _ _ hQ nd
    obtain ⟨b17,rfl,rfl⟩:=hQ
    refine TL.nil (hK14 _ _ (SR fun K18 hK18=>M rfl rfl (P1 (p_faR fs68_1 Dc rfl) rfl rfl (P1 (p_ldR (v:=Enc.v u1.Label) ty3 rfl rfl rfl rfl rfl rfl) rfl rfl ?_))))
    obtain ⟨r19,hr19,hX⟩:=bind_some hX
    refine TL.tcX [(b12,RV 102 [OL b17 r15]),(b17,RL (α:=UInt8) 5 r15)] [] rfl nd (dlt rfl) rfl ⟨rfl,⟨rfl,⟨rfl,trivial⟩⟩⟩ (ok_cartridgeref1_Writer_Int u1.Label r15 b12 b17 (Nd.take nd 2 rfl) _ hr19) ?_
    rintro _ _ hQ nd
    obtain ⟨b21,rfl,rfl⟩:=hQ
    refine TL.nil (hK18 _ _ (SR fun K22 hK22=>M rfl rfl (P1 (p_faR fs68_2 Dc rfl) rfl rfl (P1 (p_ldR (v:=Enc.v u1.Number) ty3 rfl rfl rfl rfl rfl rfl) rfl rfl ?_))))
    obtain ⟨r23,hr23,hX⟩:=bind_some hX
    refine TL.tcX [(b12,RV 102 [OL b21 r19]),(b21,RL (α:=UInt8) 5 r19)] [] rfl nd (dlt rfl) rfl ⟨rfl,⟨rfl,⟨rfl,trivial⟩⟩⟩ (ok_cartridgeref1_Writer_Int u1.Number r19 b12 b21 (Nd.take nd 2 rfl) _ hr23) ?_
    rintro _ _ hQ nd
    obtain ⟨b25,rfl,rfl⟩:=hQ
    refine TL.nil (hK22 _ _ ?_)
    refine TK.seq_k fun K26 hK26=>?_
    have ndS:Nd []:=Nd.pick nd (is:=[]) Dc
    refine TK.drwX (h:=[(b12,RV 102 [OL b25 r23]),(b25,RL (α:=UInt8) 5 r23)]) (hS:=[]) [(0,0),(0,1),(1,2),(1,3),(1,4),(0,5),(0,6),(0,7),(0,8),(0,9),(0,10),(0,11),(0,12),(0,13),(0,14),(0,15),(2,16),(1,17),(1,18),(2,19)] mixed (by kernel_rfl) (HSub_app nd) ?_
    refine DM rfl rfl rfl ?_
    refine DM rfl rfl rfl ?_
    refine DR1 (gc:=true) rfl (vok_p (C:=cx) (p_ncR rfl (fun _=>refOK_of nd (j:=0) rfl rfl))) rfl rfl ?_
    refine DR1 (gc:=true) rfl (vok_p (C:=cx) (p_faV fs102_0 Dc rfl nd (j:=0) rfl rfl)) rfl rfl ?_
    refine DR1 (gc:=true) rfl (vok_p (C:=cx) (p_ldV (v:=OL b25 r23) ty25 rfl rfl nd (j:=0) rfl rfl rfl rfl rfl)) rfl rfl ?_
    refine D0 rfl (p_faR fs68_3 Dc rfl) rfl rfl ?_
    refine D0 rfl (p_ldR (v:=Enc.v u1.Load) ty25 rfl rfl rfl rfl rfl rfl) rfl rfl ?_
    refine D0 rfl (p_lenL (xs:=u1.Load) kd25 rfl) rfl rfl ?_
    refine D0 rfl (p_shr rfl rfl (fun _=>by omega)) rfl rfl ?_
    refine D0 rfl (p_cvt src3 kd5 rfl (cv_u8 _)) rfl rfl ?_
    refine D0 rfl (p_faR fs68_3 Dc rfl) rfl rfl ?_
    refine D0 rfl (p_ldR (v:=Enc.v u1.Load) ty25 rfl rfl rfl rfl rfl rfl) rfl rfl ?_
    refine D0 rfl (p_lenL (xs:=u1.Load) kd25 rfl) rfl rfl ?_
    refine D0 rfl (p_and64 rfl rfl) rfl rfl ?_
    refine D0 rfl (p_cvt src3 kd5 rfl (cv_u8 _)) rfl rfl ?_
    refine DR0 (gc:=true) rfl (vok_lit (C:=cx) ([(u8 (shr64 (u1.Load.length:Int) ((8:UInt64).toNat:Int))),(u8 (and64 (u1.Load.length:Int) (255:Int)))]:List UInt8) kd25 ty5 rfl ⟨⟨rfl,rfl⟩,⟨rfl,rfl⟩,trivial⟩ rfl rfl) rfl rfl ?_
    obtain ⟨u27,hu27,hX⟩:=bind_some hX
    refine DR2 rfl rfl ?_
    refine TLc.appO nd kd25 bo25 ty5 rfl rfl (j:=1) rfl rfl (Src_L _) Dc (need_t hu27) rfl fun nd=>?_
    refine TL.nil ⟨_,[(b12,RV 102 [OL b25 r23]),(b25,RL (α:=UInt8) 5 (r23++([(u8 (shr64 (u1.Load.length:Int) ((8:UInt64).toNat:Int))),(u8 (and64 (u1.Load.length:Int) (255:Int)))]:List UInt8)))],rfl,rfl,HSub_app nd,?_⟩
    refine DR1 (gc:=true) rfl (vok_p (C:=cx) (p_ncR rfl (fun _=>refOK_of nd (j:=0) rfl rfl))) rfl rfl ?_
    refine DR1 (gc:=true) rfl (vok_p (C:=cx) (p_faV fs102_0 Dc rfl nd (j:=0) rfl rfl)) rfl rfl ?_
    refine DR2n rfl ?_
    refine TLc.stV (lu:=[OL (α:=UInt8) b25 (r23++([(u8 (shr64 (u1.Load.length:Int) ((8:UInt64).toNat:Int))),(u8 (and64 (u1.Load.length:Int) (255:Int)))]:List UInt8))]) nd ty25 rfl (j:=0) rfl rfl rfl (Cells_rs (refOK_of nd (j:=1) rfl rfl)) rfl rfl [OL (α:=UInt8) b25 (r23++([(u8 (shr64 (u1.Load.length:Int) ((8:UInt64).toNat:Int))),(u8 (and64 (u1.Load.length:Int) (255:Int)))]:List UInt8))] rfl fun nd=>?_
    refine TL.nil ⟨.nilp,[(b12,RV 102 [OL (α:=UInt8) b25 (r23++([(u8 (shr64 (u1.Load.length:Int) ((8:UInt64).toNat:Int))),(u8 (and64 (u1.Load.length:Int) (255:Int)))]:List UInt8))]),(b25,RL (α:=UInt8) 5 (r23++([(u8 (shr64 (u1.Load.length:Int) ((8:UInt64).toNat:Int))),(u8 (and64 (u1.Load.length:Int) (255:Int)))]:List UInt8)))],rfl,rfl,HSub_app nd,?_⟩
    refine DRend ?_
    refine hK26 _ _ ?_
    refine TK.seq_k fun K28 hK28=>?_
    have ndS:Nd []:=Nd.pick nd (is:=[]) Dc
    refine TK.drwX (h:=[(b12,RV 102 [OL (α:=UInt8) b25 (r23++([(u8 (shr64 (u1.Load.length:Int) ((8:UInt64).toNat:Int))),(u8 (and64 (u1.Load.length:Int) (255:Int)))]:List UInt8))]),(b25,RL (α:=UInt8) 5 (r23++([(u8 (shr64 (u1.Load.length:Int) ((8:UInt64).toNat:Int))),(u8 (and64 (u1.Load.length:Int) (255:Int)))]:List UInt8)))]) (hS:=[]) [(0,0),(0,1),(1,2),(1,3),(1,4),(0,5),(0,6),(2,7),(1,8),(1,9),(2,10)] mixed (by kernel_rfl) (HSub_app nd) ?_
    refine DM rfl rfl rfl ?_
    refine DM rfl rfl rfl ?_
    refine DR1 (gc:=true) rfl (vok_p (C:=cx) (p_ncR rfl (fun _=>refOK_of nd (j:=0) rfl rfl))) rfl rfl ?_
    refine DR1 (gc:=true) rfl (vok_p (C:=cx) (p_faV fs102_0 Dc rfl nd (j:=0) rfl rfl)) rfl rfl ?_
    refine DR1 (gc:=true) rfl (vok_p (C:=cx) (p_ldV (v:=OL (α:=UInt8) b25 (r23++([(u8 (shr64 (u1.Load.length:Int) ((8:UInt64).toNat:Int))),(u8 (and64 (u1.Load.length:Int) (255:Int)))]:List UInt8))) ty25 rfl rfl nd (j:=0) rfl rfl rfl rfl rfl)) rfl rfl ?_
    refine D0 rfl (p_faR fs68_3 Dc rfl) rfl rfl ?_
    refine D0 rfl (p_ldR (v:=Enc.v u1.Load) ty25 rfl rfl rfl rfl rfl rfl) rfl rfl ?_
    obtain ⟨u29,hu29,hX⟩:=bind_some hX
    refine DR2 rfl rfl ?_
    refine TLc.appO nd kd25 bo25 ty5 rfl rfl (j:=1) rfl rfl (Src_L _) Dc (need_t hu29) rfl fun nd=>?_
    refine TL.nil ⟨_,[(b12,RV 102 [OL (α:=UInt8) b25 (r23++([(u8 (shr64 (u1.Load.length:Int) ((8:UInt64).toNat:Int))),(u8 (and64 (u1.Load.length:Int) (255:Int)))]:List UInt8))]),(b25,RL (α:=UInt8) 5 ((r23++([(u8 (shr64 (u1.Load.length:Int) ((8:UInt64).toNat:Int))),(u8 (and64 (u1.Load.length:Int) (255:Int)))]:List UInt8))++u1.Load))],rfl,rfl,HSub_app nd,?_⟩
    refine DR1 (gc:=true) rfl (vok_p (C:=cx) (p_ncR rfl (fun _=>refOK_of nd (j:=0) rfl rfl))) rfl rfl ?_
    refine DR1 (gc:=true) rfl (vok_p (C:=cx) (p_faV fs102_0 Dc rfl nd (j:=0) rfl rfl)) rfl rfl ?_
    refine DR2n rfl ?_
    refine TLc.stV (lu:=[OL (α:=UInt8) b25 ((r23++([(u8 (shr64 (u1.Load.length:Int) ((8:UInt64).toNat:Int))),(u8 (and64 (u1.Load.length:Int) (255:Int)))]:List UInt8))++u1.Load)]) nd ty25 rfl (j:=0) rfl rfl rfl (Cells_rs (refOK_of nd (j:=1) rfl rfl)) rfl rfl [OL (α:=UInt8) b25 ((r23++([(u8 (shr64 (u1.Load.length:Int) ((8:UInt64).toNat:Int))),(u8 (and64 (u1.Load.length:Int) (255:Int)))]:List UInt8))++u1.Load)] rfl fun nd=>?_
    refine TL.nil ⟨.nilp,[(b12,RV 102 [OL (α:=UInt8) b25 ((r23++([(u8 (shr64 (u1.Load.length:Int) ((8:UInt64).toNat:Int))),(u8 (and64 (u1.Load.length:Int) (255:Int)))]:List UInt8))++u1.Load)]),(b25,RL (α:=UInt8) 5 ((r23++([(u8 (shr64 (u1.Load.length:Int) ((8:UInt64).toNat:Int))),(u8 (and64 (u1.Load.length:Int) (255:Int)))]:List UInt8))++u1.Load))],rfl,rfl,HSub_app nd,?_⟩
    refine DRend ?_
    refine hK28 _ _ ?_
    refine TK.seq_k fun K30 hK30=>?_
    have ndS:Nd []:=Nd.pick nd (is:=[]) Dc
    refine TK.drwX (h:=[(b12,RV 102 [OL (α:=UInt8) b25 ((r23++([(u8 (shr64 (u1.Load.length:Int) ((8:UInt64).toNat:Int))),(u8 (and64 (u1.Load.length:Int) (255:Int)))]:List UInt8))++u1.Load)]),(b25,RL (α:=UInt8) 5 ((r23++([(u8 (shr64 (u1.Load.length:Int) ((8:UInt64).toNat:Int))),(u8 (and64 (u1.Load.length:Int) (255:Int)))]:List UInt8))++u1.Load))]) (hS:=[]) [(0,0),(0,1),(1,2),(1,3),(1,4),(0,5),(0,6),(0,7),(0,8),(0,9),(2,10),(1,11),(1,12),(2,13)] mixed (by kernel_rfl) (HSub_app nd) ?_
    refine DM rfl rfl rfl ?_
    refine DM rfl rfl rfl ?_
    refine DR1 (gc:=true) rfl (vok_p (C:=cx) (p_ncR rfl (fun _=>refOK_of nd (j:=0) rfl rfl))) rfl rfl ?_
    refine DR1 (gc:=true) rfl (vok_p (C:=cx) (p_faV fs102_0 Dc rfl nd (j:=0) rfl rfl)) rfl rfl ?_
    refine DR1 (gc:=true) rfl (vok_p (C:=cx) (p_ldV (v:=OL (α:=UInt8) b25 ((r23++([(u8 (shr64 (u1.Load.length:Int) ((8:UInt64).toNat:Int))),(u8 (and64 (u1.Load.length:Int) (255:Int)))]:List UInt8))++u1.Load)) ty25 rfl rfl nd (j:=0) rfl rfl rfl rfl rfl)) rfl rfl ?_
    refine DM rfl rfl rfl ?_
    refine D0 rfl (p_faR fs68_3 Dc rfl) rfl rfl ?_
    refine D0 rfl (p_ldR (v:=Enc.v u1.Load) ty25 rfl rfl rfl rfl rfl rfl) rfl rfl ?_
    refine D0 rfl (p_lenL (xs:=u1.Load) kd25 rfl) rfl rfl ?_
    refine D0 rfl (p_sub rfl rfl) rfl rfl ?_
    obtain ⟨u31,hu31,hX⟩:=bind_some hX
    refine DR2 rfl rfl ?_
    refine TLc.appOZ nd (0:UInt8) kd25 kd3 ty5 rfl (fun j hj=>by (have:j=0:=by simpa[Enc.sz] using hj);subst this;rfl) rfl (j:=1) rfl rfl (need_t hu31).1 Dc (need_t hu31).2 rfl fun nd=>?_
    refine TL.nil ⟨_,[(b12,RV 102 [OL (α:=UInt8) b25 ((r23++([(u8 (shr64 (u1.Load.length:Int) ((8:UInt64).toNat:Int))),(u8 (and64 (u1.Load.length:Int) (255:Int)))]:List UInt8))++u1.Load)]),(b25,RL (α:=UInt8) 5 (((r23++([(u8 (shr64 (u1.Load.length:Int) ((8:UInt64).toNat:Int))),(u8 (and64 (u1.Load.length:Int) (255:Int)))]:List UInt8))++u1.Load)++(List.replicate (wr (most5-(u1.Load.length:Int))).toNat (0:UInt8))))],rfl,rfl,HSub_app nd,?_⟩
    refine DR1 (gc:=true) rfl (vok_p (C:=cx) (p_ncR rfl (fun _=>refOK_of nd (j:=0) rfl rfl))) rfl rfl ?_
    refine DR1 (gc:=true) rfl (vok_p (C:=cx) (p_faV fs102_0 Dc rfl nd (j:=0) rfl rfl)) rfl rfl ?_
    refine DR2n rfl ?_
    refine TLc.stV (lu:=[OL (α:=UInt8) b25 (((r23++([(u8 (shr64 (u1.Load.length:Int) ((8:UInt64).toNat:Int))),(u8 (and64 (u1.Load.length:Int) (255:Int)))]:List UInt8))++u1.Load)++(List.replicate (wr (most5-(u1.Load.length:Int))).toNat (0:UInt8)))]) nd ty25 rfl (j:=0) rfl rfl rfl (Cells_rs (refOK_of nd (j:=1) rfl rfl)) rfl rfl [OL (α:=UInt8) b25 (((r23++([(u8 (shr64 (u1.Load.length:Int) ((8:UInt64).toNat:Int))),(u8 (and64 (u1.Load.length:Int) (255:Int)))]:List UInt8))++u1.Load)++(List.replicate (wr (most5-(u1.Load.length:Int))).toNat (0:UInt8)))] rfl fun nd=>?_
    refine TL.nil ⟨.nilp,[(b12,RV 102 [OL (α:=UInt8) b25 (((r23++([(u8 (shr64 (u1.Load.length:Int) ((8:UInt64).toNat:Int))),(u8 (and64 (u1.Load.length:Int) (255:Int)))]:List UInt8))++u1.Load)++(List.replicate (wr (most5-(u1.Load.length:Int))).toNat (0:UInt8)))]),(b25,RL (α:=UInt8) 5 (((r23++([(u8 (shr64 (u1.Load.length:Int) ((8:UInt64).toNat:Int))),(u8 (and64 (u1.Load.length:Int) (255:Int)))]:List UInt8))++u1.Load)++(List.replicate (wr (most5-(u1.Load.length:Int))).toNat (0:UInt8))))],rfl,rfl,HSub_app nd,?_⟩
    refine DRend ?_
    refine hK30 _ _ (SR fun K32 hK32=>M rfl rfl (M rfl rfl (P1 (p_ncR rfl (fun _=>refOK_of nd (j:=0) rfl rfl)) rfl rfl (P1 (p_faV fs102_0 Dc rfl nd (j:=0) rfl rfl) rfl rfl ?_))))
    refine P1 (p_ldV (v:=OL (α:=UInt8) b25 (((r23++([(u8 (shr64 (u1.Load.length:Int) ((8:UInt64).toNat:Int))),(u8 (and64 (u1.Load.length:Int) (255:Int)))]:List UInt8))++u1.Load)++(List.replicate (wr (most5-(u1.Load.length:Int))).toNat (0:UInt8)))) ty25 rfl rfl nd (j:=0) rfl rfl rfl rfl rfl) rfl rfl ?_
    obtain ⟨r33,hr33,hX⟩:=bind_some hX
    refine TL.lookX [L (((r23++([(u8 (shr64 (u1.Load.length:Int) ((8:UInt64).toNat:Int))),(u8 (and64 (u1.Load.length:Int) (255:Int)))]:List UInt8))++u1.Load)++(List.replicate (wr (most5-(u1.Load.length:Int))).toNat (0:UInt8)))] rfl rfl rfl (fun _=>⟨rfl,⟨rfl,trivial⟩⟩) ⟨look_OL nd (j:=1) rfl,trivial⟩ (fun e=>ok_cartridgeref1_Crc (((r23++([(u8 (shr64 (u1.Load.length:Int) ((8:UInt64).toNat:Int))),(u8 (and64 (u1.Load.length:Int) (255:Int)))]:List UInt8))++u1.Load)++(List.replicate (wr (most5-(u1.Load.length:Int))).toNat (0:UInt8))) _ hr33) (trivial) ?_
    refine P1 (p_cvt src106 kd3 rfl (cv_32 r33)) rfl rfl ?_
    obtain ⟨r34,hr34,hX⟩:=bind_some hX
    refine TL.tcX [(b12,RV 102 [OL (α:=UInt8) b25 (((r23++([(u8 (shr64 (u1.Load.length:Int) ((8:UInt64).toNat:Int))),(u8 (and64 (u1.Load.length:Int) (255:Int)))]:List UInt8))++u1.Load)++(List.replicate (wr (most5-(u1.Load.length:Int))).toNat (0:UInt8)))]),(b25,RL (α:=UInt8) 5 (((r23++([(u8 (shr64 (u1.Load.length:Int) ((8:UInt64).toNat:Int))),(u8 (and64 (u1.Load.length:Int) (255:Int)))]:List UInt8))++u1.Load)++(List.replicate (wr (most5-(u1.Load.length:Int))).toNat (0:UInt8))))] [] rfl nd (dlt rfl) rfl ⟨rfl,⟨rfl,⟨rfl,trivial⟩⟩⟩ (ok_cartridgeref1_Writer_Int (r33.toNat:Int) (((r23++([(u8 (shr64 (u1.Load.length:Int) ((8:UInt64).toNat:Int))),(u8 (and64 (u1.Load.length:Int) (255:Int)))]:List UInt8))++u1.Load)++(List.replicate (wr (most5-(u1.Load.length:Int))).toNat (0:UInt8))) b12 b25 (Nd.take nd 2 rfl) _ hr34) ?_
    rintro _ _ hQ nd
    obtain ⟨b36,rfl,rfl⟩:=hQ
    refine TL.nil (hK32 _ _ (SR fun K37 hK37=>M rfl rfl (P1 (p_ncR rfl (fun _=>refOK_of nd (j:=0) rfl rfl)) rfl rfl (P1 (p_faV fs102_0 Dc rfl nd (j:=0) rfl rfl) rfl rfl (P1 (p_ldV (v:=OL b36 r34) ty25 rfl rfl nd (j:=0) rfl rfl rfl rfl rfl) rfl rfl (M rfl rfl (M rfl rfl (TL.nil (hK37 _ _ ?_)))))))))
    refine TK.layR (l2':=[Enc.v r34]) [(2,L r34)] nd (j:=1) rfl 0 rfl rfl ⟨fix_OL nd (j:=1) rfl,trivial⟩ ⟨⟨_,rfl,fix_OL nd (j:=1) rfl,rfl⟩,trivial⟩ fun nd=>?_
    refine TK.ret ?_
    try dsimp only[thenQ]
    exact retN (vs:=[Enc.v r34,Enc.v ((0:Int):Int)]) ⟨rfl,rfl,trivial⟩ (by obtain rfl:=some_in hX;rfl) (allVal.mem ⟨v_val _,v_val _,trivial⟩)
 refine SR fun K38 hK38=>P1 (p_faR fs68_0 Dc rfl) rfl rfl (P1 (p_ldR (v:=Enc.v u1.Kind) ty3 rfl rfl rfl rfl rfl rfl) rfl rfl (P1 (p_eql rfl rfl) rfl rfl (TL.nil (hK38 _ _ ?_))))
 refine TK.cond (b:=(u1.Kind==(6:Int))) rfl (fun hc=>?_) (fun hc=>?_)
 ·have hX:=ite_t hc hX
  refine TK.reg ?_
  refine M rfl rfl (TL.nil ?_)
  exact J4 (79:Int) _ _ ⟨(),rfl,Nd_nil,HSub.refl _⟩ hX
 ·have hX:=ite_f hc hX
  refine TK.skip ?_
  exact J4 (64:Int) _ _ ⟨(),rfl,Nd_nil,HSub.refl _⟩ hX
theorem ok_slices_Grow_Lapi_Tape_api_Tape_nil (n1:Int) (nd:Nd []) (r:(List Tape_api)) (hX:X.slices_Grow_Lapi_Tape_api_Tape_nil n1=some r):TCX Try.prog 103 [.nils,Enc.v (n1:Int)] [] (fun rv h'=>∃b18,rv=OL (α:=Tape_api) b18 r∧h'=[(b18,RL (α:=Tape_api) 54 r)]):=by
 refine TCX.of b103 (Nat.le_of_ble_eq_true rfl) ?_
 unfold k103
 unfold X.slices_Grow_Lapi_Tape_api_Tape_nil at hX
 refine SR fun K2 hK2=>M rfl rfl (TL.nil (hK2 _ _ ?_))
 refine TK.seq_k fun K3 hK3=>?_
 refine SR fun K4 hK4=>M rfl rfl (P1 (p_lss rfl rfl) rfl rfl (TL.nil (hK4 _ _ ?_)))
 refine TK.cond (b:=(decide (n1<(0:Int)))) rfl (fun hc=>?_) (fun hc=>?_)
 ·have hX:=ite_t hc hX
  refine TK.reg ?_
  cases hX
 ·have hX:=ite_f hc hX
  refine TK.skip ?_
  refine hK3 _ _ ?_
  refine TK.seq_k fun K5 hK5=>?_
  have J5:∀(l9:List Tape_api) (env:Env) (h:Hp),(∃b8,keepE [0] env=[(0,true,OL b8 l9)]∧Nd [(b8,RL (α:=Tape_api) 54 l9)]∧HSub [(b8,RL (α:=Tape_api) 54 l9)] h)→X.slices_Grow_Lapi_Tape_api_Tape_nil_j5 l9=some r→K5 env h:=by
   intro l9 env h hE hX
   obtain ⟨b8,henv,nd,hs⟩:=hE
   unfold X.slices_Grow_Lapi_Tape_api_Tape_nil_j5 at hX
   refine hK5 _ _ (TK.keep [0] ?_)
   rw[henv]
   refine TK.subH hs ?_
   refine SR fun K10 hK10=>M rfl rfl (M rfl rfl (TL.nil (hK10 _ _ ?_)))
   refine TK.ret ?_
   try dsimp only[thenQ]
   exact retX (v:=OL b8 l9) (res1 rfl) (by obtain rfl:=some_in hX;exact ⟨b8,rfl,rfl⟩) nd (inH_rs nd (j:=0) rfl) ⟨rowIn_RL,trivial⟩
  refine SR fun K11 hK11=>M rfl rfl (M rfl rfl ?_)
  refine TL.ofV (gc:=true) (vok_cap0 (C:=cx) (gc:=true) kd48 rfl (.inl rfl)) rfl rfl ?_
  refine M rfl rfl (P1 (p_lenN kd48 rfl) rfl rfl (P1 (p_sub rfl rfl) rfl rfl (P1 (p_sub rfl rfl) rfl rfl (M rfl rfl (TL.nil (hK11 _ _ (SR fun K12 hK12=>M rfl rfl (P1 (p_gtr rfl rfl) rfl rfl (TL.nil (hK12 _ _ ?_))))))))))
  refine TK.cond (b:=(decide ((wr (n1-(0:Int)))>(0:Int)))) rfl (fun hc=>?_) (fun hc=>?_)
  ·have hX:=ite_t hc hX
   refine TK.reg ?_
   refine M rfl rfl (M rfl rfl ?_)
   refine TL.ofV (gc:=true) (vok_cap0 (C:=cx) (gc:=true) kd48 rfl (.inl rfl)) rfl rfl ?_
   refine P1 (p_sliN (C:=cx) kd48 ty54 rfl rfl rfl) rfl rfl (M rfl rfl ?_)
   obtain ⟨u13,hu13,hX⟩:=bind_some hX
   refine TLc.appNW nd (Tape_api.mk (0:Int) (0:Int) ([]:(List (List UInt8))) false) kd48 kd3 ty54 rfl zrw54 rfl (.inl rfl) rfl (need_t hu13).1 Dc (need_t hu13).2 rfl fun b14 nd=>?_
   refine M rfl rfl (P1 (p_lenN kd48 rfl) rfl rfl ?_)
   obtain ⟨u15,hu15,hX⟩:=bind_some hX
   refine P1 (p_sliO (xs:=(List.replicate (wr (n1-(0:Int))).toNat (Tape_api.mk (0:Int) (0:Int) ([]:(List (List UInt8))) false))) (l:=(0:Int)) (k:=(0:Int)) kd48 ty54 rfl rfl nd (j:=0) rfl rfl rfl (fun e=>need_t hu15)) rfl rfl (M rfl rfl ?_)
   refine TL.cutX (xs:=(List.replicate (wr (n1-(0:Int))).toNat (Tape_api.mk (0:Int) (0:Int) ([]:(List (List UInt8))) false))) (k:=(0:Int)) 0 nd (j:=0) rfl rfl (by have:=(need_t hu15).1;omega) fun b16 nd=>?_
   refine TL.nil ?_
   exact J5 (slc (List.replicate (wr (n1-(0:Int))).toNat (Tape_api.mk (0:Int) (0:Int) ([]:(List (List UInt8))) false)) (0:Int) (0:Int)) _ _ ⟨b16,rfl,(Nd.pick nd (is:=[0]) Dc),(HSub.pick nd (is:=[0]) Dc)⟩ hX
  ·have hX:=ite_f hc hX
   refine TK.ownL (α:=Tape_api) 0 54 nd rfl (.inl rfl) fun b17 nd=>?_
   refine TK.skip ?_
   exact J5 ([]:List Tape_api) _ _ ⟨b17,rfl,(Nd.pick nd (is:=[0]) Dc),(HSub.pick nd (is:=[0]) Dc)⟩ hX
theorem ok_slices_Concat_Lapi_Tape_api_Tape (slices1:(List (List Tape_api))) (r:(List Tape_api)) (hX:X.slices_Concat_Lapi_Tape_api_Tape slices1=some r):Fun Try.prog 66 [Enc.v (slices1:(List (List Tape_api)))] (·=Enc.v (r:(List Tape_api))):=by
 refine Fun.of b66 (Nat.le_of_ble_eq_true rfl) (allVal.mem ⟨(by exact (v_val _)),trivial⟩) ?_
 unfold k66
 have nd:Nd []:=Nd_nil
 unfold X.slices_Concat_Lapi_Tape_api_Tape at hX
 refine SR fun K2 hK2=>M rfl rfl (TL.nil (hK2 _ _ (SR fun K3 hK3=>M rfl rfl (TL.nil (hK3 _ _ ?_)))))
 refine TK.seq_k fun K4 hK4=>?_
 refine SR fun K5 hK5=>M rfl rfl (P1 (p_lenL (xs:=slices1) kd147 rfl) rfl rfl (M rfl rfl (TL.nil (hK5 _ _ ?_))))
 refine TK.block ?_
 obtain ⟨o6,hO6,hA6⟩:=bind_some hX
 have E6:∀(size9:Int) (env:Env) (h:Hp),(∃_u:Unit,keepE [0,3] env=[(0,true,Enc.v slices1),(3,true,Enc.v size9)]∧Nd []∧HSub [] h)→X.slices_Concat_Lapi_Tape_api_Tape_e6 slices1 size9=some r→K4 env h:=by
  intro size9 env h hE hX
  obtain ⟨_u,henv,nd,hs⟩:=hE
  unfold X.slices_Concat_Lapi_Tape_api_Tape_e6 at hX
  refine hK4 _ _ (TK.keep [0,3] ?_)
  rw[henv]
  refine TK.subH hs ?_
  refine SR fun K10 hK10=>M rfl rfl ?_
  obtain ⟨r11,hr11,hX⟩:=bind_some hX
  refine TL.tcX [] [] rfl nd (dlt rfl) rfl ⟨rfl,⟨rfl,⟨rfl,trivial⟩⟩⟩ (ok_slices_Grow_Lapi_Tape_api_Tape_nil size9 (Nd.take nd 0 rfl) _ hr11) ?_
  rintro _ _ hQ nd
  obtain ⟨b12,rfl,rfl⟩:=hQ
  refine M rfl rfl (TL.nil (hK10 _ _ ?_))
  refine TK.seq_k fun K13 hK13=>?_
  refine SR fun K14 hK14=>M rfl rfl (P1 (p_lenL (xs:=slices1) kd147 rfl) rfl rfl (M rfl rfl (TL.nil (hK14 _ _ ?_))))
  refine TK.block ?_
  obtain ⟨o15,hO15,hA15⟩:=bind_some hX
  have E15:∀(l20:List Tape_api) (env:Env) (h:Hp),(∃b19,keepE [6] env=[(6,true,OL b19 l20)]∧Nd [(b19,RL (α:=Tape_api) 54 l20)]∧HSub [(b19,RL (α:=Tape_api) 54 l20)] h)→X.slices_Concat_Lapi_Tape_api_Tape_e15 l20=some r→K13 env h:=by
   intro l20 env h hE hX
   obtain ⟨b19,henv,nd,hs⟩:=hE
   unfold X.slices_Concat_Lapi_Tape_api_Tape_e15 at hX
   refine hK13 _ _ (TK.keep [6] ?_)
   rw[henv]
   refine TK.subH hs ?_
   refine SR fun K21 hK21=>M rfl rfl (M rfl rfl (TL.nil (hK21 _ _ ?_)))
   refine TK.lay [(2,L l20)] nd (j:=0) rfl ⟨⟨_,rfl,fix_OL nd (j:=0) rfl,rfl⟩,trivial⟩ fun nd=>?_
   refine TK.ret ?_
   try dsimp only[thenQ]
   exact R1 rfl hX
  refine TK.iter [6,25,26,27] (fun s env h=>match s with|(newslice17,x18)=>∃b16,env=[(6,true,OL b16 newslice17),(25,true,Enc.v slices1),(26,true,Enc.v ((slices1.length:Int):Int)),(27,true,Enc.v x18)]∧Nd [(b16,RL (α:=Tape_api) 54 newslice17)]∧HSub [(b16,RL (α:=Tape_api) 54 newslice17)] h) hO15 ⟨b12,rfl,(Nd.pick nd (is:=[0]) Dc),(HSub.pick nd (is:=[0]) Dc)⟩ ?_
  rintro ⟨newslice17,x18⟩ env h x15x ⟨b16,rfl,nd,hs⟩ hX hR15
  refine TK.subH hs ?_
  unfold X.slices_Concat_Lapi_Tape_api_Tape_s15 at hX
  try dsimp only at hX
  refine SR fun K22 hK22=>P1 (p_lss rfl rfl) rfl rfl (TL.nil (hK22 _ _ ?_))
  refine TK.seq_k fun K23 hK23=>?_
  refine TK.cond (b:=(decide (x18<(slices1.length:Int)))) rfl (fun hc=>?_) (fun hc=>?_)
  ·have hX:=ite_t hc hX
   refine TK.skip ?_
   refine hK23 _ _ ?_
   refine TK.seq_k fun K24 hK24=>?_
   refine TK.block ?_
   refine SR fun K25 hK25=>?_
   obtain ⟨e26,he26,hX⟩:=bind_some hX
   refine P1 (p_iaL (xs:=slices1) kd147 ty48 rfl rfl rfl (fun _=>he26)) rfl rfl (P1 (p_ldE (xs:=slices1) (a:=e26) (e26:(List Tape_api)) ty48 rfl rfl (fun _=>he26) rfl rfl rfl) rfl rfl (M rfl rfl (TL.nil (hK25 _ _ ?_))))
   refine TK.reg ?_
   refine M rfl rfl (M rfl rfl ?_)
   obtain ⟨u27,hu27,hX⟩:=bind_some hX
   refine TLc.appO nd kd48 bo48 ty54 rfl rfl (j:=0) rfl rfl (Src_L _) Dc (need_t hu27) rfl fun nd=>?_
   refine M rfl rfl (TL.nil (hK24 _ _ ?_))
   refine TK.reg ?_
   refine P1 (p_add rfl rfl) rfl rfl (M rfl rfl (TL.nil ?_))
   exact ⟨_,(some_in hX).symm,b16,rfl,(Nd.pick nd (is:=[0]) Dc),(HSub.pick nd (is:=[0]) Dc)⟩
  ·have hX:=ite_f hc hX
   refine TK.exit ?_
   obtain rfl:=hR15 _ (some_in hX).symm
   exact E15 newslice17 _ _ ⟨b16,rfl,(Nd.pick nd (is:=[0]) Dc),(HSub.pick nd (is:=[0]) Dc)⟩ hA15
 refine TK.iter [0,3,9,10,11] (fun s env h=>match s with|(size7,x8)=>∃_u:Unit,env=[(0,true,Enc.v slices1),(3,true,Enc.v size7),(9,true,Enc.v slices1),(10,true,Enc.v ((slices1.length:Int):Int)),(11,true,Enc.v x8)]∧Nd []∧HSub [] h) hO6 ⟨(),rfl,Nd_nil,HSub.refl _⟩ ?_
 rintro ⟨size7,x8⟩ env h x6x ⟨_u,rfl,nd,hs⟩ hX hR6
 refine TK.subH hs ?_
 unfold X.slices_Concat_Lapi_Tape_api_Tape_s6 at hX
 try dsimp only at hX
 refine SR fun K28 hK28=>P1 (p_lss rfl rfl) rfl rfl (TL.nil (hK28 _ _ ?_))
 refine TK.seq_k fun K29 hK29=>?_
 refine TK.cond (b:=(decide (x8<(slices1.length:Int)))) rfl (fun hc=>?_) (fun hc=>?_)
 ·have hX:=ite_t hc hX
  refine TK.skip ?_
  refine hK29 _ _ ?_
  refine TK.seq_k fun K30 hK30=>?_
  refine TK.block ?_
  refine SR fun K31 hK31=>?_
  obtain ⟨e32,he32,hX⟩:=bind_some hX
  refine P1 (p_iaL (xs:=slices1) kd147 ty48 rfl rfl rfl (fun _=>he32)) rfl rfl (P1 (p_ldE (xs:=slices1) (a:=e32) (e32:(List Tape_api)) ty48 rfl rfl (fun _=>he32) rfl rfl rfl) rfl rfl (M rfl rfl (TL.nil (hK31 _ _ (SR fun K33 hK33=>M rfl rfl (M rfl rfl (P1 (p_lenL (xs:=e32) kd48 rfl) rfl rfl (P1 (p_add rfl rfl) rfl rfl (M rfl rfl (TL.nil (hK33 _ _ (SR fun K34 hK34=>M rfl rfl ?_))))))))))))
  refine P1 (p_lss rfl rfl) rfl rfl (TL.nil (hK34 _ _ ?_))
  refine TK.cond (b:=(decide ((wr (size7+(e32.length:Int)))<(0:Int)))) rfl (fun hc=>?_) (fun hc=>?_)
  ·have hX:=ite_t hc hX
   refine TK.reg ?_
   cases hX
  ·have hX:=ite_f hc hX
   refine TK.skip ?_
   refine hK30 _ _ ?_
   refine TK.reg ?_
   refine P1 (p_add rfl rfl) rfl rfl (M rfl rfl (TL.nil ?_))
   exact ⟨_,(some_in hX).symm,(),rfl,Nd_nil,HSub.refl _⟩
 ·have hX:=ite_f hc hX
  refine TK.exit ?_
  obtain rfl:=hR6 _ (some_in hX).symm
  exact E6 size7 _ _ ⟨(),rfl,Nd_nil,HSub.refl _⟩ hA6
theorem ok_group_labels (l1:(List Tape_api)) (r:(List Int)) (hX:X.group_labels l1=some r):Fun Try.prog 65 [Enc.v (l1:(List Tape_api))] (·=Enc.v (r:(List Int))):=by
 refine Fun.of b65 (Nat.le_of_ble_eq_true rfl) (allVal.mem ⟨(by exact (v_val _)),trivial⟩) ?_
 unfold k65
 have nd:Nd []:=Nd_nil
 unfold X.group_labels at hX
 refine SR fun K2 hK2=>M rfl rfl (TL.nil (hK2 _ _ (SR fun K3 hK3=>M rfl rfl (TL.nil (hK3 _ _ ?_)))))
 refine TK.ownL (α:=Int) 3 3 nd rfl (.inl rfl) fun b4 nd=>?_
 refine TK.seq_k fun K5 hK5=>?_
 refine SR fun K6 hK6=>M rfl rfl (P1 (p_lenL (xs:=l1) kd48 rfl) rfl rfl (M rfl rfl (TL.nil (hK6 _ _ ?_))))
 refine TK.block ?_
 obtain ⟨o7,hO7,hA7⟩:=bind_some hX
 have E7:∀(l12:List Int) (env:Env) (h:Hp),(∃b11,keepE [3] env=[(3,true,OL b11 l12)]∧Nd [(b11,RL (α:=Int) 3 l12)]∧HSub [(b11,RL (α:=Int) 3 l12)] h)→X.group_labels_e7 l12=some r→K5 env h:=by
  intro l12 env h hE hX
  obtain ⟨b11,henv,nd,hs⟩:=hE
  unfold X.group_labels_e7 at hX
  refine hK5 _ _ (TK.keep [3] ?_)
  rw[henv]
  refine TK.subH hs ?_
  refine SR fun K13 hK13=>M rfl rfl (M rfl rfl (TL.nil (hK13 _ _ ?_)))
  refine TK.lay [(2,L l12)] nd (j:=0) rfl ⟨⟨_,rfl,fix_OL nd (j:=0) rfl,rfl⟩,trivial⟩ fun nd=>?_
  refine TK.ret ?_
  try dsimp only[thenQ]
  exact R1 rfl hX
 refine TK.iter [3,6,7,8] (fun s env h=>match s with|(out9,x10)=>∃b8,env=[(3,true,OL b8 out9),(6,true,Enc.v l1),(7,true,Enc.v ((l1.length:Int):Int)),(8,true,Enc.v x10)]∧Nd [(b8,RL (α:=Int) 3 out9)]∧HSub [(b8,RL (α:=Int) 3 out9)] h) hO7 ⟨b4,rfl,(Nd.pick nd (is:=[0]) Dc),(HSub.pick nd (is:=[0]) Dc)⟩ ?_
 rintro ⟨out9,x10⟩ env h x7x ⟨b8,rfl,nd,hs⟩ hX hR7
 refine TK.subH hs ?_
 unfold X.group_labels_s7 at hX
 try dsimp only at hX
 refine SR fun K14 hK14=>P1 (p_lss rfl rfl) rfl rfl (TL.nil (hK14 _ _ ?_))
 refine TK.seq_k fun K15 hK15=>?_
 refine TK.cond (b:=(decide (x10<(l1.length:Int)))) rfl (fun hc=>?_) (fun hc=>?_)
 ·have hX:=ite_t hc hX
  refine TK.skip ?_
  refine hK15 _ _ ?_
  refine TK.seq_k fun K16 hK16=>?_
  refine TK.block ?_
  refine SR fun K17 hK17=>?_
  obtain ⟨e18,he18,hX⟩:=bind_some hX
  refine P1 (p_iaL (xs:=l1) kd48 ty54 rfl rfl rfl (fun _=>he18)) rfl rfl (P1 (p_ldE (xs:=l1) (a:=e18) (e18:Tape_api) ty54 rfl rfl (fun _=>he18) rfl rfl rfl) rfl rfl ?_)
  refine TLc.alO (l:=[Enc.v ((0:Int):Int),Enc.v ((0:Int):Int),.nils,Enc.v false]) nd ty54 ti54_z rfl rfl fun b19 nd=>?_
  refine TLc.stV (lu:=Enc.cl (e18:Tape_api)) nd ty54 rfl (j:=0) rfl rfl rfl (Cells_v (e18:Tape_api)) rfl rfl [Enc.v e18.Label,Enc.v e18.Cap,Enc.v e18.Blocks,Enc.v e18.Lost] rfl fun nd=>?_
  refine TL.nil (hK17 _ _ ?_)
  refine TK.reg ?_
  refine M rfl rfl (P1 (p_faV fs54_0 Dc rfl nd (j:=0) rfl rfl) rfl rfl (P1 (p_ldV (v:=Enc.v e18.Label) ty3 rfl rfl nd (j:=0) rfl rfl rfl rfl rfl) rfl rfl ?_))
  refine TLc.lit ([e18.Label]:List Int) kd47 ty3 rfl ⟨⟨rfl,rfl⟩,trivial⟩ rfl rfl rfl ?_
  obtain ⟨u20,hu20,hX⟩:=bind_some hX
  refine TLc.appO nd kd47 bo47 ty3 rfl rfl (j:=1) rfl rfl (Src_L _) Dc (need_t hu20) rfl fun nd=>?_
  refine M rfl rfl (TL.nil (hK16 _ _ ?_))
  refine TK.reg ?_
  refine P1 (p_add rfl rfl) rfl rfl (M rfl rfl (TL.nil ?_))
  exact ⟨_,(some_in hX).symm,b8,rfl,(Nd.pick nd (is:=[1]) Dc),(HSub.pick nd (is:=[1]) Dc)⟩
 ·have hX:=ite_f hc hX
  refine TK.exit ?_
  obtain rfl:=hR7 _ (some_in hX).symm
  exact E7 out9 _ _ ⟨b8,rfl,(Nd.pick nd (is:=[0]) Dc),(HSub.pick nd (is:=[0]) Dc)⟩ hA7
theorem ok_record_within (n1:Int) (low2:Int) (high3:Int) (r:Bool) (hX:X.record_within n1 low2 high3=some r):Fun Try.prog 147 [Enc.v (n1:Int),Enc.v (low2:Int),Enc.v (high3:Int)] (·=Enc.v (r:Bool)):=by
 refine Fun.of b147 (Nat.le_of_ble_eq_true rfl) (allVal.mem ⟨(by exact (v_val _)),(by exact (v_val _)),(by exact (v_val _)),trivial⟩) ?_
 unfold k147
 have nd:Nd []:=Nd_nil
 unfold X.record_within at hX
 refine SR fun K4 hK4=>M rfl rfl (TL.nil (hK4 _ _ (SR fun K5 hK5=>M rfl rfl (M rfl rfl (P1 (p_geq rfl rfl) rfl rfl (M rfl rfl ?_))))))
 refine TLc.p (gc:=((decide (n1≥low2)))) (p_mv rfl (hg:=fun e=>rfl)) (gcT1 rfl) rfl ?_
 refine TLc.p (gc:=((decide (n1≥low2)))) (p_mv rfl (hg:=fun e=>rfl)) (gcT1 rfl) rfl ?_
 refine TLc.p (gc:=((decide (n1≥low2)))) (p_leq rfl rfl (hg:=fun e=>⟨e,e⟩)) (gcT1 rfl) rfl ?_
 refine P1 (p_and rfl rfl (fun e=>⟨rfl,fun h=>h⟩)) rfl rfl (M rfl rfl (TL.nil (hK5 _ _ ?_)))
 refine TK.ret ?_
 try dsimp only[thenQ]
 exact R1 rfl hX
theorem ok_slices_Index_Lint_int (s1:(List Int)) (v2:Int) (r:Int) (hX:X.slices_Index_Lint_int s1 v2=some r):Fun Try.prog 96 [Enc.v (s1:(List Int)),Enc.v (v2:Int)] (·=Enc.v (r:Int)):=by
 refine Fun.of b96 (Nat.le_of_ble_eq_true rfl) (allVal.mem ⟨(by exact (v_val _)),(by exact (v_val _)),trivial⟩) ?_
 unfold k96
 have nd:Nd []:=Nd_nil
 unfold X.slices_Index_Lint_int at hX
 refine SR fun K3 hK3=>M rfl rfl (TL.nil (hK3 _ _ ?_))
 refine TK.seq_k fun K4 hK4=>?_
 refine SR fun K5 hK5=>M rfl rfl (P1 (p_lenL (xs:=s1) kd47 rfl) rfl rfl (M rfl rfl (TL.nil (hK5 _ _ ?_))))
 refine TK.block ?_
 obtain ⟨o6,hO6,hA6⟩:=bind_some hX
 have E6:∀(env:Env) (h:Hp),(∃_u:Unit,keepE [] env=[]∧Nd []∧HSub [] h)→X.slices_Index_Lint_int_e6=some r→K4 env h:=by
  intro env h hE hX
  obtain ⟨_u,henv,nd,hs⟩:=hE
  unfold X.slices_Index_Lint_int_e6 at hX
  refine hK4 _ _ (TK.keep [] ?_)
  rw[henv]
  refine TK.subH hs ?_
  refine SR fun K8 hK8=>M rfl rfl (TL.nil (hK8 _ _ ?_))
  refine TK.ret ?_
  try dsimp only[thenQ]
  exact R1 rfl hX
 refine TK.iter [0,1,7,8] (fun s env h=>match s with|x7=>∃_u:Unit,env=[(0,true,Enc.v s1),(1,true,Enc.v v2),(7,true,Enc.v ((s1.length:Int):Int)),(8,true,Enc.v x7)]∧Nd []∧HSub [] h) hO6 ⟨(),rfl,Nd_nil,HSub.refl _⟩ ?_
 rintro x7 env h x6x ⟨_u,rfl,nd,hs⟩ hX hR6
 refine TK.subH hs ?_
 unfold X.slices_Index_Lint_int_s6 at hX
 try dsimp only at hX
 refine SR fun K9 hK9=>P1 (p_lss rfl rfl) rfl rfl (TL.nil (hK9 _ _ ?_))
 refine TK.seq_k fun K10 hK10=>?_
 refine TK.cond (b:=(decide (x7<(s1.length:Int)))) rfl (fun hc=>?_) (fun hc=>?_)
 ·have hX:=ite_t hc hX
  refine TK.skip ?_
  refine hK10 _ _ ?_
  refine TK.seq_k fun K11 hK11=>?_
  refine TK.block ?_
  refine SR fun K12 hK12=>M rfl rfl (M rfl rfl (TL.nil (hK12 _ _ (SR fun K13 hK13=>M rfl rfl (M rfl rfl (M rfl rfl ?_))))))
  obtain ⟨e14,he14,hX⟩:=bind_some hX
  refine P1 (p_iaL (xs:=s1) kd47 ty3 rfl rfl rfl (fun _=>he14)) rfl rfl (P1 (p_ldE (xs:=s1) (a:=e14) (e14:Int) ty3 rfl rfl (fun _=>he14) rfl rfl rfl) rfl rfl (P1 (p_eql rfl rfl) rfl rfl (TL.nil (hK13 _ _ ?_))))
  refine TK.cond (b:=(v2==e14)) rfl (fun hc=>?_) (fun hc=>?_)
  ·have hX:=ite_t hc hX
   refine SR fun K15 hK15=>M rfl rfl (M rfl rfl (TL.nil (hK15 _ _ ?_)))
   refine TK.ret ?_
   obtain rfl:=hR6 _ (some_in hX).symm
   replace hX:=hA6
   try dsimp only[thenQ]
   exact R1 rfl hX
  ·have hX:=ite_f hc hX
   refine TK.skip ?_
   refine hK11 _ _ ?_
   refine TK.reg ?_
   refine P1 (p_add rfl rfl) rfl rfl (M rfl rfl (TL.nil ?_))
   exact ⟨_,(some_in hX).symm,(),rfl,Nd_nil,HSub.refl _⟩
 ·have hX:=ite_f hc hX
  refine TK.exit ?_
  obtain rfl:=hR6 _ (some_in hX).symm
  exact E6 _ _ ⟨(),rfl,Nd_nil,HSub.refl _⟩ hA6
theorem ok_slices_Contains_Lint_int (s1:(List Int)) (v2:Int) (r:Bool) (hX:X.slices_Contains_Lint_int s1 v2=some r):Fun Try.prog 76 [Enc.v (s1:(List Int)),Enc.v (v2:Int)] (·=Enc.v (r:Bool)):=by
 refine Fun.of b76 (Nat.le_of_ble_eq_true rfl) (allVal.mem ⟨(by exact (v_val _)),(by exact (v_val _)),trivial⟩) ?_
 unfold k76
 have nd:Nd []:=Nd_nil
 unfold X.slices_Contains_Lint_int at hX
 refine SR fun K3 hK3=>M rfl rfl (TL.nil (hK3 _ _ (SR fun K4 hK4=>M rfl rfl (M rfl rfl ?_))))
 obtain ⟨r5,hr5,hX⟩:=bind_some hX
 refine TL.cvX rfl rfl rfl (fun _=>⟨rfl,⟨rfl,⟨rfl,trivial⟩⟩⟩) (fun e=>ok_slices_Index_Lint_int s1 v2 _ hr5) ?_
 refine P1 (p_geq rfl rfl) rfl rfl (M rfl rfl (TL.nil (hK4 _ _ ?_)))
 refine TK.ret ?_
 try dsimp only[thenQ]
 exact R1 rfl hX
theorem ok_record_RightSeal (s1:Seal_api) (r:Bool) (hX:X.record_RightSeal s1=some r):Fun Try.prog 95 [Enc.v (s1:Seal_api)] (·=Enc.v (r:Bool)):=by
 refine Fun.of b95 (Nat.le_of_ble_eq_true rfl) (allVal.mem ⟨(by exact (v_val _)),trivial⟩) ?_
 unfold k95
 have nd:Nd []:=Nd_nil
 unfold X.record_RightSeal at hX
 refine SR fun K2 hK2=>?_
 refine TLc.boxV (lu:=[Enc.v s1.Number,Enc.v s1.Index,Enc.v s1.Data,Enc.v s1.Parity,Enc.v s1.Labels]) nd rfl (Cells_v (s1:Seal_api)) rfl ?_
 refine M rfl rfl (TL.nil (hK2 _ _ ?_))
 refine TK.seq_k fun K3 hK3=>?_
 refine SR fun K4 hK4=>P1 (p_faR fs50_0 Dc rfl) rfl rfl (P1 (p_ldR (v:=Enc.v s1.Number) ty3 rfl rfl rfl rfl rfl rfl) rfl rfl ?_)
 obtain ⟨r5,hr5,hX⟩:=bind_some hX
 refine TL.cvX rfl rfl rfl (fun _=>⟨rfl,⟨rfl,⟨rfl,⟨rfl,trivial⟩⟩⟩⟩) (fun e=>ok_record_within s1.Number (1:Int) (1073741824:Int) _ hr5) ?_
 refine P1 (p_not rfl) rfl rfl (M rfl rfl ?_)
 refine TLc.p (gc:=(!((!r5)))) (p_faR fs50_2 Dc rfl (hg:=fun e=>rfl)) (gcF1 rfl) rfl ?_
 refine TLc.p (gc:=(!((!r5)))) (p_ldR (v:=Enc.v s1.Data) ty3 rfl rfl rfl rfl rfl rfl (hg:=fun e=>e)) (gcF1 rfl) rfl ?_
 obtain ⟨r6,hr6,hX⟩:=bind_some hX
 refine TL.cvX (gcF1 rfl) rfl rfl (fun e=>⟨rfl,⟨e,⟨rfl,⟨rfl,trivial⟩⟩⟩⟩) (fun e=>ok_record_within s1.Data (1:Int) (14:Int) _ (optG_t hr6 e)) ?_
 refine TLc.p (gc:=(!((!r5)))) (p_not rfl (hg:=fun e=>e)) (gcF1 rfl) rfl ?_
 refine P1 (p_or rfl rfl (fun e=>⟨rfl,fun h=>(not_t h)⟩)) rfl rfl (M rfl rfl ?_)
 refine TLc.p (gc:=(!(((!r5)||(!r6))))) (p_faR fs50_3 Dc rfl (hg:=fun e=>rfl)) (gcF1 rfl) rfl ?_
 refine TLc.p (gc:=(!(((!r5)||(!r6))))) (p_ldR (v:=Enc.v s1.Parity) ty3 rfl rfl rfl rfl rfl rfl (hg:=fun e=>e)) (gcF1 rfl) rfl ?_
 refine TLc.p (gc:=(!(((!r5)||(!r6))))) (p_faR fs50_2 Dc rfl (hg:=fun e=>rfl)) (gcF1 rfl) rfl ?_
 refine TLc.p (gc:=(!(((!r5)||(!r6))))) (p_ldR (v:=Enc.v s1.Data) ty3 rfl rfl rfl rfl rfl rfl (hg:=fun e=>e)) (gcF1 rfl) rfl ?_
 refine TLc.p (gc:=(!(((!r5)||(!r6))))) (p_sub rfl rfl (hg:=fun e=>⟨rfl,e⟩)) (gcF1 rfl) rfl ?_
 obtain ⟨r7,hr7,hX⟩:=bind_some hX
 refine TL.cvX (gcF1 rfl) rfl rfl (fun e=>⟨rfl,⟨e,⟨rfl,⟨e,trivial⟩⟩⟩⟩) (fun e=>ok_record_within s1.Parity (1:Int) (wr ((14:Int)-s1.Data)) _ (optG_t hr7 e)) ?_
 refine TLc.p (gc:=(!(((!r5)||(!r6))))) (p_not rfl (hg:=fun e=>e)) (gcF1 rfl) rfl ?_
 refine P1 (p_or rfl rfl (fun e=>⟨rfl,fun h=>(not_t h)⟩)) rfl rfl (TL.nil (hK4 _ _ ?_))
 refine TK.cond (b:=(((!r5)||(!r6))||(!r7))) rfl (fun hc=>?_) (fun hc=>?_)
 ·have hX:=ite_t hc hX
  refine SR fun K8 hK8=>M rfl rfl (TL.nil (hK8 _ _ ?_))
  refine TK.ret ?_
  try dsimp only[thenQ]
  exact R1 rfl hX
 ·have hX:=ite_f hc hX
  refine TK.skip ?_
  refine hK3 _ _ (SR fun K9 hK9=>P1 (p_faR fs50_2 Dc rfl) rfl rfl (P1 (p_ldR (v:=Enc.v s1.Data) ty3 rfl rfl rfl rfl rfl rfl) rfl rfl (P1 (p_faR fs50_3 Dc rfl) rfl rfl (P1 (p_ldR (v:=Enc.v s1.Parity) ty3 rfl rfl rfl rfl rfl rfl) rfl rfl (P1 (p_add rfl rfl) rfl rfl (M rfl rfl (TL.nil (hK9 _ _ ?_))))))))
  refine TK.seq_k fun K10 hK10=>?_
  refine SR fun K11 hK11=>P1 (p_faR fs50_1 Dc rfl) rfl rfl (P1 (p_ldR (v:=Enc.v s1.Index) ty3 rfl rfl rfl rfl rfl rfl) rfl rfl (M rfl rfl (P1 (p_sub rfl rfl) rfl rfl ?_)))
  obtain ⟨r12,hr12,hX⟩:=bind_some hX
  refine TL.cvX rfl rfl rfl (fun _=>⟨rfl,⟨rfl,⟨rfl,⟨rfl,trivial⟩⟩⟩⟩) (fun e=>ok_record_within s1.Index (0:Int) (wr ((wr (s1.Data+s1.Parity))-(1:Int))) _ hr12) ?_
  refine P1 (p_not rfl) rfl rfl (M rfl rfl ?_)
  refine TLc.p (gc:=(!((!r12)))) (p_faR fs50_4 Dc rfl (hg:=fun e=>rfl)) (gcF1 rfl) rfl ?_
  refine TLc.p (gc:=(!((!r12)))) (p_ldR (v:=Enc.v s1.Labels) ty47 rfl rfl rfl rfl rfl rfl (hg:=fun e=>e)) (gcF1 rfl) rfl ?_
  refine TLc.p (gc:=(!((!r12)))) (p_lenL (xs:=s1.Labels) kd47 rfl (hg:=fun e=>e)) (gcF1 rfl) rfl ?_
  refine TLc.p (gc:=(!((!r12)))) (p_mv rfl (hg:=fun e=>rfl)) (gcF1 rfl) rfl ?_
  refine TLc.p (gc:=(!((!r12)))) (p_neq rfl rfl (hg:=fun e=>⟨e,e⟩)) (gcF1 rfl) rfl ?_
  refine P1 (p_or rfl rfl (fun e=>⟨rfl,fun h=>(not_t h)⟩)) rfl rfl (TL.nil (hK11 _ _ ?_))
  refine TK.cond (b:=((!r12)||((s1.Labels.length:Int) !=(wr (s1.Data+s1.Parity))))) rfl (fun hc=>?_) (fun hc=>?_)
  ·have hX:=ite_t hc hX
   refine SR fun K13 hK13=>M rfl rfl (TL.nil (hK13 _ _ ?_))
   refine TK.ret ?_
   try dsimp only[thenQ]
   exact R1 rfl hX
  ·have hX:=ite_f hc hX
   refine TK.skip ?_
   refine hK10 _ _ ?_
   refine TK.seq_k fun K14 hK14=>?_
   refine SR fun K15 hK15=>P1 (p_faR fs50_4 Dc rfl) rfl rfl (P1 (p_ldR (v:=Enc.v s1.Labels) ty47 rfl rfl rfl rfl rfl rfl) rfl rfl (P1 (p_lenL (xs:=s1.Labels) kd47 rfl) rfl rfl (M rfl rfl (TL.nil (hK15 _ _ ?_)))))
   refine TK.block ?_
   obtain ⟨o16,hO16,hA16⟩:=bind_some hX
   have E16:∀(env:Env) (h:Hp),(∃_u:Unit,keepE [] env=[]∧Nd []∧HSub [] h)→X.record_RightSeal_e16=some r→K14 env h:=by
    intro env h hE hX
    obtain ⟨_u,henv,nd,hs⟩:=hE
    unfold X.record_RightSeal_e16 at hX
    refine hK14 _ _ (TK.keep [] ?_)
    rw[henv]
    refine TK.subH hs ?_
    refine SR fun K18 hK18=>M rfl rfl (TL.nil (hK18 _ _ ?_))
    refine TK.ret ?_
    try dsimp only[thenQ]
    exact R1 rfl hX
   refine TK.iter [1,44,45,46] (fun s env h=>match s with|x17=>∃_u:Unit,env=[(1,true,.vref (ofL [Enc.v s1.Number,Enc.v s1.Index,Enc.v s1.Data,Enc.v s1.Parity,Enc.v s1.Labels]) 5 0),(44,true,Enc.v s1.Labels),(45,true,Enc.v ((s1.Labels.length:Int):Int)),(46,true,Enc.v x17)]∧Nd []∧HSub [] h) hO16 ⟨(),rfl,Nd_nil,HSub.refl _⟩ ?_
   rintro x17 env h x16x ⟨_u,rfl,nd,hs⟩ hX hR16
   refine TK.subH hs ?_
   unfold X.record_RightSeal_s16 at hX
   try dsimp only at hX
   refine SR fun K19 hK19=>P1 (p_lss rfl rfl) rfl rfl (TL.nil (hK19 _ _ ?_))
   refine TK.seq_k fun K20 hK20=>?_
   refine TK.cond (b:=(decide (x17<(s1.Labels.length:Int)))) rfl (fun hc=>?_) (fun hc=>?_)
   ·have hX:=ite_t hc hX
    refine TK.skip ?_
    refine hK20 _ _ ?_
    refine TK.seq_k fun K21 hK21=>?_
    refine TK.block ?_
    refine SR fun K22 hK22=>M rfl rfl ?_
    obtain ⟨e23,he23,hX⟩:=bind_some hX
    refine P1 (p_iaL (xs:=s1.Labels) kd47 ty3 rfl rfl rfl (fun _=>he23)) rfl rfl (P1 (p_ldE (xs:=s1.Labels) (a:=e23) (e23:Int) ty3 rfl rfl (fun _=>he23) rfl rfl rfl) rfl rfl (M rfl rfl (M rfl rfl (TL.nil (hK22 _ _ (SR fun K24 hK24=>M rfl rfl ?_))))))
    obtain ⟨r25,hr25,hX⟩:=bind_some hX
    refine TL.cvX rfl rfl rfl (fun _=>⟨rfl,⟨rfl,⟨rfl,⟨rfl,trivial⟩⟩⟩⟩) (fun e=>ok_record_within e23 (1:Int) (2147483647:Int) _ hr25) ?_
    refine P1 (p_not rfl) rfl rfl (M rfl rfl ?_)
    refine TLc.p (gc:=(!((!r25)))) (p_faR fs50_4 Dc rfl (hg:=fun e=>rfl)) (gcF1 rfl) rfl ?_
    refine TLc.p (gc:=(!((!r25)))) (p_ldR (v:=Enc.v s1.Labels) ty47 rfl rfl rfl rfl rfl rfl (hg:=fun e=>e)) (gcF1 rfl) rfl ?_
    refine TLc.p (gc:=(!((!r25)))) (p_mv rfl (hg:=fun e=>rfl)) (gcF1 rfl) rfl ?_
    obtain ⟨u26,hu26,hX⟩:=bind_some hX
    refine TLc.p (gc:=(!((!r25)))) (p_sliL (xs:=s1.Labels) (l:=(0:Int)) (k:=x17) kd47 ty3 rfl rfl rfl rfl (fun e=>need_t (optG_t hu26 e)) (hg:=fun e=>⟨e,rfl,e⟩)) (gcF1 rfl) rfl ?_
    refine TLc.p (gc:=(!((!r25)))) (p_mv rfl (hg:=fun e=>rfl)) (gcF1 rfl) rfl ?_
    obtain ⟨r27,hr27,hX⟩:=bind_some hX
    refine TL.cvX (gcF1 rfl) rfl rfl (fun e=>⟨rfl,⟨e,⟨e,trivial⟩⟩⟩) (fun e=>ok_slices_Contains_Lint_int (slc s1.Labels (0:Int) x17) e23 _ (optG_t hr27 e)) ?_
    refine P1 (p_or rfl rfl (fun e=>⟨rfl,fun h=>(not_t h)⟩)) rfl rfl (TL.nil (hK24 _ _ ?_))
    refine TK.cond (b:=((!r25)||r27)) rfl (fun hc=>?_) (fun hc=>?_)
    ·have hX:=ite_t hc hX
     refine SR fun K28 hK28=>M rfl rfl (TL.nil (hK28 _ _ ?_))
     refine TK.ret ?_
     obtain rfl:=hR16 _ (some_in hX).symm
     replace hX:=hA16
     try dsimp only[thenQ]
     exact R1 rfl hX
    ·have hX:=ite_f hc hX
     refine TK.skip ?_
     refine hK21 _ _ ?_
     refine TK.reg ?_
     refine P1 (p_add rfl rfl) rfl rfl (M rfl rfl (TL.nil ?_))
     exact ⟨_,(some_in hX).symm,(),rfl,Nd_nil,HSub.refl _⟩
   ·have hX:=ite_f hc hX
    refine TK.exit ?_
    obtain rfl:=hR16 _ (some_in hX).symm
    exact E16 _ _ ⟨(),rfl,Nd_nil,HSub.refl _⟩ hA16
theorem ok_slices_IndexFunc_Lapi_Tape_api_Tape (s1:(List Tape_api)) (g2:Tape_api→Option Bool) (r:Int) (hX:X.slices_IndexFunc_Lapi_Tape_api_Tape s1 g2=some r) {g2V:AV} (hg2V:∃f m c,g2V= .fn f m c∧(∀i,i<m→(c i).val)∧∀(a0:Tape_api) r,g2 a0=some r→Fun Try.prog f ([Enc.v a0]++(List.range m).map c) (·=Enc.v r)):Fun Try.prog 56 [Enc.v (s1:(List Tape_api)),g2V] (·=Enc.v (r:Int)):=by
 obtain ⟨g2f,g2m,g2c,rfl,hg2v,hg2⟩:=hg2V
 refine Fun.of b56 (Nat.le_of_ble_eq_true rfl) (allVal.mem ⟨(by exact (v_val _)),hg2v,trivial⟩) ?_
 unfold k56
 have nd:Nd []:=Nd_nil
 unfold X.slices_IndexFunc_Lapi_Tape_api_Tape at hX
 refine SR fun K3 hK3=>M rfl rfl (TL.nil (hK3 _ _ ?_))
 refine TK.seq_k fun K4 hK4=>?_
 refine SR fun K5 hK5=>M rfl rfl (P1 (p_lenL (xs:=s1) kd48 rfl) rfl rfl (M rfl rfl (TL.nil (hK5 _ _ ?_))))
 refine TK.block ?_
 obtain ⟨o6,hO6,hA6⟩:=bind_some hX
 have E6:∀(env:Env) (h:Hp),(∃_u:Unit,keepE [] env=[]∧Nd []∧HSub [] h)→X.slices_IndexFunc_Lapi_Tape_api_Tape_e6=some r→K4 env h:=by
  intro env h hE hX
  obtain ⟨_u,henv,nd,hs⟩:=hE
  unfold X.slices_IndexFunc_Lapi_Tape_api_Tape_e6 at hX
  refine hK4 _ _ (TK.keep [] ?_)
  rw[henv]
  refine TK.subH hs ?_
  refine SR fun K8 hK8=>M rfl rfl (TL.nil (hK8 _ _ ?_))
  refine TK.ret ?_
  try dsimp only[thenQ]
  exact R1 rfl hX
 refine TK.iter [0,1,7,8] (fun s env h=>match s with|x7=>∃_u:Unit,env=[(0,true,Enc.v s1),(1,true,.fn g2f g2m g2c),(7,true,Enc.v ((s1.length:Int):Int)),(8,true,Enc.v x7)]∧Nd []∧HSub [] h) hO6 ⟨(),rfl,Nd_nil,HSub.refl _⟩ ?_
 rintro x7 env h x6x ⟨_u,rfl,nd,hs⟩ hX hR6
 refine TK.subH hs ?_
 unfold X.slices_IndexFunc_Lapi_Tape_api_Tape_s6 at hX
 try dsimp only at hX
 refine SR fun K9 hK9=>P1 (p_lss rfl rfl) rfl rfl (TL.nil (hK9 _ _ ?_))
 refine TK.seq_k fun K10 hK10=>?_
 refine TK.cond (b:=(decide (x7<(s1.length:Int)))) rfl (fun hc=>?_) (fun hc=>?_)
 ·have hX:=ite_t hc hX
  refine TK.skip ?_
  refine hK10 _ _ ?_
  refine TK.seq_k fun K11 hK11=>?_
  refine TK.block ?_
  refine SR fun K12 hK12=>M rfl rfl (M rfl rfl (TL.nil (hK12 _ _ (SR fun K13 hK13=>M rfl rfl (M rfl rfl (M rfl rfl ?_))))))
  obtain ⟨e14,he14,hX⟩:=bind_some hX
  refine P1 (p_iaL (xs:=s1) kd48 ty54 rfl rfl rfl (fun _=>he14)) rfl rfl (P1 (p_ldE (xs:=s1) (a:=e14) (e14:Tape_api) ty54 rfl rfl (fun _=>he14) rfl rfl rfl) rfl rfl ?_)
  obtain ⟨r15,hr15,hX⟩:=bind_some hX
  refine TL.cvX rfl rfl rfl (fun _=>⟨rfl,⟨rfl,trivial⟩⟩) (fun e=>hg2 e14 _ hr15) ?_
  refine TL.nil (hK13 _ _ ?_)
  refine TK.cond (b:=r15) rfl (fun hc=>?_) (fun hc=>?_)
  ·have hX:=ite_t hc hX
   refine SR fun K16 hK16=>M rfl rfl (M rfl rfl (TL.nil (hK16 _ _ ?_)))
   refine TK.ret ?_
   obtain rfl:=hR6 _ (some_in hX).symm
   replace hX:=hA6
   try dsimp only[thenQ]
   exact R1 rfl hX
  ·have hX:=ite_f hc hX
   refine TK.skip ?_
   refine hK11 _ _ ?_
   refine TK.reg ?_
   refine P1 (p_add rfl rfl) rfl rfl (M rfl rfl (TL.nil ?_))
   exact ⟨_,(some_in hX).symm,(),rfl,Nd_nil,HSub.refl _⟩
 ·have hX:=ite_f hc hX
  refine TK.exit ?_
  obtain rfl:=hR6 _ (some_in hX).symm
  exact E6 _ _ ⟨(),rfl,Nd_nil,HSub.refl _⟩ hA6
theorem ok_slices_ContainsFunc_Lapi_Tape_api_Tape (s1:(List Tape_api)) (g2:Tape_api→Option Bool) (r:Bool) (hX:X.slices_ContainsFunc_Lapi_Tape_api_Tape s1 g2=some r) {g2V:AV} (hg2V:∃f m c,g2V= .fn f m c∧(∀i,i<m→(c i).val)∧∀(a0:Tape_api) r,g2 a0=some r→Fun Try.prog f ([Enc.v a0]++(List.range m).map c) (·=Enc.v r)):Fun Try.prog 105 [Enc.v (s1:(List Tape_api)),g2V] (·=Enc.v (r:Bool)):=by
 obtain ⟨g2f,g2m,g2c,rfl,hg2v,hg2⟩:=hg2V
 refine Fun.of b105 (Nat.le_of_ble_eq_true rfl) (allVal.mem ⟨(by exact (v_val _)),hg2v,trivial⟩) ?_
 unfold k105
 have nd:Nd []:=Nd_nil
 unfold X.slices_ContainsFunc_Lapi_Tape_api_Tape at hX
 refine SR fun K3 hK3=>M rfl rfl (TL.nil (hK3 _ _ (SR fun K4 hK4=>M rfl rfl (M rfl rfl ?_))))
 obtain ⟨r5,hr5,hX⟩:=bind_some hX
 refine TL.cvX rfl rfl rfl (fun _=>⟨rfl,⟨rfl,⟨rfl,trivial⟩⟩⟩) (fun e=>ok_slices_IndexFunc_Lapi_Tape_api_Tape s1 g2 _ hr5 ⟨_,_,_,rfl,hg2v,hg2⟩) ?_
 refine P1 (p_geq rfl rfl) rfl rfl (M rfl rfl (TL.nil (hK4 _ _ ?_)))
 refine TK.ret ?_
 try dsimp only[thenQ]
 exact R1 rfl hX
theorem ok_group_check_c1 (t1:Tape_api) (r:Bool) (hX:X.group_check_c1 t1=some r):Fun Try.prog 104 [Enc.v (t1:Tape_api)] (·=Enc.v (r:Bool)):=by
 refine Fun.of b104 (Nat.le_of_ble_eq_true rfl) (allVal.mem ⟨(by exact (v_val _)),trivial⟩) ?_
 unfold k104
 have nd:Nd []:=Nd_nil
 unfold X.group_check_c1 at hX
 refine SR fun K2 hK2=>?_
 refine TLc.boxV (lu:=[Enc.v t1.Label,Enc.v t1.Cap,Enc.v t1.Blocks,Enc.v t1.Lost]) nd rfl (Cells_v (t1:Tape_api)) rfl ?_
 refine M rfl rfl (TL.nil (hK2 _ _ (SR fun K3 hK3=>P1 (p_faR fs54_3 Dc rfl) rfl rfl (P1 (p_ldR (v:=Enc.v t1.Lost) ty4 rfl rfl rfl rfl rfl rfl) rfl rfl (M rfl rfl (TL.nil (hK3 _ _ ?_)))))))
 refine TK.ret ?_
 try dsimp only[thenQ]
 exact R1 rfl hX
theorem ok_stripe_Len (l1:(List Tape_api)) (r:Int) (hX:X.stripe_Len l1=some r):Fun Try.prog 106 [Enc.v (l1:(List Tape_api))] (·=Enc.v (r:Int)):=by
 refine Fun.of b106 (Nat.le_of_ble_eq_true rfl) (allVal.mem ⟨(by exact (v_val _)),trivial⟩) ?_
 unfold k106
 have nd:Nd []:=Nd_nil
 unfold X.stripe_Len at hX
 refine SR fun K2 hK2=>M rfl rfl (TL.nil (hK2 _ _ (SR fun K3 hK3=>M rfl rfl (TL.nil (hK3 _ _ ?_)))))
 refine TK.seq_k fun K4 hK4=>?_
 refine SR fun K5 hK5=>M rfl rfl (P1 (p_lenL (xs:=l1) kd48 rfl) rfl rfl (M rfl rfl (TL.nil (hK5 _ _ ?_))))
 refine TK.block ?_
 obtain ⟨o6,hO6,hA6⟩:=bind_some hX
 have E6:∀(n9:Int) (env:Env) (h:Hp),(∃_u:Unit,keepE [3] env=[(3,true,Enc.v n9)]∧Nd []∧HSub [] h)→X.stripe_Len_e6 n9=some r→K4 env h:=by
  intro n9 env h hE hX
  obtain ⟨_u,henv,nd,hs⟩:=hE
  unfold X.stripe_Len_e6 at hX
  refine hK4 _ _ (TK.keep [3] ?_)
  rw[henv]
  refine TK.subH hs ?_
  refine SR fun K10 hK10=>M rfl rfl (M rfl rfl (TL.nil (hK10 _ _ ?_)))
  refine TK.ret ?_
  try dsimp only[thenQ]
  exact R1 rfl hX
 refine TK.iter [3,6,7,8] (fun s env h=>match s with|(n7,x8)=>∃_u:Unit,env=[(3,true,Enc.v n7),(6,true,Enc.v l1),(7,true,Enc.v ((l1.length:Int):Int)),(8,true,Enc.v x8)]∧Nd []∧HSub [] h) hO6 ⟨(),rfl,Nd_nil,HSub.refl _⟩ ?_
 rintro ⟨n7,x8⟩ env h x6x ⟨_u,rfl,nd,hs⟩ hX hR6
 refine TK.subH hs ?_
 unfold X.stripe_Len_s6 at hX
 try dsimp only at hX
 refine SR fun K11 hK11=>P1 (p_lss rfl rfl) rfl rfl (TL.nil (hK11 _ _ ?_))
 refine TK.seq_k fun K12 hK12=>?_
 refine TK.cond (b:=(decide (x8<(l1.length:Int)))) rfl (fun hc=>?_) (fun hc=>?_)
 ·have hX:=ite_t hc hX
  refine TK.skip ?_
  refine hK12 _ _ ?_
  refine TK.seq_k fun K13 hK13=>?_
  refine TK.block ?_
  refine SR fun K14 hK14=>?_
  obtain ⟨e15,he15,hX⟩:=bind_some hX
  refine P1 (p_iaL (xs:=l1) kd48 ty54 rfl rfl rfl (fun _=>he15)) rfl rfl (P1 (p_ldE (xs:=l1) (a:=e15) (e15:Tape_api) ty54 rfl rfl (fun _=>he15) rfl rfl rfl) rfl rfl ?_)
  refine TLc.alO (l:=[Enc.v ((0:Int):Int),Enc.v ((0:Int):Int),.nils,Enc.v false]) nd ty54 ti54_z rfl rfl fun b16 nd=>?_
  refine TLc.stV (lu:=Enc.cl (e15:Tape_api)) nd ty54 rfl (j:=0) rfl rfl rfl (Cells_v (e15:Tape_api)) rfl rfl [Enc.v e15.Label,Enc.v e15.Cap,Enc.v e15.Blocks,Enc.v e15.Lost] rfl fun nd=>?_
  refine TL.nil (hK14 _ _ (SR fun K17 hK17=>P1 (p_faV fs54_3 Dc rfl nd (j:=0) rfl rfl) rfl rfl (P1 (p_ldV (v:=Enc.v e15.Lost) ty4 rfl rfl nd (j:=0) rfl rfl rfl rfl rfl) rfl rfl (P1 (p_not rfl) rfl rfl (TL.nil (hK17 _ _ ?_))))))
  refine TK.cond (b:=(!e15.Lost)) rfl (fun hc=>?_) (fun hc=>?_)
  ·have hX:=ite_t hc hX
   refine TK.reg ?_
   refine M rfl rfl (P1 (p_faV fs54_2 Dc rfl nd (j:=0) rfl rfl) rfl rfl (P1 (p_ldV (v:=Enc.v e15.Blocks) ty22 rfl rfl nd (j:=0) rfl rfl rfl rfl rfl) rfl rfl (P1 (p_lenL (xs:=e15.Blocks) kd22 rfl) rfl rfl (P1 (p_max rfl rfl) rfl rfl (M rfl rfl (TL.nil (hK13 _ _ ?_)))))))
   refine TK.reg ?_
   refine P1 (p_add rfl rfl) rfl rfl (M rfl rfl (TL.nil ?_))
   exact ⟨_,(some_in hX).symm,(),rfl,(Nd.pick nd (is:=[]) Dc),(HSub.pick nd (is:=[]) Dc)⟩
  ·have hX:=ite_f hc hX
   refine TK.skip ?_
   refine hK13 _ _ ?_
   refine TK.reg ?_
   refine P1 (p_add rfl rfl) rfl rfl (M rfl rfl (TL.nil ?_))
   exact ⟨_,(some_in hX).symm,(),rfl,(Nd.pick nd (is:=[]) Dc),(HSub.pick nd (is:=[]) Dc)⟩
 ·have hX:=ite_f hc hX
  refine TK.exit ?_
  obtain rfl:=hR6 _ (some_in hX).symm
  exact E6 n7 _ _ ⟨(),rfl,Nd_nil,HSub.refl _⟩ hA6
theorem ok_group_each (l1:(List Tape_api)) (g2:Tape_api→Option Bool) (r:Bool) (hX:X.group_each l1 g2=some r) {g2V:AV} (hg2V:∃f m c,g2V= .fn f m c∧(∀i,i<m→(c i).val)∧∀(a0:Tape_api) r,g2 a0=some r→Fun Try.prog f ([Enc.v a0]++(List.range m).map c) (·=Enc.v r)):Fun Try.prog 107 [Enc.v (l1:(List Tape_api)),g2V] (·=Enc.v (r:Bool)):=by
 obtain ⟨g2f,g2m,g2c,rfl,hg2v,hg2⟩:=hg2V
 refine Fun.of b107 (Nat.le_of_ble_eq_true rfl) (allVal.mem ⟨(by exact (v_val _)),hg2v,trivial⟩) ?_
 unfold k107
 have nd:Nd []:=Nd_nil
 unfold X.group_each at hX
 refine SR fun K3 hK3=>M rfl rfl (TL.nil (hK3 _ _ ?_))
 refine TK.seq_k fun K4 hK4=>?_
 refine SR fun K5 hK5=>M rfl rfl (P1 (p_lenL (xs:=l1) kd48 rfl) rfl rfl (M rfl rfl (TL.nil (hK5 _ _ ?_))))
 refine TK.block ?_
 obtain ⟨o6,hO6,hA6⟩:=bind_some hX
 have E6:∀(env:Env) (h:Hp),(∃_u:Unit,keepE [] env=[]∧Nd []∧HSub [] h)→X.group_each_e6=some r→K4 env h:=by
  intro env h hE hX
  obtain ⟨_u,henv,nd,hs⟩:=hE
  unfold X.group_each_e6 at hX
  refine hK4 _ _ (TK.keep [] ?_)
  rw[henv]
  refine TK.subH hs ?_
  refine SR fun K8 hK8=>M rfl rfl (TL.nil (hK8 _ _ ?_))
  refine TK.ret ?_
  try dsimp only[thenQ]
  exact R1 rfl hX
 refine TK.iter [1,7,8,9] (fun s env h=>match s with|x7=>∃_u:Unit,env=[(1,true,.fn g2f g2m g2c),(7,true,Enc.v l1),(8,true,Enc.v ((l1.length:Int):Int)),(9,true,Enc.v x7)]∧Nd []∧HSub [] h) hO6 ⟨(),rfl,Nd_nil,HSub.refl _⟩ ?_
 rintro x7 env h x6x ⟨_u,rfl,nd,hs⟩ hX hR6
 refine TK.subH hs ?_
 unfold X.group_each_s6 at hX
 try dsimp only at hX
 refine SR fun K9 hK9=>P1 (p_lss rfl rfl) rfl rfl (TL.nil (hK9 _ _ ?_))
 refine TK.seq_k fun K10 hK10=>?_
 refine TK.cond (b:=(decide (x7<(l1.length:Int)))) rfl (fun hc=>?_) (fun hc=>?_)
 ·have hX:=ite_t hc hX
  refine TK.skip ?_
  refine hK10 _ _ ?_
  refine TK.seq_k fun K11 hK11=>?_
  refine TK.block ?_
  refine SR fun K12 hK12=>?_
  obtain ⟨e13,he13,hX⟩:=bind_some hX
  refine P1 (p_iaL (xs:=l1) kd48 ty54 rfl rfl rfl (fun _=>he13)) rfl rfl (P1 (p_ldE (xs:=l1) (a:=e13) (e13:Tape_api) ty54 rfl rfl (fun _=>he13) rfl rfl rfl) rfl rfl ?_)
  refine TLc.alO (l:=[Enc.v ((0:Int):Int),Enc.v ((0:Int):Int),.nils,Enc.v false]) nd ty54 ti54_z rfl rfl fun b14 nd=>?_
  refine TLc.stV (lu:=Enc.cl (e13:Tape_api)) nd ty54 rfl (j:=0) rfl rfl rfl (Cells_v (e13:Tape_api)) rfl rfl [Enc.v e13.Label,Enc.v e13.Cap,Enc.v e13.Blocks,Enc.v e13.Lost] rfl fun nd=>?_
  refine TL.nil (hK12 _ _ (SR fun K15 hK15=>M rfl rfl (P1 (p_ldVa (l':=Enc.cl (e13:Tape_api)) ty54 rfl rfl nd (j:=0) rfl rfl rfl rfl (Nat.le_of_ble_eq_true rfl)) rfl rfl ?_)))
  obtain ⟨r16,hr16,hX⟩:=bind_some hX
  refine TL.cvX rfl rfl rfl (fun _=>⟨rfl,⟨rfl,trivial⟩⟩) (fun e=>hg2 e13 _ hr16) ?_
  refine P1 (p_not rfl) rfl rfl (TL.nil (hK15 _ _ ?_))
  refine TK.cond (b:=(!r16)) rfl (fun hc=>?_) (fun hc=>?_)
  ·have hX:=ite_t hc hX
   refine SR fun K17 hK17=>M rfl rfl (TL.nil (hK17 _ _ ?_))
   refine TK.ret ?_
   obtain rfl:=hR6 _ (some_in hX).symm
   replace hX:=hA6
   try dsimp only[thenQ]
   exact R1 rfl hX
  ·have hX:=ite_f hc hX
   refine TK.skip ?_
   refine hK11 _ _ ?_
   refine TK.reg ?_
   refine P1 (p_add rfl rfl) rfl rfl (M rfl rfl (TL.nil ?_))
   exact ⟨_,(some_in hX).symm,(),rfl,(Nd.pick nd (is:=[]) Dc),(HSub.pick nd (is:=[]) Dc)⟩
 ·have hX:=ite_f hc hX
  refine TK.exit ?_
  obtain rfl:=hR6 _ (some_in hX).symm
  exact E6 _ _ ⟨(),rfl,Nd_nil,HSub.refl _⟩ hA6
theorem ok_slices_Clone_Lbyte_byte (s1:(List UInt8)) (r:(List UInt8)) (hX:X.slices_Clone_Lbyte_byte s1=some r):Fun Try.prog 61 [Enc.v (s1:(List UInt8))] (·=Enc.v (r:(List UInt8))):=by
 refine Fun.of b61 (Nat.le_of_ble_eq_true rfl) (allVal.mem ⟨(by exact (v_val _)),trivial⟩) ?_
 unfold k61
 have nd:Nd []:=Nd_nil
 unfold X.slices_Clone_Lbyte_byte at hX
 refine SR fun K2 hK2=>M rfl rfl (TL.nil (hK2 _ _ ?_))
 refine TK.seq_k fun K3 hK3=>?_
 refine SR fun K4 hK4=>M rfl rfl ?_
 refine TLc.eqNilU (xs:=s1) kd25 rfl rfl rfl fun z5 hbz5=>?_
 replace hX:=nilU_t hX hbz5
 refine TL.nil (hK4 _ _ ?_)
 refine TK.cond (b:=z5) rfl (fun hc=>?_) (fun hc=>?_)
 ·have hX:=ite_t hc hX
  refine SR fun K6 hK6=>M rfl rfl (TL.nil (hK6 _ _ ?_))
  refine TK.wk 2 (L ([]:(List UInt8))) rfl Wk_nil ?_
  refine TK.ret ?_
  try dsimp only[thenQ]
  exact R1 rfl hX
 ·have hX:=ite_f hc hX
  refine TK.skip ?_
  refine hK3 _ _ (SR fun K7 hK7=>?_)
  refine TLc.litZ kd25 ty5 rfl ?_
  refine M rfl rfl ?_
  obtain ⟨u9,hu9,hX⟩:=bind_some hX
  refine TLc.appN nd kd25 bo25 ty5 rfl rfl (.inr rfl) rfl (Src_L _) Dc (need_t hu9) rfl fun b10 nd=>?_
  refine M rfl rfl (TL.nil (hK7 _ _ ?_))
  refine TK.lay [(2,L s1)] nd (j:=0) rfl ⟨⟨_,rfl,fix_OL nd (j:=0) rfl,rfl⟩,trivial⟩ fun nd=>?_
  refine TK.ret ?_
  try dsimp only[thenQ]
  exact R1 rfl hX
theorem ok_code_NewReader (b1:(List UInt8)) (nd:Nd []) (r:((List UInt8)×Bool)) (hX:X.code_NewReader b1=some r):TCX Try.prog 157 [Enc.v (b1:(List UInt8))] [] (fun rv h'=>∃b6,rv= .ref b6 0 2∧h'=[(b6,RV 215 [Enc.v (r.1:(List UInt8)),Enc.v (r.2:Bool)])]):=by
 refine TCX.of b157 (Nat.le_of_ble_eq_true rfl) ?_
 unfold k157
 unfold X.code_NewReader at hX
 refine SR fun K2 hK2=>M rfl rfl (TL.nil (hK2 _ _ (SR fun K3 hK3=>M rfl rfl ?_)))
 obtain ⟨r4,hr4,hX⟩:=bind_some hX
 refine TL.cvX rfl rfl rfl (fun _=>⟨rfl,⟨rfl,trivial⟩⟩) (fun e=>ok_slices_Clone_Lbyte_byte b1 _ hr4) ?_
 refine P1 (p_bld (l:=Enc.cl ((Reader_code.mk r4 false):Reader_code)) ty215 rfl all215 rfl (fun _=>⟨⟨rfl,trivial,rfl⟩,trivial⟩)) rfl rfl ?_
 refine TLc.boxO (lu:=[Enc.v ((Reader_code.mk r4 false).b_:(List UInt8)),Enc.v ((Reader_code.mk r4 false).bad_:Bool)]) nd rfl (Cells_v ((Reader_code.mk r4 false):Reader_code)) rfl fun b5 nd=>?_
 refine M rfl rfl (TL.nil (hK3 _ _ ?_))
 refine TK.ret ?_
 try dsimp only[thenQ]
 exact retX (v:= .ref b5 0 2) (res1 rfl) (by obtain rfl:=some_in hX;exact ⟨b5,rfl,rfl⟩) nd (inH_ref nd (j:=0) rfl) ⟨rowIn_RV ⟨inH_val (v_val _),inH_val (v_val _),trivial⟩,trivial⟩
theorem ok_code_Reader_take (n4:Int) (b1:(List UInt8)) (bad2:Bool) (b3:Nat) (nd:Nd [(b3,RV 215 [Enc.v (b1:(List UInt8)),Enc.v (bad2:Bool)])]) (r:((List UInt8)×((List UInt8)×Bool))) (hX:X.code_Reader_take n4 b1 bad2=some r):TCX Try.prog 187 [.ref b3 0 2,Enc.v (n4:Int)] [(b3,RV 215 [Enc.v (b1:(List UInt8)),Enc.v (bad2:Bool)])] (fun rv h'=>rv=Enc.v (r.1:(List UInt8))∧h'=[(b3,RV 215 [Enc.v (r.2.1:(List UInt8)),Enc.v (r.2.2:Bool)])]):=by
 refine TCX.of b187 (Nat.le_of_ble_eq_true rfl) ?_
 unfold k187
 unfold X.code_Reader_take at hX
 refine SR fun K5 hK5=>M rfl rfl (TL.nil (hK5 _ _ ?_))
 refine TK.seq_k fun K6 hK6=>?_
 refine SR fun K7 hK7=>M rfl rfl (P1 (p_eqP kd192 rfl rfl (fun _=>refOK_of nd (j:=0) rfl rfl)) rfl rfl (M rfl rfl ?_))
 refine TL.guardT rfl ?_
 refine M rfl rfl ?_
 refine TL.guardT rfl ?_
 refine P1 (p_ncR rfl (fun _=>refOK_of nd (j:=0) rfl rfl)) rfl rfl ?_
 refine TL.guardT rfl ?_
 refine P1 (p_faV fs215_1 Dc rfl nd (j:=0) rfl rfl) rfl rfl ?_
 refine TL.guardT rfl ?_
 refine P1 (p_ldV (v:=Enc.v bad2) ty4 rfl rfl nd (j:=0) rfl rfl rfl rfl rfl) rfl rfl (P1 (p_or rfl rfl (fun e=>⟨rfl,fun h=>rfl⟩)) rfl rfl (TL.nil (hK7 _ _ ?_)))
 refine TK.cond (b:=bad2) rfl (fun hc=>?_) (fun hc=>?_)
 ·have hX:=ite_t hc hX
  refine SR fun K8 hK8=>M rfl rfl (TL.nil (hK8 _ _ ?_))
  refine TK.wk 4 (L ([]:(List UInt8))) rfl Wk_nil ?_
  refine TK.ret ?_
  try dsimp only[thenQ]
  exact retX (v:=Enc.v (([]:(List UInt8)):(List UInt8))) (res1 rfl) (by obtain rfl:=some_in hX;exact ⟨rfl,rfl⟩) nd (inH_val (v_val _)) ⟨rowIn_RV ⟨inH_val (v_val _),inH_val (v_val _),trivial⟩,trivial⟩
 ·have hX:=ite_f hc hX
  refine TK.skip ?_
  refine hK6 _ _ ?_
  refine TK.seq_k fun K9 hK9=>?_
  refine SR fun K10 hK10=>M rfl rfl (M rfl rfl (P1 (p_ncR rfl (fun _=>refOK_of nd (j:=0) rfl rfl)) rfl rfl (P1 (p_faV fs215_0 Dc rfl nd (j:=0) rfl rfl) rfl rfl (P1 (p_ldV (v:=Enc.v b1) ty25 rfl rfl nd (j:=0) rfl rfl rfl rfl rfl) rfl rfl (P1 (p_lenL (xs:=b1) kd25 rfl) rfl rfl (P1 (p_gtr rfl rfl) rfl rfl (TL.nil (hK10 _ _ ?_))))))))
  refine TK.cond (b:=(decide (n4>(b1.length:Int)))) rfl (fun hc=>?_) (fun hc=>?_)
  ·have hX:=ite_t hc hX
   refine SR fun K11 hK11=>M rfl rfl (M rfl rfl (P1 (p_ncR rfl (fun _=>refOK_of nd (j:=0) rfl rfl)) rfl rfl (P1 (p_faV fs215_0 Dc rfl nd (j:=0) rfl rfl) rfl rfl ?_)))
   refine TLc.stV (lu:=[.nils]) nd ty25 rfl (j:=0) rfl rfl rfl (Cells_one trivial) rfl rfl [.nils,Enc.v bad2] rfl fun nd=>?_
   refine P1 (p_ncR rfl (fun _=>refOK_of nd (j:=0) rfl rfl)) rfl rfl (P1 (p_faV fs215_1 Dc rfl nd (j:=0) rfl rfl) rfl rfl ?_)
   refine TLc.stV (lu:=Enc.cl (true:Bool)) nd ty4 rfl (j:=0) rfl rfl rfl (Cells_v (true:Bool)) rfl rfl [.nils,Enc.v true] rfl fun nd=>?_
   refine TL.nil (hK11 _ _ ?_)
   refine TK.cvR nd (j:=0) rfl (l':=[Enc.v (([]:(List UInt8)):(List UInt8)),Enc.v true]) ⟨Wk_nil,Wk.refl _,trivial⟩ fun nd=>?_
   refine SR fun K12 hK12=>M rfl rfl (TL.nil (hK12 _ _ ?_))
   refine TK.wk 4 (L ([]:(List UInt8))) rfl Wk_nil ?_
   refine TK.ret ?_
   try dsimp only[thenQ]
   exact retX (v:=Enc.v (([]:(List UInt8)):(List UInt8))) (res1 rfl) (by obtain rfl:=some_in hX;exact ⟨rfl,rfl⟩) nd (inH_val (v_val _)) ⟨rowIn_RV ⟨inH_val (v_val _),inH_val (v_val _),trivial⟩,trivial⟩
  ·have hX:=ite_f hc hX
   refine TK.skip ?_
   refine hK9 _ _ (SR fun K13 hK13=>M rfl rfl (P1 (p_ncR rfl (fun _=>refOK_of nd (j:=0) rfl rfl)) rfl rfl (P1 (p_faV fs215_0 Dc rfl nd (j:=0) rfl rfl) rfl rfl (P1 (p_ldV (v:=Enc.v b1) ty25 rfl rfl nd (j:=0) rfl rfl rfl rfl rfl) rfl rfl (M rfl rfl ?_)))))
   obtain ⟨u14,hu14,hX⟩:=bind_some hX
   refine P1 (p_sliL (xs:=b1) (l:=(0:Int)) (k:=n4) kd25 ty5 rfl rfl rfl rfl (fun e=>need_t hu14)) rfl rfl (M rfl rfl (TL.nil (hK13 _ _ (SR fun K15 hK15=>M rfl rfl (M rfl rfl (P1 (p_ncR rfl (fun _=>refOK_of nd (j:=0) rfl rfl)) rfl rfl (P1 (p_faV fs215_0 Dc rfl nd (j:=0) rfl rfl) rfl rfl (P1 (p_ldV (v:=Enc.v b1) ty25 rfl rfl nd (j:=0) rfl rfl rfl rfl rfl) rfl rfl (M rfl rfl ?_)))))))))
   obtain ⟨u16,hu16,hX⟩:=bind_some hX
   refine P1 (p_sliL (xs:=b1) (l:=n4) (k:=(b1.length:Int)) kd25 ty5 rfl rfl rfl rfl (fun e=>need_t hu16)) rfl rfl (P1 (p_ncR rfl (fun _=>refOK_of nd (j:=0) rfl rfl)) rfl rfl (P1 (p_faV fs215_0 Dc rfl nd (j:=0) rfl rfl) rfl rfl ?_))
   refine TLc.stV (lu:=Enc.cl ((slc b1 n4 (b1.length:Int)):(List UInt8))) nd ty25 rfl (j:=0) rfl rfl rfl (Cells_v ((slc b1 n4 (b1.length:Int)):(List UInt8))) rfl rfl [Enc.v ((slc b1 n4 (b1.length:Int)):(List UInt8)),Enc.v bad2] rfl fun nd=>?_
   refine TL.nil (hK15 _ _ (SR fun K17 hK17=>M rfl rfl (M rfl rfl (TL.nil (hK17 _ _ ?_)))))
   refine TK.ret ?_
   try dsimp only[thenQ]
   exact retX (v:=Enc.v ((slc b1 (0:Int) n4):(List UInt8))) (res1 rfl) (by obtain rfl:=some_in hX;exact ⟨rfl,rfl⟩) nd (inH_val (v_val _)) ⟨rowIn_RV ⟨inH_val (v_val _),inH_val (v_val _),trivial⟩,trivial⟩
theorem ok_code_Reader_Byte (b1:(List UInt8)) (bad2:Bool) (b3:Nat) (nd:Nd [(b3,RV 215 [Enc.v (b1:(List UInt8)),Enc.v (bad2:Bool)])]) (r:(UInt8×((List UInt8)×Bool))) (hX:X.code_Reader_Byte b1 bad2=some r):TCX Try.prog 159 [.ref b3 0 2] [(b3,RV 215 [Enc.v (b1:(List UInt8)),Enc.v (bad2:Bool)])] (fun rv h'=>rv=Enc.v (r.1:UInt8)∧h'=[(b3,RV 215 [Enc.v (r.2.1:(List UInt8)),Enc.v (r.2.2:Bool)])]):=by
 refine TCX.of b159 (Nat.le_of_ble_eq_true rfl) ?_
 unfold k159
 unfold X.code_Reader_Byte at hX
 refine SR fun K4 hK4=>M rfl rfl (TL.nil (hK4 _ _ (SR fun K5 hK5=>M rfl rfl ?_)))
 obtain ⟨r6,hr6,hX⟩:=bind_some hX
 refine TL.tcX [(b3,RV 215 [Enc.v b1,Enc.v bad2])] [] rfl nd (dlt rfl) rfl ⟨rfl,⟨rfl,⟨rfl,trivial⟩⟩⟩ (ok_code_Reader_take (1:Int) b1 bad2 b3 (Nd.take nd 1 rfl) _ hr6) ?_
 rintro _ _ hQ nd
 obtain ⟨rfl,rfl⟩:=hQ
 refine M rfl rfl (TL.nil (hK5 _ _ ?_))
 refine TK.seq_k fun K8 hK8=>?_
 refine SR fun K9 hK9=>M rfl rfl (P1 (p_lenL (xs:=r6.1) kd25 rfl) rfl rfl (P1 (p_eql rfl rfl) rfl rfl (TL.nil (hK9 _ _ ?_))))
 refine TK.cond (b:=((r6.1.length:Int)==(0:Int))) rfl (fun hc=>?_) (fun hc=>?_)
 ·have hX:=ite_t hc hX
  refine SR fun K10 hK10=>M rfl rfl (TL.nil (hK10 _ _ ?_))
  refine TK.ret ?_
  try dsimp only[thenQ]
  exact retX (v:=Enc.v ((0:UInt8):UInt8)) (res1 rfl) (by obtain rfl:=some_in hX;exact ⟨rfl,rfl⟩) nd (inH_val (v_val _)) ⟨rowIn_RV ⟨inH_val (v_val _),inH_val (v_val _),trivial⟩,trivial⟩
 ·have hX:=ite_f hc hX
  refine TK.skip ?_
  refine hK8 _ _ (SR fun K11 hK11=>M rfl rfl ?_)
  obtain ⟨e12,he12,hX⟩:=bind_some hX
  refine P1 (p_iaL (xs:=r6.1) kd25 ty5 rfl rfl rfl (fun _=>he12)) rfl rfl (P1 (p_ldE (xs:=r6.1) (a:=e12) (e12:UInt8) ty5 rfl rfl (fun _=>he12) rfl rfl rfl) rfl rfl (M rfl rfl (TL.nil (hK11 _ _ ?_))))
  refine TK.ret ?_
  try dsimp only[thenQ]
  exact retX (v:=Enc.v e12) (res1 rfl) (by obtain rfl:=some_in hX;exact ⟨rfl,rfl⟩) nd (inH_val (v_val _)) ⟨rowIn_RV ⟨inH_val (v_val _),inH_val (v_val _),trivial⟩,trivial⟩
theorem ok_code_Reader_Int (b1:(List UInt8)) (bad2:Bool) (b3:Nat) (nd:Nd [(b3,RV 215 [Enc.v (b1:(List UInt8)),Enc.v (bad2:Bool)])]) (r:(Int×((List UInt8)×Bool))) (hX:X.code_Reader_Int b1 bad2=some r):TCX Try.prog 158 [.ref b3 0 2] [(b3,RV 215 [Enc.v (b1:(List UInt8)),Enc.v (bad2:Bool)])] (fun rv h'=>rv=Enc.v (r.1:Int)∧h'=[(b3,RV 215 [Enc.v (r.2.1:(List UInt8)),Enc.v (r.2.2:Bool)])]):=by
 refine TCX.of b158 (Nat.le_of_ble_eq_true rfl) ?_
 unfold k158
 unfold X.code_Reader_Int at hX
 refine SR fun K4 hK4=>M rfl rfl (TL.nil (hK4 _ _ (SR fun K5 hK5=>M rfl rfl (TL.nil (hK5 _ _ ?_)))))
 refine TK.seq_k fun K6 hK6=>?_
 refine SR fun K7 hK7=>M rfl rfl ?_
 obtain ⟨r8,hr8,hX⟩:=bind_some hX
 refine TL.tcX [(b3,RV 215 [Enc.v b1,Enc.v bad2])] [] rfl nd (dlt rfl) rfl ⟨rfl,⟨rfl,⟨rfl,trivial⟩⟩⟩ (ok_code_Reader_take (4:Int) b1 bad2 b3 (Nd.take nd 1 rfl) _ hr8) ?_
 rintro _ _ hQ nd
 obtain ⟨rfl,rfl⟩:=hQ
 refine P1 (p_lenL (xs:=r8.1) kd25 rfl) rfl rfl (M rfl rfl (TL.nil (hK7 _ _ ?_)))
 refine TK.block ?_
 obtain ⟨o10,hO10,hA10⟩:=bind_some hX
 have E10:∀(n15:UInt32) (env:Env) (h:Hp),(∃_u:Unit,keepE [0,3] env=[(0,true,.ref b3 0 2),(3,true,Enc.v n15)]∧Nd [(b3,RV 215 [Enc.v r8.2.1,Enc.v r8.2.2])]∧HSub [(b3,RV 215 [Enc.v r8.2.1,Enc.v r8.2.2])] h)→X.code_Reader_Int_e10 r8 n15=some r→K6 env h:=by
  intro n15 env h hE hX
  obtain ⟨_u,henv,nd,hs⟩:=hE
  unfold X.code_Reader_Int_e10 at hX
  refine hK6 _ _ (TK.keep [0,3] ?_)
  rw[henv]
  refine TK.subH hs ?_
  refine SR fun K16 hK16=>M rfl rfl (P1 (p_cvt src106 kd3 rfl (cv_32 n15)) rfl rfl (M rfl rfl (TL.nil (hK16 _ _ ?_))))
  refine TK.ret ?_
  try dsimp only[thenQ]
  exact retX (v:=Enc.v ((n15.toNat:Int):Int)) (res1 rfl) (by obtain rfl:=some_in hX;exact ⟨rfl,rfl⟩) nd (inH_val (v_val _)) ⟨rowIn_RV ⟨inH_val (v_val _),inH_val (v_val _),trivial⟩,trivial⟩
 refine TK.iter [0,3,7,8,9] (fun s env h=>match s with|(n12,x13)=>∃_u:Unit,env=[(0,true,.ref b3 0 2),(3,true,Enc.v n12),(7,true,Enc.v r8.1),(8,true,Enc.v ((r8.1.length:Int):Int)),(9,true,Enc.v x13)]∧Nd [(b3,RV 215 [Enc.v r8.2.1,Enc.v r8.2.2])]∧HSub [(b3,RV 215 [Enc.v r8.2.1,Enc.v r8.2.2])] h) hO10 ⟨(),rfl,(Nd.pick nd (is:=[0]) Dc),(HSub.pick nd (is:=[0]) Dc)⟩ ?_
 rintro ⟨n12,x13⟩ env h x10x ⟨_u,rfl,nd,hs⟩ hX hR10
 refine TK.subH hs ?_
 unfold X.code_Reader_Int_s10 at hX
 try dsimp only at hX
 refine SR fun K17 hK17=>P1 (p_lss rfl rfl) rfl rfl (TL.nil (hK17 _ _ ?_))
 refine TK.seq_k fun K18 hK18=>?_
 refine TK.cond (b:=(decide (x13<(r8.1.length:Int)))) rfl (fun hc=>?_) (fun hc=>?_)
 ·have hX:=ite_t hc hX
  refine TK.skip ?_
  refine hK18 _ _ ?_
  refine TK.seq_k fun K19 hK19=>?_
  refine TK.block ?_
  refine SR fun K20 hK20=>?_
  obtain ⟨e21,he21,hX⟩:=bind_some hX
  refine P1 (p_iaL (xs:=r8.1) kd25 ty5 rfl rfl rfl (fun _=>he21)) rfl rfl (P1 (p_ldE (xs:=r8.1) (a:=e21) (e21:UInt8) ty5 rfl rfl (fun _=>he21) rfl rfl rfl) rfl rfl (M rfl rfl (TL.nil (hK20 _ _ ?_))))
  refine TK.reg ?_
  refine M rfl rfl (P1 (p32_shl (a:=n12) (b:=8) rfl rfl) rfl rfl (M rfl rfl (P1 (p_cvt src5 kd106 rfl (cv_u32 _)) rfl rfl (P1 (p32_or (a:=(shl32 n12 8)) (b:=(u32 (e21.toNat:Int))) rfl rfl) rfl rfl (M rfl rfl (TL.nil (hK19 _ _ ?_)))))))
  refine TK.reg ?_
  refine P1 (p_add rfl rfl) rfl rfl (M rfl rfl (TL.nil ?_))
  exact ⟨_,(some_in hX).symm,(),rfl,(Nd.pick nd (is:=[0]) Dc),(HSub.pick nd (is:=[0]) Dc)⟩
 ·have hX:=ite_f hc hX
  refine TK.exit ?_
  obtain rfl:=hR10 _ (some_in hX).symm
  exact E10 n12 _ _ ⟨(),rfl,(Nd.pick nd (is:=[0]) Dc),(HSub.pick nd (is:=[0]) Dc)⟩ hA10
theorem ok_code_Reader_Raw (n4:Int) (b1:(List UInt8)) (bad2:Bool) (b3:Nat) (nd:Nd [(b3,RV 215 [Enc.v (b1:(List UInt8)),Enc.v (bad2:Bool)])]) (r:((List UInt8)×((List UInt8)×Bool))) (hX:X.code_Reader_Raw n4 b1 bad2=some r):TCX Try.prog 185 [.ref b3 0 2,Enc.v (n4:Int)] [(b3,RV 215 [Enc.v (b1:(List UInt8)),Enc.v (bad2:Bool)])] (fun rv h'=>rv=Enc.v (r.1:(List UInt8))∧h'=[(b3,RV 215 [Enc.v (r.2.1:(List UInt8)),Enc.v (r.2.2:Bool)])]):=by
 refine TCX.of b185 (Nat.le_of_ble_eq_true rfl) ?_
 unfold k185
 unfold X.code_Reader_Raw at hX
 refine SR fun K5 hK5=>M rfl rfl (TL.nil (hK5 _ _ (SR fun K6 hK6=>M rfl rfl (M rfl rfl (P1 (p_max rfl rfl) rfl rfl ?_)))))
 obtain ⟨r7,hr7,hX⟩:=bind_some hX
 refine TL.tcX [(b3,RV 215 [Enc.v b1,Enc.v bad2])] [] rfl nd (dlt rfl) rfl ⟨rfl,⟨rfl,⟨rfl,trivial⟩⟩⟩ (ok_code_Reader_take (max (0:Int) n4) b1 bad2 b3 (Nd.take nd 1 rfl) _ hr7) ?_
 rintro _ _ hQ nd
 obtain ⟨rfl,rfl⟩:=hQ
 obtain ⟨r9,hr9,hX⟩:=bind_some hX
 refine TL.cvX rfl rfl rfl (fun _=>⟨rfl,⟨rfl,trivial⟩⟩) (fun e=>ok_slices_Clone_Lbyte_byte r7.1 _ hr9) ?_
 refine M rfl rfl (TL.nil (hK6 _ _ ?_))
 refine TK.ret ?_
 try dsimp only[thenQ]
 exact retX (v:=Enc.v r9) (res1 rfl) (by obtain rfl:=some_in hX;exact ⟨rfl,rfl⟩) nd (inH_val (v_val _)) ⟨rowIn_RV ⟨inH_val (v_val _),inH_val (v_val _),trivial⟩,trivial⟩
theorem ok_code_Reader_Bad (b1:(List UInt8)) (bad2:Bool) (r:Bool) (hX:X.code_Reader_Bad b1 bad2=some r):Fun Try.prog 161 [.vref (ofL [Enc.v (b1:(List UInt8)),Enc.v (bad2:Bool)]) 2 0] (·=Enc.v (r:Bool)):=by
 refine Fun.of b161 (Nat.le_of_ble_eq_true rfl) (allVal.mem ⟨(by exact (vref_val (l:=[Enc.v (b1:(List UInt8)),Enc.v (bad2:Bool)]) rfl ⟨(v_val _),(v_val _),trivial⟩)),trivial⟩) ?_
 unfold k161
 have nd:Nd []:=Nd_nil
 unfold X.code_Reader_Bad at hX
 refine SR fun K3 hK3=>M rfl rfl (TL.nil (hK3 _ _ (SR fun K4 hK4=>M rfl rfl (P1 (p_neV kd192 rfl rfl) rfl rfl (M rfl rfl ?_)))))
 refine TL.guardT rfl ?_
 refine M rfl rfl ?_
 refine TL.guardT rfl ?_
 refine P1 (p_ncV rfl) rfl rfl ?_
 refine TL.guardT rfl ?_
 refine P1 (p_faR fs215_1 Dc rfl) rfl rfl ?_
 refine TL.guardT rfl ?_
 refine P1 (p_ldR (v:=Enc.v bad2) ty4 rfl rfl rfl rfl rfl rfl) rfl rfl (P1 (p_and rfl rfl (fun e=>⟨rfl,fun h=>rfl⟩)) rfl rfl (M rfl rfl (TL.nil (hK4 _ _ ?_))))
 refine TK.ret ?_
 try dsimp only[thenQ]
 exact R1 rfl hX
theorem ok_frame_room (kind1:Int) (r:Int) (hX:X.frame_room kind1=some r):Fun Try.prog 183 [Enc.v (kind1:Int)] (·=Enc.v (r:Int)):=by
 refine Fun.of b183 (Nat.le_of_ble_eq_true rfl) (allVal.mem ⟨(by exact (v_val _)),trivial⟩) ?_
 unfold k183
 have nd:Nd []:=Nd_nil
 unfold X.frame_room at hX
 refine SR fun K2 hK2=>M rfl rfl (TL.nil (hK2 _ _ ?_))
 refine TK.seq_k fun K3 hK3=>?_
 refine SR fun K4 hK4=>M rfl rfl (P1 (p_eql rfl rfl) rfl rfl (TL.nil (hK4 _ _ ?_)))
 refine TK.cond (b:=(kind1==(6:Int))) rfl (fun hc=>?_) (fun hc=>?_)
 ·have hX:=ite_t hc hX
  refine SR fun K5 hK5=>M rfl rfl (TL.nil (hK5 _ _ ?_))
  refine TK.ret ?_
  try dsimp only[thenQ]
  exact R1 rfl hX
 ·have hX:=ite_f hc hX
  refine TK.skip ?_
  refine hK3 _ _ (SR fun K6 hK6=>M rfl rfl (TL.nil (hK6 _ _ ?_)))
  refine TK.ret ?_
  try dsimp only[thenQ]
  exact R1 rfl hX
theorem ok_frame_check (u1:Unit_api) (r:Int) (hX:X.frame_check u1=some r):Fun Try.prog 154 [Enc.v (u1:Unit_api)] (·=Enc.v (r:Int)):=by
 refine Fun.of b154 (Nat.le_of_ble_eq_true rfl) (allVal.mem ⟨(by exact (v_val _)),trivial⟩) ?_
 unfold k154
 have nd:Nd []:=Nd_nil
 unfold X.frame_check at hX
 refine SR fun K2 hK2=>?_
 refine TLc.boxV (lu:=[Enc.v u1.Kind,Enc.v u1.Label,Enc.v u1.Number,Enc.v u1.Load]) nd rfl (Cells_v (u1:Unit_api)) rfl ?_
 refine M rfl rfl (TL.nil (hK2 _ _ ?_))
 refine TK.seq_k fun K3 hK3=>?_
 refine SR fun K4 hK4=>P1 (p_faR fs68_1 Dc rfl) rfl rfl (P1 (p_ldR (v:=Enc.v u1.Label) ty3 rfl rfl rfl rfl rfl rfl) rfl rfl (P1 (p_lss rfl rfl) rfl rfl (M rfl rfl ?_)))
 refine TLc.p (gc:=(!((decide (u1.Label<(1:Int)))))) (p_faR fs68_1 Dc rfl (hg:=fun e=>rfl)) (gcF1 rfl) rfl ?_
 refine TLc.p (gc:=(!((decide (u1.Label<(1:Int)))))) (p_ldR (v:=Enc.v u1.Label) ty3 rfl rfl rfl rfl rfl rfl (hg:=fun e=>e)) (gcF1 rfl) rfl ?_
 refine TLc.p (gc:=(!((decide (u1.Label<(1:Int)))))) (p_gtr rfl rfl (hg:=fun e=>⟨e,rfl⟩)) (gcF1 rfl) rfl ?_
 refine P1 (p_or rfl rfl (fun e=>⟨rfl,fun h=>(not_t h)⟩)) rfl rfl (M rfl rfl ?_)
 refine TLc.p (gc:=(!(((decide (u1.Label<(1:Int)))||(decide (u1.Label>(2147483647:Int))))))) (p_faR fs68_2 Dc rfl (hg:=fun e=>rfl)) (gcF1 rfl) rfl ?_
 refine TLc.p (gc:=(!(((decide (u1.Label<(1:Int)))||(decide (u1.Label>(2147483647:Int))))))) (p_ldR (v:=Enc.v u1.Number) ty3 rfl rfl rfl rfl rfl rfl (hg:=fun e=>e)) (gcF1 rfl) rfl ?_
 refine TLc.p (gc:=(!(((decide (u1.Label<(1:Int)))||(decide (u1.Label>(2147483647:Int))))))) (p_lss rfl rfl (hg:=fun e=>⟨e,rfl⟩)) (gcF1 rfl) rfl ?_
 refine P1 (p_or rfl rfl (fun e=>⟨rfl,fun h=>(not_t h)⟩)) rfl rfl (M rfl rfl ?_)
 refine TLc.p (gc:=(!((((decide (u1.Label<(1:Int)))||(decide (u1.Label>(2147483647:Int))))||(decide (u1.Number<(0:Int))))))) (p_faR fs68_2 Dc rfl (hg:=fun e=>rfl)) (gcF1 rfl) rfl ?_
 refine TLc.p (gc:=(!((((decide (u1.Label<(1:Int)))||(decide (u1.Label>(2147483647:Int))))||(decide (u1.Number<(0:Int))))))) (p_ldR (v:=Enc.v u1.Number) ty3 rfl rfl rfl rfl rfl rfl (hg:=fun e=>e)) (gcF1 rfl) rfl ?_
 refine TLc.p (gc:=(!((((decide (u1.Label<(1:Int)))||(decide (u1.Label>(2147483647:Int))))||(decide (u1.Number<(0:Int))))))) (p_gtr rfl rfl (hg:=fun e=>⟨e,rfl⟩)) (gcF1 rfl) rfl ?_
 refine P1 (p_or rfl rfl (fun e=>⟨rfl,fun h=>(not_t h)⟩)) rfl rfl (TL.nil (hK4 _ _ ?_))
 refine TK.cond (b:=((((decide (u1.Label<(1:Int)))||(decide (u1.Label>(2147483647:Int))))||(decide (u1.Number<(0:Int))))||(decide (u1.Number>(2147483647:Int))))) rfl (fun hc=>?_) (fun hc=>?_)
 ·have hX:=ite_t hc hX
  refine SR fun K5 hK5=>M rfl rfl (TL.nil (hK5 _ _ ?_))
  refine TK.ret ?_
  try dsimp only[thenQ]
  exact R1 rfl hX
 ·have hX:=ite_f hc hX
  refine TK.skip ?_
  refine hK3 _ _ ?_
  refine TK.seq_k fun K6 hK6=>?_
  refine SR fun K7 hK7=>P1 (p_faR fs68_0 Dc rfl) rfl rfl (P1 (p_ldR (v:=Enc.v u1.Kind) ty3 rfl rfl rfl rfl rfl rfl) rfl rfl (TL.nil (hK7 _ _ ?_)))
  refine TK.block ?_
  refine TK.seq_k fun K8 hK8=>?_
  have J8:∀(env:Env) (h:Hp),(∃_u:Unit,keepE [1] env=[(1,true,.vref (ofL [Enc.v u1.Kind,Enc.v u1.Label,Enc.v u1.Number,Enc.v u1.Load]) 4 0)]∧Nd []∧HSub [] h)→X.frame_check_j8 u1=some r→K8 env h:=by
   intro env h hE hX
   obtain ⟨_u,henv,nd,hs⟩:=hE
   unfold X.frame_check_j8 at hX
   refine hK8 _ _ (TK.keep [1] ?_)
   rw[henv]
   refine TK.subH hs ?_
   refine TK.seq_k fun K9 hK9=>?_
   refine TK.seq_k fun K10 hK10=>?_
   refine TK.seq_k fun K11 hK11=>?_
   have ndS:Nd []:=Nd.pick nd (is:=[]) Dc
   refine TK.drwX (h:=[]) (hS:=[]) [(0,0),(0,1),(0,2),(0,3),(0,4),(0,5),(0,6)] mixed (by kernel_rfl) (HSub_app nd) ?_
   refine D0 rfl (p_faR fs68_3 Dc rfl) rfl rfl ?_
   refine D0 rfl (p_ldR (v:=Enc.v u1.Load) ty25 rfl rfl rfl rfl rfl rfl) rfl rfl ?_
   refine D0 rfl (p_lenL (xs:=u1.Load) kd25 rfl) rfl rfl ?_
   refine D0 rfl (p_faR fs68_0 Dc rfl) rfl rfl ?_
   refine D0 rfl (p_ldR (v:=Enc.v u1.Kind) ty3 rfl rfl rfl rfl rfl rfl) rfl rfl ?_
   obtain ⟨r12,hr12,hX⟩:=bind_some hX
   refine DR0 (gc:=true) rfl (vok_c rfl (fun _=>⟨rfl,⟨rfl,trivial⟩⟩) (fun e=>ok_frame_room u1.Kind _ hr12)) rfl rfl ?_
   refine D0 rfl (p_gtr rfl rfl) rfl rfl ?_
   refine DRend ?_
   refine hK11 _ _ ?_
   refine TK.cond (b:=(decide ((u1.Load.length:Int)>r12))) rfl (fun hc=>?_) (fun hc=>?_)
   ·have hX:=ite_t hc hX
    refine SR fun K13 hK13=>M rfl rfl (TL.nil (hK13 _ _ ?_))
    refine TK.ret ?_
    try dsimp only[thenQ]
    exact R1 rfl hX
   ·have hX:=ite_f hc hX
    refine TK.skip ?_
    refine hK10 _ _ (SR fun K14 hK14=>M rfl rfl (TL.nil (hK14 _ _ ?_)))
    refine TK.ret ?_
    try dsimp only[thenQ]
    exact R1 rfl hX
  refine TK.block ?_
  refine TK.block ?_
  refine TK.block ?_
  refine TK.block ?_
  refine TK.block ?_
  refine TK.block ?_
  refine TK.seq_k fun K15 hK15=>?_
  refine TK.seq_k fun K16 hK16=>?_
  refine SR fun K17 hK17=>P1 (p_eql rfl rfl) rfl rfl (M rfl rfl (TL.nil (hK17 _ _ ?_)))
  refine TK.cond (b:=(u1.Kind==(1:Int))) rfl (fun hc=>?_) (fun hc=>?_)
  ·have hX:=ite_t hc hX
   refine TK.exit ?_
   exact J8 _ _ ⟨(),rfl,Nd_nil,HSub.refl _⟩ hX
  ·have hX:=ite_f hc hX
   refine TK.skip ?_
   refine hK16 _ _ ?_
   refine TK.seq_k fun K18 hK18=>?_
   refine SR fun K19 hK19=>P1 (p_eql rfl rfl) rfl rfl (M rfl rfl (TL.nil (hK19 _ _ ?_)))
   refine TK.cond (b:=(u1.Kind==(2:Int))) rfl (fun hc=>?_) (fun hc=>?_)
   ·have hX:=ite_t hc hX
    refine TK.exit ?_
    exact J8 _ _ ⟨(),rfl,Nd_nil,HSub.refl _⟩ hX
   ·have hX:=ite_f hc hX
    refine TK.skip ?_
    refine hK18 _ _ ?_
    refine TK.seq_k fun K20 hK20=>?_
    refine SR fun K21 hK21=>P1 (p_eql rfl rfl) rfl rfl (M rfl rfl (TL.nil (hK21 _ _ ?_)))
    refine TK.cond (b:=(u1.Kind==(3:Int))) rfl (fun hc=>?_) (fun hc=>?_)
    ·have hX:=ite_t hc hX
     refine TK.exit ?_
     exact J8 _ _ ⟨(),rfl,Nd_nil,HSub.refl _⟩ hX
    ·have hX:=ite_f hc hX
     refine TK.skip ?_
     refine hK20 _ _ ?_
     refine TK.seq_k fun K22 hK22=>?_
     refine SR fun K23 hK23=>P1 (p_eql rfl rfl) rfl rfl (M rfl rfl (TL.nil (hK23 _ _ ?_)))
     refine TK.cond (b:=(u1.Kind==(4:Int))) rfl (fun hc=>?_) (fun hc=>?_)
     ·have hX:=ite_t hc hX
      refine TK.exit ?_
      exact J8 _ _ ⟨(),rfl,Nd_nil,HSub.refl _⟩ hX
     ·have hX:=ite_f hc hX
      refine TK.skip ?_
      refine hK22 _ _ ?_
      refine TK.seq_k fun K24 hK24=>?_
      refine SR fun K25 hK25=>P1 (p_eql rfl rfl) rfl rfl (M rfl rfl (TL.nil (hK25 _ _ ?_)))
      refine TK.cond (b:=(u1.Kind==(5:Int))) rfl (fun hc=>?_) (fun hc=>?_)
      ·have hX:=ite_t hc hX
       refine TK.exit ?_
       exact J8 _ _ ⟨(),rfl,Nd_nil,HSub.refl _⟩ hX
      ·have hX:=ite_f hc hX
       refine TK.skip ?_
       refine hK24 _ _ (SR fun K26 hK26=>P1 (p_eql rfl rfl) rfl rfl (M rfl rfl (TL.nil (hK26 _ _ ?_))))
       refine TK.cond (b:=(u1.Kind==(6:Int))) rfl (fun hc=>?_) (fun hc=>?_)
       ·have hX:=ite_t hc hX
        refine TK.exit ?_
        exact J8 _ _ ⟨(),rfl,Nd_nil,HSub.refl _⟩ hX
       ·have hX:=ite_f hc hX
        refine TK.skip ?_
        refine hK15 _ _ ?_
        refine TK.exit ?_
        refine hK6 _ _ (SR fun K27 hK27=>M rfl rfl (TL.nil (hK27 _ _ ?_)))
        refine TK.ret ?_
        try dsimp only[thenQ]
        exact R1 rfl hX
theorem ok_code_Writer_Byte (c4:UInt8) (b1:(List UInt8)) (b2:Nat) (b3:Nat) (nd:Nd [(b2,RV 186 [OL (α:=UInt8) b3 b1]),(b3,RL (α:=UInt8) 5 b1)]) (r:(List UInt8)) (hX:X.code_Writer_Byte c4 b1=some r):TCX Try.prog 152 [.ref b2 0 1,Enc.v (c4:UInt8)] [(b2,RV 186 [OL (α:=UInt8) b3 b1]),(b3,RL (α:=UInt8) 5 b1)] (fun rv h'=>∃b7,rv= .tup 0 (ofL [])∧h'=[(b2,RV 186 [OL (α:=UInt8) b7 r]),(b7,RL (α:=UInt8) 5 r)]):=by
 refine TCX.of b152 (Nat.le_of_ble_eq_true rfl) ?_
 unfold k152
 unfold X.code_Writer_Byte at hX
 refine TK.endK fun KE hKE=>?_
 refine TK.reg ?_
 refine M rfl rfl (M rfl rfl (P1 (p_ncR rfl (fun _=>refOK_of nd (j:=0) rfl rfl)) rfl rfl (P1 (p_faV fs186_0 Dc rfl nd (j:=0) rfl rfl) rfl rfl (P1 (p_ldV (v:=OL b3 b1) ty25 rfl rfl nd (j:=0) rfl rfl rfl rfl rfl) rfl rfl (M rfl rfl ?_)))))
 refine TLc.lit ([c4]:List UInt8) kd25 ty5 rfl ⟨⟨rfl,rfl⟩,trivial⟩ rfl rfl rfl ?_
 obtain ⟨u5,hu5,hX⟩:=bind_some hX
 refine TLc.appO nd kd25 bo25 ty5 rfl rfl (j:=1) rfl rfl (Src_L _) Dc (need_t hu5) rfl fun nd=>?_
 refine P1 (p_ncR rfl (fun _=>refOK_of nd (j:=0) rfl rfl)) rfl rfl (P1 (p_faV fs186_0 Dc rfl nd (j:=0) rfl rfl) rfl rfl ?_)
 refine TLc.stV (lu:=[OL (α:=UInt8) b3 (b1++([c4]:List UInt8))]) nd ty25 rfl (j:=0) rfl rfl rfl (Cells_rs (refOK_of nd (j:=1) rfl rfl)) rfl rfl [OL (α:=UInt8) b3 (b1++([c4]:List UInt8))] rfl fun nd=>?_
 refine TL.nil (hKE _ _ (TL.nil ?_))
 try dsimp only[thenQ]
 refine RetQ_end ?_
 exact retX (v:= .tup 0 (ofL [])) res0 (by obtain rfl:=some_in hX;exact ⟨b3,rfl,rfl⟩) nd (inH_tup (l:=[]) trivial) ⟨rowIn_RV ⟨inH_rs nd (j:=1) rfl,trivial⟩,rowIn_RL,trivial⟩
theorem ok_code_Writer_Int (n4:Int) (b1:(List UInt8)) (b2:Nat) (b3:Nat) (nd:Nd [(b2,RV 186 [OL (α:=UInt8) b3 b1]),(b3,RL (α:=UInt8) 5 b1)]) (r:(List UInt8)) (hX:X.code_Writer_Int n4 b1=some r):TCX Try.prog 151 [.ref b2 0 1,Enc.v (n4:Int)] [(b2,RV 186 [OL (α:=UInt8) b3 b1]),(b3,RL (α:=UInt8) 5 b1)] (fun rv h'=>∃b8,rv= .tup 0 (ofL [])∧h'=[(b2,RV 186 [OL (α:=UInt8) b8 r]),(b8,RL (α:=UInt8) 5 r)]):=by
 refine TCX.of b151 (Nat.le_of_ble_eq_true rfl) ?_
 unfold k151
 unfold X.code_Writer_Int at hX
 refine TK.endK fun KE hKE=>?_
 refine SR fun K5 hK5=>M rfl rfl (P1 (p_cvt src3 kd106 rfl (cv_u32 _)) rfl rfl (M rfl rfl (TL.nil (hK5 _ _ ?_))))
 refine TK.reg ?_
 refine M rfl rfl (M rfl rfl (P1 (p_ncR rfl (fun _=>refOK_of nd (j:=0) rfl rfl)) rfl rfl (P1 (p_faV fs186_0 Dc rfl nd (j:=0) rfl rfl) rfl rfl (P1 (p_ldV (v:=OL b3 b1) ty25 rfl rfl nd (j:=0) rfl rfl rfl rfl rfl) rfl rfl (M rfl rfl (P1 (p32_shr (a:=(u32 n4)) (b:=24) rfl rfl) rfl rfl (P1 (p_cvt src106 kd5 rfl (cv_u8 _)) rfl rfl (M rfl rfl ?_))))))))
 refine P1 (p32_shr (a:=(u32 n4)) (b:=16) rfl rfl) rfl rfl (P1 (p_cvt src106 kd5 rfl (cv_u8 _)) rfl rfl (M rfl rfl (P1 (p32_shr (a:=(u32 n4)) (b:=8) rfl rfl) rfl rfl (P1 (p_cvt src106 kd5 rfl (cv_u8 _)) rfl rfl (M rfl rfl (P1 (p_cvt src106 kd5 rfl (cv_u8 _)) rfl rfl ?_))))))
 refine TLc.lit ([(u8 ((shr32 (u32 n4) 24).toNat:Int)),(u8 ((shr32 (u32 n4) 16).toNat:Int)),(u8 ((shr32 (u32 n4) 8).toNat:Int)),(u8 ((u32 n4).toNat:Int))]:List UInt8) kd25 ty5 rfl ⟨⟨rfl,rfl⟩,⟨rfl,rfl⟩,⟨rfl,rfl⟩,⟨rfl,rfl⟩,trivial⟩ rfl rfl rfl ?_
 obtain ⟨u6,hu6,hX⟩:=bind_some hX
 refine TLc.appO nd kd25 bo25 ty5 rfl rfl (j:=1) rfl rfl (Src_L _) Dc (need_t hu6) rfl fun nd=>?_
 refine P1 (p_ncR rfl (fun _=>refOK_of nd (j:=0) rfl rfl)) rfl rfl (P1 (p_faV fs186_0 Dc rfl nd (j:=0) rfl rfl) rfl rfl ?_)
 refine TLc.stV (lu:=[OL (α:=UInt8) b3 (b1++([(u8 ((shr32 (u32 n4) 24).toNat:Int)),(u8 ((shr32 (u32 n4) 16).toNat:Int)),(u8 ((shr32 (u32 n4) 8).toNat:Int)),(u8 ((u32 n4).toNat:Int))]:List UInt8))]) nd ty25 rfl (j:=0) rfl rfl rfl (Cells_rs (refOK_of nd (j:=1) rfl rfl)) rfl rfl [OL (α:=UInt8) b3 (b1++([(u8 ((shr32 (u32 n4) 24).toNat:Int)),(u8 ((shr32 (u32 n4) 16).toNat:Int)),(u8 ((shr32 (u32 n4) 8).toNat:Int)),(u8 ((u32 n4).toNat:Int))]:List UInt8))] rfl fun nd=>?_
 refine TL.nil (hKE _ _ (TL.nil ?_))
 try dsimp only[thenQ]
 refine RetQ_end ?_
 exact retX (v:= .tup 0 (ofL [])) res0 (by obtain rfl:=some_in hX;exact ⟨b3,rfl,rfl⟩) nd (inH_tup (l:=[]) trivial) ⟨rowIn_RV ⟨inH_rs nd (j:=1) rfl,trivial⟩,rowIn_RL,trivial⟩
theorem ok_slices_Clone_Lbyte_byte_own_or (s1:(List UInt8)) (b2:Nat) (nd:Nd [(b2,RL (α:=UInt8) 5 s1)]) (r:(List UInt8)) (hX:X.slices_Clone_Lbyte_byte_own_or s1=some r):TCX Try.prog 61 [OL (α:=UInt8) b2 s1] [(b2,RL (α:=UInt8) 5 s1)] (fun rv h'=>∃b12,rv=OL (α:=UInt8) b12 r∧h'=[(b2,RL (α:=UInt8) 5 s1),(b12,RL (α:=UInt8) 5 r)]):=by
 refine TCX.of b61 (Nat.le_of_ble_eq_true rfl) ?_
 unfold k61
 unfold X.slices_Clone_Lbyte_byte_own_or at hX
 refine SR fun K3 hK3=>M rfl rfl (TL.nil (hK3 _ _ ?_))
 refine TK.seq_k fun K4 hK4=>?_
 refine SR fun K5 hK5=>M rfl rfl ?_
 refine TLc.eqNilO (xs:=s1) nd kd25 rfl rfl (j:=0) rfl rfl fun z6 hbz6=>?_
 replace hX:=nilU_t hX hbz6
 refine TL.nil (hK5 _ _ ?_)
 refine TK.cond (b:=z6) rfl (fun hc=>?_) (fun hc=>?_)
 ·have hX:=ite_t hc hX
  refine SR fun K7 hK7=>M rfl rfl (TL.nil (hK7 _ _ ?_))
  refine TK.ownL (α:=UInt8) 2 5 nd rfl (.inl rfl) fun b8 nd=>?_
  refine TK.pick [1,0] nd Dc fun nd=>?_
  refine TK.ret ?_
  try dsimp only[thenQ]
  exact retX (v:=OL (α:=UInt8) b8 ([]:List UInt8)) (res1 rfl) (by obtain rfl:=some_in hX;exact ⟨b8,rfl,rfl⟩) nd (inH_rs nd (j:=1) rfl) ⟨rowIn_RL,rowIn_RL,trivial⟩
 ·have hX:=ite_f hc hX
  refine TK.skip ?_
  refine hK4 _ _ (SR fun K9 hK9=>?_)
  refine TLc.litZ kd25 ty5 rfl ?_
  refine M rfl rfl ?_
  obtain ⟨u10,hu10,hX⟩:=bind_some hX
  refine TLc.appN nd kd25 bo25 ty5 rfl rfl (.inr rfl) rfl (Src_OL nd (j:=0) rfl) Dc (need_t hu10) rfl fun b11 nd=>?_
  refine M rfl rfl (TL.nil (hK9 _ _ ?_))
  refine TK.pick [1,0] nd Dc fun nd=>?_
  refine TK.ret ?_
  try dsimp only[thenQ]
  exact retX (v:=OL b11 s1) (res1 rfl) (by obtain rfl:=some_in hX;exact ⟨b11,rfl,rfl⟩) nd (inH_rs nd (j:=1) rfl) ⟨rowIn_RL,rowIn_RL,trivial⟩
theorem ok_code_Writer_Bytes_or (b1:(List UInt8)) (b2:Nat) (b3:Nat) (nd:Nd [(b2,RV 186 [OL (α:=UInt8) b3 b1]),(b3,RL (α:=UInt8) 5 b1)]) (r:(List UInt8)) (hX:X.code_Writer_Bytes_or b1=some r):TCX Try.prog 153 [.ref b2 0 1] [(b2,RV 186 [OL (α:=UInt8) b3 b1]),(b3,RL (α:=UInt8) 5 b1)] (fun rv h'=>∃b8,rv=OL (α:=UInt8) b8 r∧h'=[(b2,RV 186 [OL (α:=UInt8) b3 b1]),(b3,RL (α:=UInt8) 5 b1),(b8,RL (α:=UInt8) 5 r)]):=by
 refine TCX.of b153 (Nat.le_of_ble_eq_true rfl) ?_
 unfold k153
 unfold X.code_Writer_Bytes_or at hX
 refine SR fun K4 hK4=>M rfl rfl (TL.nil (hK4 _ _ (SR fun K5 hK5=>M rfl rfl (P1 (p_ncR rfl (fun _=>refOK_of nd (j:=0) rfl rfl)) rfl rfl (P1 (p_faV fs186_0 Dc rfl nd (j:=0) rfl rfl) rfl rfl (P1 (p_ldV (v:=OL b3 b1) ty25 rfl rfl nd (j:=0) rfl rfl rfl rfl rfl) rfl rfl ?_))))))
 obtain ⟨r6,hr6,hX⟩:=bind_some hX
 refine TL.pick [1,0] nd Dc fun nd=>?_
 refine TL.tcX [(b3,RL (α:=UInt8) 5 b1)] [(b2,RV 186 [OL b3 b1])] rfl nd (dlt rfl) rfl ⟨rfl,⟨rfl,trivial⟩⟩ (ok_slices_Clone_Lbyte_byte_own_or b1 b3 (Nd.take nd 1 rfl) _ hr6) ?_
 rintro _ _ hQ nd
 obtain ⟨b7,rfl,rfl⟩:=hQ
 refine M rfl rfl (TL.nil (hK5 _ _ ?_))
 refine TK.pick [2,0,1] nd Dc fun nd=>?_
 refine TK.ret ?_
 try dsimp only[thenQ]
 exact retX (v:=OL b7 r6) (res1 rfl) (by obtain rfl:=some_in hX;exact ⟨b7,rfl,rfl⟩) nd (inH_rs nd (j:=2) rfl) ⟨rowIn_RV ⟨inH_rs nd (j:=1) rfl,trivial⟩,rowIn_RL,rowIn_RL,trivial⟩
theorem ok_castagnoli_More (sum1:UInt32) (b2:(List UInt8)) (r:UInt32) (hX:X.castagnoli_More sum1 b2=some r):Fun Try.prog 194 [Enc.v (sum1:UInt32),Enc.v (b2:(List UInt8))] (·=Enc.v (r:UInt32)):=by
 refine Fun.of b194 (Nat.le_of_ble_eq_true rfl) (allVal.mem ⟨(by exact (v_val _)),(by exact (v_val _)),trivial⟩) ?_
 unfold k194
 have nd:Nd []:=Nd_nil
 unfold X.castagnoli_More at hX
 refine SR fun K3 hK3=>M rfl rfl (TL.nil (hK3 _ _ (SR fun K4 hK4=>M rfl rfl (P1 (p32_xor (a:=sum1) (b:=(4294967295:UInt32)) rfl rfl) rfl rfl (M rfl rfl (TL.nil (hK4 _ _ ?_)))))))
 refine TK.seq_k fun K5 hK5=>?_
 refine SR fun K6 hK6=>M rfl rfl (P1 (p_lenL (xs:=b2) kd25 rfl) rfl rfl (M rfl rfl (TL.nil (hK6 _ _ ?_))))
 refine TK.block ?_
 obtain ⟨o7,hO7,hA7⟩:=bind_some hX
 have E7:∀(x10:UInt32) (env:Env) (h:Hp),(∃_u:Unit,keepE [5] env=[(5,true,Enc.v x10)]∧Nd []∧HSub [] h)→X.castagnoli_More_e7 x10=some r→K5 env h:=by
  intro x10 env h hE hX
  obtain ⟨_u,henv,nd,hs⟩:=hE
  unfold X.castagnoli_More_e7 at hX
  refine hK5 _ _ (TK.keep [5] ?_)
  rw[henv]
  refine TK.subH hs ?_
  refine SR fun K11 hK11=>M rfl rfl (P1 (p32_xor (a:=x10) (b:=(4294967295:UInt32)) rfl rfl) rfl rfl (M rfl rfl (TL.nil (hK11 _ _ ?_))))
  refine TK.ret ?_
  try dsimp only[thenQ]
  exact R1 rfl hX
 refine TK.iter [5,10,11,12] (fun s env h=>match s with|(x8,x9)=>∃_u:Unit,env=[(5,true,Enc.v x8),(10,true,Enc.v b2),(11,true,Enc.v ((b2.length:Int):Int)),(12,true,Enc.v x9)]∧Nd []∧HSub [] h) hO7 ⟨(),rfl,Nd_nil,HSub.refl _⟩ ?_
 rintro ⟨x8,x9⟩ env h x7x ⟨_u,rfl,nd,hs⟩ hX hR7
 refine TK.subH hs ?_
 unfold X.castagnoli_More_s7 at hX
 try dsimp only at hX
 refine SR fun K12 hK12=>P1 (p_lss rfl rfl) rfl rfl (TL.nil (hK12 _ _ ?_))
 refine TK.seq_k fun K13 hK13=>?_
 refine TK.cond (b:=(decide (x9<(b2.length:Int)))) rfl (fun hc=>?_) (fun hc=>?_)
 ·have hX:=ite_t hc hX
  refine TK.skip ?_
  refine hK13 _ _ ?_
  refine TK.seq_k fun K14 hK14=>?_
  refine TK.block ?_
  refine SR fun K15 hK15=>?_
  obtain ⟨e16,he16,hX⟩:=bind_some hX
  refine P1 (p_iaL (xs:=b2) kd25 ty5 rfl rfl rfl (fun _=>he16)) rfl rfl (P1 (p_ldE (xs:=b2) (a:=e16) (e16:UInt8) ty5 rfl rfl (fun _=>he16) rfl rfl rfl) rfl rfl (M rfl rfl (TL.nil (hK15 _ _ (SR fun K17 hK17=>M rfl rfl (M rfl rfl (P1 (p_cvt src5 kd106 rfl (cv_u32 _)) rfl rfl (P1 (p32_xor (a:=x8) (b:=(u32 (e16.toNat:Int))) rfl rfl) rfl rfl (M rfl rfl (TL.nil (hK17 _ _ ?_)))))))))))
  refine SR fun K18 hK18=>M rfl rfl (TL.nil (hK18 _ _ ?_))
  refine TK.block ?_
  obtain ⟨o19,hO19,hA19⟩:=bind_some hX
  have E19:∀(x22:UInt32) (env:Env) (h:Hp),(∃_u:Unit,keepE [5,10,11,12] env=[(5,true,Enc.v x22),(10,true,Enc.v b2),(11,true,Enc.v ((b2.length:Int):Int)),(12,true,Enc.v x9)]∧Nd []∧HSub [] h)→X.castagnoli_More_e19 x9 x22=some x7x→K14 env h:=by
   intro x22 env h hE hX
   obtain ⟨_u,henv,nd,hs⟩:=hE
   unfold X.castagnoli_More_e19 at hX
   refine hK14 _ _ (TK.keep [5,10,11,12] ?_)
   rw[henv]
   refine TK.subH hs ?_
   refine TK.reg ?_
   refine P1 (p_add rfl rfl) rfl rfl (M rfl rfl (TL.nil ?_))
   exact ⟨_,(some_in hX).symm,(),rfl,Nd_nil,HSub.refl _⟩
  refine TK.iter [5,10,11,12,20] (fun s env h=>match s with|(x20,x21)=>∃_u:Unit,env=[(5,true,Enc.v x20),(10,true,Enc.v b2),(11,true,Enc.v ((b2.length:Int):Int)),(12,true,Enc.v x9),(20,true,Enc.v x21)]∧Nd []∧HSub [] h) hO19 ⟨(),rfl,Nd_nil,HSub.refl _⟩ ?_
  rintro ⟨x20,x21⟩ env h x19x ⟨_u,rfl,nd,hs⟩ hX hR19
  refine TK.subH hs ?_
  unfold X.castagnoli_More_s19 at hX
  try dsimp only at hX
  refine SR fun K23 hK23=>P1 (p_lss rfl rfl) rfl rfl (TL.nil (hK23 _ _ ?_))
  refine TK.seq_k fun K24 hK24=>?_
  refine TK.cond (b:=(decide (x21<(8:Int)))) rfl (fun hc=>?_) (fun hc=>?_)
  ·have hX:=ite_t hc hX
   refine TK.skip ?_
   refine hK24 _ _ ?_
   refine TK.seq_k fun K25 hK25=>?_
   refine TK.block ?_
   refine SR fun K26 hK26=>M rfl rfl (P1 (p32_and (a:=x20) (b:=(1:UInt32)) rfl rfl) rfl rfl (P1 (p32_eql (a:=(x20&&&(1:UInt32))) (b:=(1:UInt32)) rfl rfl) rfl rfl (TL.nil (hK26 _ _ ?_))))
   refine TK.cond (b:=((x20&&&(1:UInt32))==(1:UInt32))) rfl (fun hc=>?_) (fun hc=>?_)
   ·have hX:=ite_t hc hX
    refine TK.reg ?_
    refine M rfl rfl (P1 (p32_shr (a:=x20) (b:=1) rfl rfl) rfl rfl (P1 (p32_xor (a:=(shr32 x20 1)) (b:=(2197175160:UInt32)) rfl rfl) rfl rfl (M rfl rfl (TL.nil (hK25 _ _ ?_)))))
    refine TK.reg ?_
    refine P1 (p_add rfl rfl) rfl rfl (M rfl rfl (TL.nil ?_))
    exact ⟨_,(some_in hX).symm,(),rfl,Nd_nil,HSub.refl _⟩
   ·have hX:=ite_f hc hX
    refine TK.reg ?_
    refine M rfl rfl (P1 (p32_shr (a:=x20) (b:=1) rfl rfl) rfl rfl (M rfl rfl (TL.nil (hK25 _ _ ?_))))
    refine TK.reg ?_
    refine P1 (p_add rfl rfl) rfl rfl (M rfl rfl (TL.nil ?_))
    exact ⟨_,(some_in hX).symm,(),rfl,Nd_nil,HSub.refl _⟩
  ·have hX:=ite_f hc hX
   refine TK.exit ?_
   obtain rfl:=hR19 _ (some_in hX).symm
   exact E19 x20 _ _ ⟨(),rfl,Nd_nil,HSub.refl _⟩ hA19
 ·have hX:=ite_f hc hX
  refine TK.exit ?_
  obtain rfl:=hR7 _ (some_in hX).symm
  exact E7 x8 _ _ ⟨(),rfl,Nd_nil,HSub.refl _⟩ hA7
theorem ok_castagnoli_Sum (b1:(List UInt8)) (r:UInt32) (hX:X.castagnoli_Sum b1=some r):Fun Try.prog 184 [Enc.v (b1:(List UInt8))] (·=Enc.v (r:UInt32)):=by
 refine Fun.of b184 (Nat.le_of_ble_eq_true rfl) (allVal.mem ⟨(by exact (v_val _)),trivial⟩) ?_
 unfold k184
 have nd:Nd []:=Nd_nil
 unfold X.castagnoli_Sum at hX
 refine SR fun K2 hK2=>M rfl rfl (TL.nil (hK2 _ _ (SR fun K3 hK3=>M rfl rfl ?_)))
 obtain ⟨r4,hr4,hX⟩:=bind_some hX
 refine TL.cvX rfl rfl rfl (fun _=>⟨rfl,⟨rfl,⟨rfl,trivial⟩⟩⟩) (fun e=>ok_castagnoli_More (0:UInt32) b1 _ hr4) ?_
 refine M rfl rfl (TL.nil (hK3 _ _ ?_))
 refine TK.ret ?_
 try dsimp only[thenQ]
 exact R1 rfl hX
theorem ok_slices_Clone_Lbyte_byte_own (s1:(List UInt8)) (b2:Nat) (nd:Nd [(b2,RL (α:=UInt8) 5 s1)]) (r:(List UInt8)) (hX:X.slices_Clone_Lbyte_byte_own s1=some r):TCX Try.prog 61 [OL (α:=UInt8) b2 s1] [(b2,RL (α:=UInt8) 5 s1)] (fun rv h'=>rv=Enc.v (r:(List UInt8))∧h'=[(b2,RL (α:=UInt8) 5 s1)]):=by
 refine TCX.of b61 (Nat.le_of_ble_eq_true rfl) ?_
 unfold k61
 unfold X.slices_Clone_Lbyte_byte_own at hX
 refine SR fun K3 hK3=>M rfl rfl (TL.nil (hK3 _ _ ?_))
 refine TK.seq_k fun K4 hK4=>?_
 refine SR fun K5 hK5=>M rfl rfl ?_
 refine TLc.eqNilO (xs:=s1) nd kd25 rfl rfl (j:=0) rfl rfl fun z6 hbz6=>?_
 replace hX:=nilU_t hX hbz6
 refine TL.nil (hK5 _ _ ?_)
 refine TK.cond (b:=z6) rfl (fun hc=>?_) (fun hc=>?_)
 ·have hX:=ite_t hc hX
  refine SR fun K7 hK7=>M rfl rfl (TL.nil (hK7 _ _ ?_))
  refine TK.wk 2 (L ([]:(List UInt8))) rfl Wk_nil ?_
  refine TK.ret ?_
  try dsimp only[thenQ]
  exact retX (v:=Enc.v (([]:(List UInt8)):(List UInt8))) (res1 rfl) (by obtain rfl:=some_in hX;exact ⟨rfl,rfl⟩) nd (inH_val (v_val _)) ⟨rowIn_RL,trivial⟩
 ·have hX:=ite_f hc hX
  refine TK.skip ?_
  refine hK4 _ _ (SR fun K8 hK8=>?_)
  refine TLc.litZ kd25 ty5 rfl ?_
  refine M rfl rfl ?_
  obtain ⟨u9,hu9,hX⟩:=bind_some hX
  refine TLc.appN nd kd25 bo25 ty5 rfl rfl (.inr rfl) rfl (Src_OL nd (j:=0) rfl) Dc (need_t hu9) rfl fun b10 nd=>?_
  refine M rfl rfl (TL.nil (hK8 _ _ ?_))
  refine TK.lay [(2,L s1)] nd (j:=0) rfl ⟨⟨_,rfl,fix_OL nd (j:=0) rfl,rfl⟩,trivial⟩ fun nd=>?_
  refine TK.ret ?_
  try dsimp only[thenQ]
  exact retX (v:=Enc.v s1) (res1 rfl) (by obtain rfl:=some_in hX;exact ⟨rfl,rfl⟩) nd (inH_val (v_val _)) ⟨rowIn_RL,trivial⟩
theorem ok_code_Writer_Bytes (b1:(List UInt8)) (b2:Nat) (b3:Nat) (nd:Nd [(b2,RV 186 [OL (α:=UInt8) b3 b1]),(b3,RL (α:=UInt8) 5 b1)]) (r:(List UInt8)) (hX:X.code_Writer_Bytes b1=some r):TCX Try.prog 153 [.ref b2 0 1] [(b2,RV 186 [OL (α:=UInt8) b3 b1]),(b3,RL (α:=UInt8) 5 b1)] (fun rv h'=>rv=Enc.v (r:(List UInt8))∧h'=[(b2,RV 186 [OL (α:=UInt8) b3 b1]),(b3,RL (α:=UInt8) 5 b1)]):=by
 refine TCX.of b153 (Nat.le_of_ble_eq_true rfl) ?_
 unfold k153
 unfold X.code_Writer_Bytes at hX
 refine SR fun K4 hK4=>M rfl rfl (TL.nil (hK4 _ _ (SR fun K5 hK5=>M rfl rfl (P1 (p_ncR rfl (fun _=>refOK_of nd (j:=0) rfl rfl)) rfl rfl (P1 (p_faV fs186_0 Dc rfl nd (j:=0) rfl rfl) rfl rfl (P1 (p_ldV (v:=OL b3 b1) ty25 rfl rfl nd (j:=0) rfl rfl rfl rfl rfl) rfl rfl ?_))))))
 obtain ⟨r6,hr6,hX⟩:=bind_some hX
 refine TL.pick [1,0] nd Dc fun nd=>?_
 refine TL.tcX [(b3,RL (α:=UInt8) 5 b1)] [(b2,RV 186 [OL b3 b1])] rfl nd (dlt rfl) rfl ⟨rfl,⟨rfl,trivial⟩⟩ (ok_slices_Clone_Lbyte_byte_own b1 b3 (Nd.take nd 1 rfl) _ hr6) ?_
 rintro _ _ hQ nd
 obtain ⟨rfl,rfl⟩:=hQ
 refine M rfl rfl (TL.nil (hK5 _ _ ?_))
 refine TK.pick [1,0] nd Dc fun nd=>?_
 refine TK.ret ?_
 try dsimp only[thenQ]
 exact retX (v:=Enc.v r6) (res1 rfl) (by obtain rfl:=some_in hX;exact ⟨rfl,rfl⟩) nd (inH_val (v_val _)) ⟨rowIn_RV ⟨inH_rs nd (j:=1) rfl,trivial⟩,rowIn_RL,trivial⟩
theorem ok_frame_made (u1:Unit_api) (r:(List UInt8)) (hX:X.frame_made u1=some r):Fun Try.prog 155 [Enc.v (u1:Unit_api)] (·=Enc.v (r:(List UInt8))):=by
 refine Fun.of b155 (Nat.le_of_ble_eq_true rfl) (allVal.mem ⟨(by exact (v_val _)),trivial⟩) ?_
 unfold k155
 have nd:Nd []:=Nd_nil
 unfold X.frame_made at hX
 refine SR fun K2 hK2=>?_
 refine TLc.boxV (lu:=[Enc.v u1.Kind,Enc.v u1.Label,Enc.v u1.Number,Enc.v u1.Load]) nd rfl (Cells_v (u1:Unit_api)) rfl ?_
 refine M rfl rfl (TL.nil (hK2 _ _ (SR fun K3 hK3=>P1 (p_bld (l:=[.nils]) ty186 rfl all186 rfl (fun _=>trivial)) rfl rfl ?_)))
 refine TLc.boxO (lu:=[.nils]) nd rfl (Cells_agg rfl (allA.mem ⟨trivial,trivial⟩)) rfl fun b4 nd=>?_
 refine M rfl rfl (TL.nil (hK3 _ _ ?_))
 refine TK.ownC (α:=UInt8) nd (j:=0) rfl 0 5 (.inl rfl) fun b5 nd=>?_
 refine SR fun K6 hK6=>M rfl rfl (P1 (p_faR fs68_0 Dc rfl) rfl rfl (P1 (p_ldR (v:=Enc.v u1.Kind) ty3 rfl rfl rfl rfl rfl rfl) rfl rfl (P1 (p_cvt src3 kd5 rfl (cv_u8 _)) rfl rfl ?_)))
 obtain ⟨r7,hr7,hX⟩:=bind_some hX
 refine TL.pick [1,0] nd Dc fun nd=>?_
 refine TL.tcX [(b4,RV 186 [OL (α:=UInt8) b5 ([]:List UInt8)]),(b5,RL (α:=UInt8) 5 ([]:List UInt8))] [] rfl nd (dlt rfl) rfl ⟨rfl,⟨rfl,⟨rfl,trivial⟩⟩⟩ (ok_code_Writer_Byte (u8 u1.Kind) ([]:List UInt8) b4 b5 (Nd.take nd 2 rfl) _ hr7) ?_
 rintro _ _ hQ nd
 obtain ⟨b9,rfl,rfl⟩:=hQ
 refine TL.nil (hK6 _ _ (SR fun K10 hK10=>M rfl rfl (P1 (p_faR fs68_1 Dc rfl) rfl rfl (P1 (p_ldR (v:=Enc.v u1.Label) ty3 rfl rfl rfl rfl rfl rfl) rfl rfl ?_))))
 obtain ⟨r11,hr11,hX⟩:=bind_some hX
 refine TL.tcX [(b4,RV 186 [OL b9 r7]),(b9,RL (α:=UInt8) 5 r7)] [] rfl nd (dlt rfl) rfl ⟨rfl,⟨rfl,⟨rfl,trivial⟩⟩⟩ (ok_code_Writer_Int u1.Label r7 b4 b9 (Nd.take nd 2 rfl) _ hr11) ?_
 rintro _ _ hQ nd
 obtain ⟨b13,rfl,rfl⟩:=hQ
 refine TL.nil (hK10 _ _ (SR fun K14 hK14=>M rfl rfl (P1 (p_faR fs68_2 Dc rfl) rfl rfl (P1 (p_ldR (v:=Enc.v u1.Number) ty3 rfl rfl rfl rfl rfl rfl) rfl rfl ?_))))
 obtain ⟨r15,hr15,hX⟩:=bind_some hX
 refine TL.tcX [(b4,RV 186 [OL b13 r11]),(b13,RL (α:=UInt8) 5 r11)] [] rfl nd (dlt rfl) rfl ⟨rfl,⟨rfl,⟨rfl,trivial⟩⟩⟩ (ok_code_Writer_Int u1.Number r11 b4 b13 (Nd.take nd 2 rfl) _ hr15) ?_
 rintro _ _ hQ nd
 obtain ⟨b17,rfl,rfl⟩:=hQ
 refine TL.nil (hK14 _ _ (SR fun K18 hK18=>M rfl rfl (P1 (p_faR fs68_3 Dc rfl) rfl rfl (P1 (p_ldR (v:=Enc.v u1.Load) ty25 rfl rfl rfl rfl rfl rfl) rfl rfl (P1 (p_lenL (xs:=u1.Load) kd25 rfl) rfl rfl (P1 (p_shr rfl rfl (fun _=>by omega)) rfl rfl (P1 (p_cvt src3 kd5 rfl (cv_u8 _)) rfl rfl ?_)))))))
 obtain ⟨r19,hr19,hX⟩:=bind_some hX
 refine TL.tcX [(b4,RV 186 [OL b17 r15]),(b17,RL (α:=UInt8) 5 r15)] [] rfl nd (dlt rfl) rfl ⟨rfl,⟨rfl,⟨rfl,trivial⟩⟩⟩ (ok_code_Writer_Byte (u8 (shr64 (u1.Load.length:Int) ((8:UInt64).toNat:Int))) r15 b4 b17 (Nd.take nd 2 rfl) _ hr19) ?_
 rintro _ _ hQ nd
 obtain ⟨b21,rfl,rfl⟩:=hQ
 refine TL.nil (hK18 _ _ (SR fun K22 hK22=>M rfl rfl (P1 (p_faR fs68_3 Dc rfl) rfl rfl (P1 (p_ldR (v:=Enc.v u1.Load) ty25 rfl rfl rfl rfl rfl rfl) rfl rfl (P1 (p_lenL (xs:=u1.Load) kd25 rfl) rfl rfl (P1 (p_cvt src3 kd5 rfl (cv_u8 _)) rfl rfl ?_))))))
 obtain ⟨r23,hr23,hX⟩:=bind_some hX
 refine TL.tcX [(b4,RV 186 [OL b21 r19]),(b21,RL (α:=UInt8) 5 r19)] [] rfl nd (dlt rfl) rfl ⟨rfl,⟨rfl,⟨rfl,trivial⟩⟩⟩ (ok_code_Writer_Byte (u8 (u1.Load.length:Int)) r19 b4 b21 (Nd.take nd 2 rfl) _ hr23) ?_
 rintro _ _ hQ nd
 obtain ⟨b25,rfl,rfl⟩:=hQ
 refine TL.nil (hK22 _ _ (SR fun K26 hK26=>P1 (p_faR fs68_0 Dc rfl) rfl rfl (P1 (p_ldR (v:=Enc.v u1.Kind) ty3 rfl rfl rfl rfl rfl rfl) rfl rfl ?_)))
 obtain ⟨r27,hr27,hX⟩:=bind_some hX
 refine TL.cvX rfl rfl rfl (fun _=>⟨rfl,⟨rfl,trivial⟩⟩) (fun e=>ok_frame_room u1.Kind _ hr27) ?_
 obtain ⟨u28,hu28,hX⟩:=bind_some hX
 refine TLc.mkO nd (0:UInt8) kd25 ty5 rfl (fun j hj=>by (have:j=0:=by simpa[Enc.sz] using hj);subst this;rfl) rfl rfl Dc (need_t hu28) rfl fun b29 nd=>?_
 refine M rfl rfl (TL.nil (hK26 _ _ (SR fun K30 hK30=>M rfl rfl (P1 (p_faR fs68_3 Dc rfl) rfl rfl (P1 (p_ldR (v:=Enc.v u1.Load) ty25 rfl rfl rfl rfl rfl rfl) rfl rfl ?_)))))
 refine TLc.copyO (xs:=(List.replicate r27.toNat (0:UInt8))) (ys:=u1.Load) nd kd25 ty5 rfl rfl (j:=0) rfl rfl (Src_L _) rfl fun nd=>?_
 refine TL.cv 4 (OL b29 (cpy (List.replicate r27.toNat (0:UInt8)) u1.Load)) rfl (Wk_eq (OL_len (cpy_len))) ?_
 refine TL.nil (hK30 _ _ (SR fun K31 hK31=>M rfl rfl ?_))
 obtain ⟨r32,hr32,hX⟩:=bind_some hX
 refine TL.pick [1,2,0] nd Dc fun nd=>?_
 refine TL.tcX [(b4,RV 186 [OL b25 r23]),(b25,RL (α:=UInt8) 5 r23)] [(b29,RL (α:=UInt8) 5 (cpy (List.replicate r27.toNat (0:UInt8)) u1.Load))] rfl nd (dlt rfl) rfl ⟨rfl,⟨rfl,trivial⟩⟩ (ok_code_Writer_Bytes_or r23 b4 b25 (Nd.take nd 2 rfl) _ hr32) ?_
 rintro _ _ hQ nd
 obtain ⟨b33,rfl,rfl⟩:=hQ
 refine M rfl rfl ?_
 obtain ⟨u34,hu34,hX⟩:=bind_some hX
 refine TLc.appO nd kd25 bo25 ty5 rfl rfl (j:=2) rfl rfl (Src_OL nd (j:=3) rfl) Dc (need_t hu34) rfl fun nd=>?_
 refine M rfl rfl (TL.nil (hK31 _ _ (SR fun K35 hK35=>P1 (p_bld (l:=[.nils]) ty186 rfl all186 rfl (fun _=>trivial)) rfl rfl ?_)))
 refine TLc.boxO (lu:=[.nils]) nd rfl (Cells_agg rfl (allA.mem ⟨trivial,trivial⟩)) rfl fun b36 nd=>?_
 refine M rfl rfl (TL.nil (hK35 _ _ ?_))
 refine TK.ownC (α:=UInt8) nd (j:=0) rfl 0 5 (.inl rfl) fun b37 nd=>?_
 refine SR fun K38 hK38=>M rfl rfl (M rfl rfl ?_)
 obtain ⟨r39,hr39,hX⟩:=bind_some hX
 refine TL.lookX [L (r32++(cpy (List.replicate r27.toNat (0:UInt8)) u1.Load))] rfl rfl rfl (fun _=>⟨rfl,⟨rfl,trivial⟩⟩) ⟨look_OL nd (j:=4) rfl,trivial⟩ (fun e=>ok_castagnoli_Sum (r32++(cpy (List.replicate r27.toNat (0:UInt8)) u1.Load)) _ hr39) (trivial) ?_
 refine P1 (p_cvt src106 kd3 rfl (cv_32 r39)) rfl rfl ?_
 obtain ⟨r40,hr40,hX⟩:=bind_some hX
 refine TL.pick [1,0,2,3,4,5] nd Dc fun nd=>?_
 refine TL.tcX [(b36,RV 186 [OL (α:=UInt8) b37 ([]:List UInt8)]),(b37,RL (α:=UInt8) 5 ([]:List UInt8))] [(b4,RV 186 [OL b25 r23]),(b25,RL (α:=UInt8) 5 r23),(b33,RL (α:=UInt8) 5 (r32++(cpy (List.replicate r27.toNat (0:UInt8)) u1.Load))),(b29,RL (α:=UInt8) 5 (cpy (List.replicate r27.toNat (0:UInt8)) u1.Load))] rfl nd (dlt rfl) rfl ⟨rfl,⟨rfl,⟨rfl,trivial⟩⟩⟩ (ok_code_Writer_Int (r39.toNat:Int) ([]:List UInt8) b36 b37 (Nd.take nd 2 rfl) _ hr40) ?_
 rintro _ _ hQ nd
 obtain ⟨b42,rfl,rfl⟩:=hQ
 refine TL.nil (hK38 _ _ (SR fun K43 hK43=>M rfl rfl (M rfl rfl ?_)))
 obtain ⟨r44,hr44,hX⟩:=bind_some hX
 refine TL.tcX [(b36,RV 186 [OL b42 r40]),(b42,RL (α:=UInt8) 5 r40)] [(b4,RV 186 [OL b25 r23]),(b25,RL (α:=UInt8) 5 r23),(b33,RL (α:=UInt8) 5 (r32++(cpy (List.replicate r27.toNat (0:UInt8)) u1.Load))),(b29,RL (α:=UInt8) 5 (cpy (List.replicate r27.toNat (0:UInt8)) u1.Load))] rfl nd (dlt rfl) rfl ⟨rfl,⟨rfl,trivial⟩⟩ (ok_code_Writer_Bytes r40 b36 b42 (Nd.take nd 2 rfl) _ hr44) ?_
 rintro _ _ hQ nd
 obtain ⟨rfl,rfl⟩:=hQ
 obtain ⟨u45,hu45,hX⟩:=bind_some hX
 refine TLc.appO nd kd25 bo25 ty5 rfl rfl (j:=4) rfl rfl (Src_L _) Dc (need_t hu45) rfl fun nd=>?_
 refine M rfl rfl (TL.nil (hK43 _ _ ?_))
 refine TK.lay [(2,L ((r32++(cpy (List.replicate r27.toNat (0:UInt8)) u1.Load))++r44))] nd (j:=4) rfl ⟨⟨_,rfl,fix_OL nd (j:=4) rfl,rfl⟩,trivial⟩ fun nd=>?_
 refine TK.ret ?_
 try dsimp only[thenQ]
 exact R1 rfl hX
theorem ok_slices_Equal_Lbyte_byte (s11:(List UInt8)) (s22:(List UInt8)) (r:Bool) (hX:X.slices_Equal_Lbyte_byte s11 s22=some r):Fun Try.prog 186 [Enc.v (s11:(List UInt8)),Enc.v (s22:(List UInt8))] (·=Enc.v (r:Bool)):=by
 refine Fun.of b186 (Nat.le_of_ble_eq_true rfl) (allVal.mem ⟨(by exact (v_val _)),(by exact (v_val _)),trivial⟩) ?_
 unfold k186
 have nd:Nd []:=Nd_nil
 unfold X.slices_Equal_Lbyte_byte at hX
 refine SR fun K3 hK3=>M rfl rfl (TL.nil (hK3 _ _ ?_))
 refine TK.seq_k fun K4 hK4=>?_
 refine SR fun K5 hK5=>M rfl rfl (P1 (p_lenL (xs:=s11) kd25 rfl) rfl rfl (M rfl rfl (P1 (p_lenL (xs:=s22) kd25 rfl) rfl rfl (P1 (p_neq rfl rfl) rfl rfl (TL.nil (hK5 _ _ ?_))))))
 refine TK.cond (b:=((s11.length:Int) !=(s22.length:Int))) rfl (fun hc=>?_) (fun hc=>?_)
 ·have hX:=ite_t hc hX
  refine SR fun K6 hK6=>M rfl rfl (TL.nil (hK6 _ _ ?_))
  refine TK.ret ?_
  try dsimp only[thenQ]
  exact R1 rfl hX
 ·have hX:=ite_f hc hX
  refine TK.skip ?_
  refine hK4 _ _ ?_
  refine TK.seq_k fun K7 hK7=>?_
  refine SR fun K8 hK8=>M rfl rfl (P1 (p_lenL (xs:=s11) kd25 rfl) rfl rfl (M rfl rfl (TL.nil (hK8 _ _ ?_))))
  refine TK.block ?_
  obtain ⟨o9,hO9,hA9⟩:=bind_some hX
  have E9:∀(env:Env) (h:Hp),(∃_u:Unit,keepE [] env=[]∧Nd []∧HSub [] h)→X.slices_Equal_Lbyte_byte_e9=some r→K7 env h:=by
   intro env h hE hX
   obtain ⟨_u,henv,nd,hs⟩:=hE
   unfold X.slices_Equal_Lbyte_byte_e9 at hX
   refine hK7 _ _ (TK.keep [] ?_)
   rw[henv]
   refine TK.subH hs ?_
   refine SR fun K11 hK11=>M rfl rfl (TL.nil (hK11 _ _ ?_))
   refine TK.ret ?_
   try dsimp only[thenQ]
   exact R1 rfl hX
  refine TK.iter [0,1,12,13] (fun s env h=>match s with|x10=>∃_u:Unit,env=[(0,true,Enc.v s11),(1,true,Enc.v s22),(12,true,Enc.v ((s11.length:Int):Int)),(13,true,Enc.v x10)]∧Nd []∧HSub [] h) hO9 ⟨(),rfl,Nd_nil,HSub.refl _⟩ ?_
  rintro x10 env h x9x ⟨_u,rfl,nd,hs⟩ hX hR9
  refine TK.subH hs ?_
  unfold X.slices_Equal_Lbyte_byte_s9 at hX
  try dsimp only at hX
  refine SR fun K12 hK12=>P1 (p_lss rfl rfl) rfl rfl (TL.nil (hK12 _ _ ?_))
  refine TK.seq_k fun K13 hK13=>?_
  refine TK.cond (b:=(decide (x10<(s11.length:Int)))) rfl (fun hc=>?_) (fun hc=>?_)
  ·have hX:=ite_t hc hX
   refine TK.skip ?_
   refine hK13 _ _ ?_
   refine TK.seq_k fun K14 hK14=>?_
   refine TK.block ?_
   refine SR fun K15 hK15=>M rfl rfl (M rfl rfl (TL.nil (hK15 _ _ ?_)))
   refine TK.seq_k fun K16 hK16=>?_
   have ndS:Nd []:=Nd.pick nd (is:=[]) Dc
   refine TK.drwX (h:=[]) (hS:=[]) [(0,0),(0,1),(0,2),(0,3),(0,4),(0,5),(0,6),(0,7),(0,8)] mixed (by kernel_rfl) (HSub_app nd) ?_
   refine DM rfl rfl rfl ?_
   refine DM rfl rfl rfl ?_
   obtain ⟨e17,he17,hX⟩:=bind_some hX
   refine D0 rfl (p_iaL (xs:=s11) kd25 ty5 rfl rfl rfl (fun _=>he17)) rfl rfl ?_
   refine D0 rfl (p_ldE (xs:=s11) (a:=e17) (e17:UInt8) ty5 rfl rfl (fun _=>he17) rfl rfl rfl) rfl rfl ?_
   refine DM rfl rfl rfl ?_
   refine DM rfl rfl rfl ?_
   obtain ⟨e18,he18,hX⟩:=bind_some hX
   refine D0 rfl (p_iaL (xs:=s22) kd25 ty5 rfl rfl rfl (fun _=>he18)) rfl rfl ?_
   refine D0 rfl (p_ldE (xs:=s22) (a:=e18) (e18:UInt8) ty5 rfl rfl (fun _=>he18) rfl rfl rfl) rfl rfl ?_
   refine D0 rfl (p8_neq (a:=e17) (b:=e18) rfl rfl) rfl rfl ?_
   refine DRend ?_
   refine hK16 _ _ ?_
   refine TK.cond (b:=(e17 !=e18)) rfl (fun hc=>?_) (fun hc=>?_)
   ·have hX:=ite_t hc hX
    refine SR fun K19 hK19=>M rfl rfl (TL.nil (hK19 _ _ ?_))
    refine TK.ret ?_
    obtain rfl:=hR9 _ (some_in hX).symm
    replace hX:=hA9
    try dsimp only[thenQ]
    exact R1 rfl hX
   ·have hX:=ite_f hc hX
    refine TK.skip ?_
    refine hK14 _ _ ?_
    refine TK.reg ?_
    refine P1 (p_add rfl rfl) rfl rfl (M rfl rfl (TL.nil ?_))
    exact ⟨_,(some_in hX).symm,(),rfl,Nd_nil,HSub.refl _⟩
  ·have hX:=ite_f hc hX
   refine TK.exit ?_
   obtain rfl:=hR9 _ (some_in hX).symm
   exact E9 _ _ ⟨(),rfl,Nd_nil,HSub.refl _⟩ hA9
theorem bc_frame_Get:BodyC cx 156 47 [.c 2 68,.t 3] k156:=⟨Enters.of Try.func156 (by kernel_rfl) (by kernel_rfl),_,_,Try.func156,rfl,by kernel_rfl,rfl,rfl⟩
theorem ok_frame_Get (b1:(List UInt8)) (r:(Unit_api×Int)) (hX:X.frame_Get b1=some r):Fun Try.prog 156 [Enc.v (b1:(List UInt8))] (·= .tup 2 (ofL [Enc.v r.1,Enc.v r.2])):=by
 refine Fun.ofC (C:=cx) bc_frame_Get (Nat.le_of_ble_eq_true rfl) (allVal.mem ⟨(by exact (v_val _)),trivial⟩) ?_
 unfold k156
 have nd:Nd []:=Nd_nil
 unfold X.frame_Get at hX
 refine SR fun K2 hK2=>?_
 refine TLc.alO (l:=[Enc.v ((0:Int):Int),Enc.v ((0:Int):Int),Enc.v ((0:Int):Int),.nils]) nd ty68 ti68_z rfl rfl fun b3 nd=>?_
 refine M rfl rfl (TL.nil (hK2 _ _ ?_))
 refine TK.cvR nd (j:=0) rfl (l':=[Enc.v ((0:Int):Int),Enc.v ((0:Int):Int),Enc.v ((0:Int):Int),Enc.v (([]:(List UInt8)):(List UInt8))]) ⟨Wk.refl _,Wk.refl _,Wk.refl _,Wk_nil,trivial⟩ fun nd=>?_
 refine SR fun K4 hK4=>M rfl rfl ?_
 obtain ⟨r5,hr5,hX⟩:=bind_some hX
 refine TL.tcX [] [(b3,RV 68 [Enc.v ((0:Int):Int),Enc.v ((0:Int):Int),Enc.v ((0:Int):Int),Enc.v (([]:(List UInt8)):(List UInt8))])] rfl nd (dlt rfl) rfl ⟨rfl,⟨rfl,trivial⟩⟩ (ok_code_NewReader b1 (Nd.take nd 0 rfl) _ hr5) ?_
 rintro _ _ hQ nd
 obtain ⟨b6,rfl,rfl⟩:=hQ
 refine M rfl rfl (TL.nil (hK4 _ _ (SR fun K7 hK7=>M rfl rfl ?_)))
 obtain ⟨r8,hr8,hX⟩:=bind_some hX
 refine TL.tcX [(b6,RV 215 [Enc.v r5.1,Enc.v r5.2])] [(b3,RV 68 [Enc.v ((0:Int):Int),Enc.v ((0:Int):Int),Enc.v ((0:Int):Int),Enc.v (([]:(List UInt8)):(List UInt8))])] rfl nd (dlt rfl) rfl ⟨rfl,⟨rfl,trivial⟩⟩ (ok_code_Reader_Byte r5.1 r5.2 b6 (Nd.take nd 1 rfl) _ hr8) ?_
 rintro _ _ hQ nd
 obtain ⟨rfl,rfl⟩:=hQ
 refine P1 (p_cvt src5 kd3 rfl (cv_8 r8.1)) rfl rfl ?_
 refine TLc.p (gc:=true) (p_bld (l:=[Enc.v ((r8.1.toNat:Int):Int),Enc.v ((0:Int):Int),Enc.v ((0:Int):Int),.nils]) ty68 rfl all68 rfl (fun _=>⟨⟨rfl,trivial,rfl⟩,trivial⟩)) rfl rfl (TL.wk (v':=Enc.v ((Unit_api.mk (r8.1.toNat:Int) (0:Int) (0:Int) ([]:(List UInt8))):Unit_api)) (Wk_agg ⟨Wk.refl _,Wk.refl _,Wk.refl _,Wk_nil,trivial⟩) ?_)
 refine TLc.alO (l:=[Enc.v ((0:Int):Int),Enc.v ((0:Int):Int),Enc.v ((0:Int):Int),.nils]) nd ty68 ti68_z rfl rfl fun b10 nd=>?_
 refine TLc.stV (lu:=Enc.cl ((Unit_api.mk (r8.1.toNat:Int) (0:Int) (0:Int) ([]:(List UInt8))):Unit_api)) nd ty68 rfl (j:=0) rfl rfl rfl (Cells_v ((Unit_api.mk (r8.1.toNat:Int) (0:Int) (0:Int) ([]:(List UInt8))):Unit_api)) rfl rfl [Enc.v ((Unit_api.mk (r8.1.toNat:Int) (0:Int) (0:Int) ([]:(List UInt8))).Kind:Int),Enc.v ((Unit_api.mk (r8.1.toNat:Int) (0:Int) (0:Int) ([]:(List UInt8))).Label:Int),Enc.v ((Unit_api.mk (r8.1.toNat:Int) (0:Int) (0:Int) ([]:(List UInt8))).Number:Int),Enc.v ((Unit_api.mk (r8.1.toNat:Int) (0:Int) (0:Int) ([]:(List UInt8))).Load:(List UInt8))] rfl fun nd=>?_
 refine TL.nil (hK7 _ _ (SR fun K11 hK11=>M rfl rfl ?_))
 obtain ⟨r12,hr12,hX⟩:=bind_some hX
 refine TL.pick [1,0,2] nd Dc fun nd=>?_
 refine TL.tcX [(b6,RV 215 [Enc.v r8.2.1,Enc.v r8.2.2])] [(b10,RV 68 [Enc.v ((Unit_api.mk (r8.1.toNat:Int) (0:Int) (0:Int) ([]:(List UInt8))).Kind:Int),Enc.v ((Unit_api.mk (r8.1.toNat:Int) (0:Int) (0:Int) ([]:(List UInt8))).Label:Int),Enc.v ((Unit_api.mk (r8.1.toNat:Int) (0:Int) (0:Int) ([]:(List UInt8))).Number:Int),Enc.v ((Unit_api.mk (r8.1.toNat:Int) (0:Int) (0:Int) ([]:(List UInt8))).Load:(List UInt8))]),(b3,RV 68 [Enc.v ((0:Int):Int),Enc.v ((0:Int):Int),Enc.v ((0:Int):Int),Enc.v (([]:(List UInt8)):(List UInt8))])] rfl nd (dlt rfl) rfl ⟨rfl,⟨rfl,trivial⟩⟩ (ok_code_Reader_Int r8.2.1 r8.2.2 b6 (Nd.take nd 1 rfl) _ hr12) ?_
 rintro _ _ hQ nd
 obtain ⟨rfl,rfl⟩:=hQ
 refine P1 (p_faV fs68_1 Dc rfl nd (j:=1) rfl rfl) rfl rfl ?_
 refine TLc.stV (lu:=Enc.cl (r12.1:Int)) nd ty3 rfl (j:=1) rfl rfl rfl (Cells_v (r12.1:Int)) rfl rfl [Enc.v ((Unit_api.mk (r8.1.toNat:Int) (0:Int) (0:Int) ([]:(List UInt8))).Kind:Int),Enc.v r12.1,Enc.v ((Unit_api.mk (r8.1.toNat:Int) (0:Int) (0:Int) ([]:(List UInt8))).Number:Int),Enc.v ((Unit_api.mk (r8.1.toNat:Int) (0:Int) (0:Int) ([]:(List UInt8))).Load:(List UInt8))] rfl fun nd=>?_
 refine TL.nil (hK11 _ _ (SR fun K14 hK14=>M rfl rfl ?_))
 obtain ⟨r15,hr15,hX⟩:=bind_some hX
 refine TL.tcX [(b6,RV 215 [Enc.v r12.2.1,Enc.v r12.2.2])] [(b10,RV 68 [Enc.v ((Unit_api.mk (r8.1.toNat:Int) (0:Int) (0:Int) ([]:(List UInt8))).Kind:Int),Enc.v r12.1,Enc.v ((Unit_api.mk (r8.1.toNat:Int) (0:Int) (0:Int) ([]:(List UInt8))).Number:Int),Enc.v ((Unit_api.mk (r8.1.toNat:Int) (0:Int) (0:Int) ([]:(List UInt8))).Load:(List UInt8))]),(b3,RV 68 [Enc.v ((0:Int):Int),Enc.v ((0:Int):Int),Enc.v ((0:Int):Int),Enc.v (([]:(List UInt8)):(List UInt8))])] rfl nd (dlt rfl) rfl ⟨rfl,⟨rfl,trivial⟩⟩ (ok_code_Reader_Int r12.2.1 r12.2.2 b6 (Nd.take nd 1 rfl) _ hr15) ?_
 rintro _ _ hQ nd
 obtain ⟨rfl,rfl⟩:=hQ
 refine P1 (p_faV fs68_2 Dc rfl nd (j:=1) rfl rfl) rfl rfl ?_
 refine TLc.stV (lu:=Enc.cl (r15.1:Int)) nd ty3 rfl (j:=1) rfl rfl rfl (Cells_v (r15.1:Int)) rfl rfl [Enc.v ((Unit_api.mk (r8.1.toNat:Int) (0:Int) (0:Int) ([]:(List UInt8))).Kind:Int),Enc.v r12.1,Enc.v r15.1,Enc.v ((Unit_api.mk (r8.1.toNat:Int) (0:Int) (0:Int) ([]:(List UInt8))).Load:(List UInt8))] rfl fun nd=>?_
 refine TL.nil (hK14 _ _ (SR fun K17 hK17=>M rfl rfl ?_))
 obtain ⟨r18,hr18,hX⟩:=bind_some hX
 refine TL.tcX [(b6,RV 215 [Enc.v r15.2.1,Enc.v r15.2.2])] [(b10,RV 68 [Enc.v ((Unit_api.mk (r8.1.toNat:Int) (0:Int) (0:Int) ([]:(List UInt8))).Kind:Int),Enc.v r12.1,Enc.v r15.1,Enc.v ((Unit_api.mk (r8.1.toNat:Int) (0:Int) (0:Int) ([]:(List UInt8))).Load:(List UInt8))]),(b3,RV 68 [Enc.v ((0:Int):Int),Enc.v ((0:Int):Int),Enc.v ((0:Int):Int),Enc.v (([]:(List UInt8)):(List UInt8))])] rfl nd (dlt rfl) rfl ⟨rfl,⟨rfl,trivial⟩⟩ (ok_code_Reader_Byte r15.2.1 r15.2.2 b6 (Nd.take nd 1 rfl) _ hr18) ?_
 rintro _ _ hQ nd
 obtain ⟨rfl,rfl⟩:=hQ
 refine P1 (p_cvt src5 kd3 rfl (cv_8 r18.1)) rfl rfl (P1 (p_shl rfl rfl (fun _=>by omega)) rfl rfl (M rfl rfl ?_))
 obtain ⟨r20,hr20,hX⟩:=bind_some hX
 refine TL.tcX [(b6,RV 215 [Enc.v r18.2.1,Enc.v r18.2.2])] [(b10,RV 68 [Enc.v ((Unit_api.mk (r8.1.toNat:Int) (0:Int) (0:Int) ([]:(List UInt8))).Kind:Int),Enc.v r12.1,Enc.v r15.1,Enc.v ((Unit_api.mk (r8.1.toNat:Int) (0:Int) (0:Int) ([]:(List UInt8))).Load:(List UInt8))]),(b3,RV 68 [Enc.v ((0:Int):Int),Enc.v ((0:Int):Int),Enc.v ((0:Int):Int),Enc.v (([]:(List UInt8)):(List UInt8))])] rfl nd (dlt rfl) rfl ⟨rfl,⟨rfl,trivial⟩⟩ (ok_code_Reader_Byte r18.2.1 r18.2.2 b6 (Nd.take nd 1 rfl) _ hr20) ?_
 rintro _ _ hQ nd
 obtain ⟨rfl,rfl⟩:=hQ
 refine P1 (p_cvt src5 kd3 rfl (cv_8 r20.1)) rfl rfl (P1 (p_or64 rfl rfl) rfl rfl (M rfl rfl (TL.nil (hK17 _ _ (SR fun K22 hK22=>M rfl rfl (M rfl rfl ?_))))))
 obtain ⟨r23,hr23,hX⟩:=bind_some hX
 refine TL.tcX [(b6,RV 215 [Enc.v r20.2.1,Enc.v r20.2.2])] [(b10,RV 68 [Enc.v ((Unit_api.mk (r8.1.toNat:Int) (0:Int) (0:Int) ([]:(List UInt8))).Kind:Int),Enc.v r12.1,Enc.v r15.1,Enc.v ((Unit_api.mk (r8.1.toNat:Int) (0:Int) (0:Int) ([]:(List UInt8))).Load:(List UInt8))]),(b3,RV 68 [Enc.v ((0:Int):Int),Enc.v ((0:Int):Int),Enc.v ((0:Int):Int),Enc.v (([]:(List UInt8)):(List UInt8))])] rfl nd (dlt rfl) rfl ⟨rfl,⟨rfl,⟨rfl,trivial⟩⟩⟩ (ok_code_Reader_Raw (or64 (shl64 (r18.1.toNat:Int) ((8:UInt64).toNat:Int)) (r20.1.toNat:Int)) r20.2.1 r20.2.2 b6 (Nd.take nd 1 rfl) _ hr23) ?_
 rintro _ _ hQ nd
 obtain ⟨rfl,rfl⟩:=hQ
 refine P1 (p_faV fs68_3 Dc rfl nd (j:=1) rfl rfl) rfl rfl ?_
 refine TLc.stV (lu:=Enc.cl (r23.1:(List UInt8))) nd ty25 rfl (j:=1) rfl rfl rfl (Cells_v (r23.1:(List UInt8))) rfl rfl [Enc.v ((Unit_api.mk (r8.1.toNat:Int) (0:Int) (0:Int) ([]:(List UInt8))).Kind:Int),Enc.v r12.1,Enc.v r15.1,Enc.v r23.1] rfl fun nd=>?_
 refine TL.nil (hK22 _ _ ?_)
 refine TK.seq_k fun K25 hK25=>?_
 refine SR fun K26 hK26=>M rfl rfl ?_
 obtain ⟨r27,hr27,hX⟩:=bind_some hX
 refine TL.lookX [.vref (ofL [Enc.v r23.2.1,Enc.v r23.2.2]) 2 0] rfl rfl rfl (fun _=>⟨rfl,⟨rfl,trivial⟩⟩) ⟨look_ref (l:=[Enc.v r23.2.1,Enc.v r23.2.2]) nd (j:=0) rfl ⟨look_v (v:=Enc.v r23.2.1) (v_val _),look_v (v:=Enc.v r23.2.2) (v_val _),trivial⟩,trivial⟩ (fun e=>ok_code_Reader_Bad r23.2.1 r23.2.2 _ hr27) (trivial) ?_
 refine M rfl rfl ?_
 refine TLc.p (gc:=(!r27)) (p_ldVa (l':=Enc.cl ((Unit_api.mk (Unit_api.mk (r8.1.toNat:Int) (0:Int) (0:Int) ([]:(List UInt8))).Kind r12.1 r15.1 r23.1):Unit_api)) ty68 rfl rfl nd (j:=1) rfl rfl rfl rfl (Nat.le_of_ble_eq_true rfl) (hg:=fun e=>rfl)) (gcF1 rfl) rfl ?_
 obtain ⟨r28,hr28,hX⟩:=bind_some hX
 refine TL.cvX (gcF1 rfl) rfl rfl (fun e=>⟨rfl,⟨e,trivial⟩⟩) (fun e=>ok_frame_check (Unit_api.mk (Unit_api.mk (r8.1.toNat:Int) (0:Int) (0:Int) ([]:(List UInt8))).Kind r12.1 r15.1 r23.1) _ (optG_t hr28 e)) ?_
 refine TLc.p (gc:=(!r27)) (p_neq rfl rfl (hg:=fun e=>⟨e,rfl⟩)) (gcF1 rfl) rfl ?_
 refine P1 (p_or rfl rfl (fun e=>⟨rfl,fun h=>(not_t h)⟩)) rfl rfl (M rfl rfl ?_)
 refine TLc.p (gc:=(!((r27||(r28 !=(0:Int)))))) (p_mv rfl (hg:=fun e=>rfl)) (gcF1 rfl) rfl ?_
 refine TLc.p (gc:=(!((r27||(r28 !=(0:Int)))))) (p_ldVa (l':=Enc.cl ((Unit_api.mk (Unit_api.mk (r8.1.toNat:Int) (0:Int) (0:Int) ([]:(List UInt8))).Kind r12.1 r15.1 r23.1):Unit_api)) ty68 rfl rfl nd (j:=1) rfl rfl rfl rfl (Nat.le_of_ble_eq_true rfl) (hg:=fun e=>rfl)) (gcF1 rfl) rfl ?_
 obtain ⟨r29,hr29,hX⟩:=bind_some hX
 refine TL.cvX (gcF1 rfl) rfl rfl (fun e=>⟨rfl,⟨e,trivial⟩⟩) (fun e=>ok_frame_made (Unit_api.mk (Unit_api.mk (r8.1.toNat:Int) (0:Int) (0:Int) ([]:(List UInt8))).Kind r12.1 r15.1 r23.1) _ (optG_t hr29 e)) ?_
 obtain ⟨r30,hr30,hX⟩:=bind_some hX
 refine TL.cvX (gcF1 rfl) rfl rfl (fun e=>⟨rfl,⟨e,⟨e,trivial⟩⟩⟩) (fun e=>ok_slices_Equal_Lbyte_byte b1 r29 _ (optG_t hr30 e)) ?_
 refine TLc.p (gc:=(!((r27||(r28 !=(0:Int)))))) (p_not rfl (hg:=fun e=>e)) (gcF1 rfl) rfl ?_
 refine P1 (p_or rfl rfl (fun e=>⟨rfl,fun h=>(not_t h)⟩)) rfl rfl (TL.nil (hK26 _ _ ?_))
 refine TK.cond (b:=((r27||(r28 !=(0:Int)))||(!r30))) rfl (fun hc=>?_) (fun hc=>?_)
 ·have hX:=ite_t hc hX
  refine SR fun K31 hK31=>?_
  refine TLc.p (gc:=true) (p_bld (l:=[Enc.v ((0:Int):Int),Enc.v ((0:Int):Int),Enc.v ((0:Int):Int),.nils]) ty68 rfl all68 rfl (fun _=>trivial)) rfl rfl (TL.wk (v':=Enc.v ((Unit_api.mk (0:Int) (0:Int) (0:Int) ([]:(List UInt8))):Unit_api)) (Wk_agg ⟨Wk.refl _,Wk.refl _,Wk.refl _,Wk_nil,trivial⟩) ?_)
  refine TLc.stV (lu:=Enc.cl ((Unit_api.mk (0:Int) (0:Int) (0:Int) ([]:(List UInt8))):Unit_api)) nd ty68 rfl (j:=2) rfl rfl rfl (Cells_v ((Unit_api.mk (0:Int) (0:Int) (0:Int) ([]:(List UInt8))):Unit_api)) rfl rfl [Enc.v ((Unit_api.mk (0:Int) (0:Int) (0:Int) ([]:(List UInt8))).Kind:Int),Enc.v ((Unit_api.mk (0:Int) (0:Int) (0:Int) ([]:(List UInt8))).Label:Int),Enc.v ((Unit_api.mk (0:Int) (0:Int) (0:Int) ([]:(List UInt8))).Number:Int),Enc.v ((Unit_api.mk (0:Int) (0:Int) (0:Int) ([]:(List UInt8))).Load:(List UInt8))] rfl fun nd=>?_
  refine M rfl rfl (TL.nil (hK31 _ _ ?_))
  refine TK.ret ?_
  try dsimp only[thenQ]
  exact retC [Enc.v ((Unit_api.mk (0:Int) (0:Int) (0:Int) ([]:(List UInt8))):Unit_api),Enc.v ((2:Int):Int)] ⟨p_ldVa (l':=Enc.cl ((Unit_api.mk (0:Int) (0:Int) (0:Int) ([]:(List UInt8))):Unit_api)) ty68 rfl rfl nd (j:=2) rfl rfl rfl rfl (Nat.le_of_ble_eq_true rfl),p_mv rfl,trivial⟩ (by obtain rfl:=some_in hX;rfl) (tup_val (allVal.mem ⟨v_val _,v_val _,trivial⟩))
 ·have hX:=ite_f hc hX
  refine TK.skip ?_
  refine hK25 _ _ (SR fun K32 hK32=>P1 (p_ldVa (l':=Enc.cl ((Unit_api.mk (Unit_api.mk (r8.1.toNat:Int) (0:Int) (0:Int) ([]:(List UInt8))).Kind r12.1 r15.1 r23.1):Unit_api)) ty68 rfl rfl nd (j:=1) rfl rfl rfl rfl (Nat.le_of_ble_eq_true rfl)) rfl rfl ?_)
  refine TLc.stV (lu:=Enc.cl ((Unit_api.mk (Unit_api.mk (r8.1.toNat:Int) (0:Int) (0:Int) ([]:(List UInt8))).Kind r12.1 r15.1 r23.1):Unit_api)) nd ty68 rfl (j:=2) rfl rfl rfl (Cells_v ((Unit_api.mk (Unit_api.mk (r8.1.toNat:Int) (0:Int) (0:Int) ([]:(List UInt8))).Kind r12.1 r15.1 r23.1):Unit_api)) rfl rfl [Enc.v ((Unit_api.mk (Unit_api.mk (r8.1.toNat:Int) (0:Int) (0:Int) ([]:(List UInt8))).Kind r12.1 r15.1 r23.1).Kind:Int),Enc.v ((Unit_api.mk (Unit_api.mk (r8.1.toNat:Int) (0:Int) (0:Int) ([]:(List UInt8))).Kind r12.1 r15.1 r23.1).Label:Int),Enc.v ((Unit_api.mk (Unit_api.mk (r8.1.toNat:Int) (0:Int) (0:Int) ([]:(List UInt8))).Kind r12.1 r15.1 r23.1).Number:Int),Enc.v ((Unit_api.mk (Unit_api.mk (r8.1.toNat:Int) (0:Int) (0:Int) ([]:(List UInt8))).Kind r12.1 r15.1 r23.1).Load:(List UInt8))] rfl fun nd=>?_
  refine M rfl rfl (TL.nil (hK32 _ _ ?_))
  refine TK.ret ?_
  try dsimp only[thenQ]
  exact retC [Enc.v ((Unit_api.mk (Unit_api.mk (r8.1.toNat:Int) (0:Int) (0:Int) ([]:(List UInt8))).Kind r12.1 r15.1 r23.1):Unit_api),Enc.v ((0:Int):Int)] ⟨p_ldVa (l':=Enc.cl ((Unit_api.mk (Unit_api.mk (r8.1.toNat:Int) (0:Int) (0:Int) ([]:(List UInt8))).Kind r12.1 r15.1 r23.1):Unit_api)) ty68 rfl rfl nd (j:=2) rfl rfl rfl rfl (Nat.le_of_ble_eq_true rfl),p_mv rfl,trivial⟩ (by obtain rfl:=some_in hX;rfl) (tup_val (allVal.mem ⟨v_val _,v_val _,trivial⟩))
theorem bc_volume_Good:BodyC cx 115 48 [.c 4 68,.t 5] k115:=⟨Enters.of Try.func115 (by kernel_rfl) (by kernel_rfl),_,_,Try.func115,rfl,by kernel_rfl,rfl,rfl⟩
theorem ok_volume_Good (t1:Tape_api) (n2:Int) (r:(Unit_api×Bool)) (hX:X.volume_Good t1 n2=some r):Fun Try.prog 115 [Enc.v (t1:Tape_api),Enc.v (n2:Int)] (·= .tup 2 (ofL [Enc.v r.1,Enc.v r.2])):=by
 refine Fun.ofC (C:=cx) bc_volume_Good (Nat.le_of_ble_eq_true rfl) (allVal.mem ⟨(by exact (v_val _)),(by exact (v_val _)),trivial⟩) ?_
 unfold k115
 have nd:Nd []:=Nd_nil
 unfold X.volume_Good at hX
 refine SR fun K3 hK3=>?_
 refine TLc.boxV (lu:=[Enc.v t1.Label,Enc.v t1.Cap,Enc.v t1.Blocks,Enc.v t1.Lost]) nd rfl (Cells_v (t1:Tape_api)) rfl ?_
 refine TLc.alO (l:=[Enc.v ((0:Int):Int),Enc.v ((0:Int):Int),Enc.v ((0:Int):Int),.nils]) nd ty68 ti68_z rfl rfl fun b4 nd=>?_
 refine M rfl rfl (TL.nil (hK3 _ _ ?_))
 refine TK.cvR nd (j:=0) rfl (l':=[Enc.v ((0:Int):Int),Enc.v ((0:Int):Int),Enc.v ((0:Int):Int),Enc.v (([]:(List UInt8)):(List UInt8))]) ⟨Wk.refl _,Wk.refl _,Wk.refl _,Wk_nil,trivial⟩ fun nd=>?_
 refine TK.seq_k fun K5 hK5=>?_
 refine SR fun K6 hK6=>P1 (p_faR fs54_3 Dc rfl) rfl rfl (P1 (p_ldR (v:=Enc.v t1.Lost) ty4 rfl rfl rfl rfl rfl rfl) rfl rfl (M rfl rfl ?_))
 refine TLc.p (gc:=(!(t1.Lost))) (p_mv rfl (hg:=fun e=>rfl)) (gcF1 rfl) rfl ?_
 refine TLc.p (gc:=(!(t1.Lost))) (p_lss rfl rfl (hg:=fun e=>⟨e,rfl⟩)) (gcF1 rfl) rfl ?_
 refine P1 (p_or rfl rfl (fun e=>⟨rfl,fun h=>(not_t h)⟩)) rfl rfl (M rfl rfl ?_)
 refine TLc.p (gc:=(!((t1.Lost||(decide (n2<(0:Int))))))) (p_mv rfl (hg:=fun e=>rfl)) (gcF1 rfl) rfl ?_
 refine TLc.p (gc:=(!((t1.Lost||(decide (n2<(0:Int))))))) (p_faR fs54_2 Dc rfl (hg:=fun e=>rfl)) (gcF1 rfl) rfl ?_
 refine TLc.p (gc:=(!((t1.Lost||(decide (n2<(0:Int))))))) (p_ldR (v:=Enc.v t1.Blocks) ty22 rfl rfl rfl rfl rfl rfl (hg:=fun e=>e)) (gcF1 rfl) rfl ?_
 refine TLc.p (gc:=(!((t1.Lost||(decide (n2<(0:Int))))))) (p_lenL (xs:=t1.Blocks) kd22 rfl (hg:=fun e=>e)) (gcF1 rfl) rfl ?_
 refine TLc.p (gc:=(!((t1.Lost||(decide (n2<(0:Int))))))) (p_geq rfl rfl (hg:=fun e=>⟨e,e⟩)) (gcF1 rfl) rfl ?_
 refine P1 (p_or rfl rfl (fun e=>⟨rfl,fun h=>(not_t h)⟩)) rfl rfl (TL.nil (hK6 _ _ ?_))
 refine TK.cond (b:=((t1.Lost||(decide (n2<(0:Int))))||(decide (n2≥(t1.Blocks.length:Int))))) rfl (fun hc=>?_) (fun hc=>?_)
 ·have hX:=ite_t hc hX
  refine SR fun K7 hK7=>?_
  refine TLc.p (gc:=true) (p_bld (l:=[Enc.v ((0:Int):Int),Enc.v ((0:Int):Int),Enc.v ((0:Int):Int),.nils]) ty68 rfl all68 rfl (fun _=>trivial)) rfl rfl (TL.wk (v':=Enc.v ((Unit_api.mk (0:Int) (0:Int) (0:Int) ([]:(List UInt8))):Unit_api)) (Wk_agg ⟨Wk.refl _,Wk.refl _,Wk.refl _,Wk_nil,trivial⟩) ?_)
  refine TLc.stV (lu:=Enc.cl ((Unit_api.mk (0:Int) (0:Int) (0:Int) ([]:(List UInt8))):Unit_api)) nd ty68 rfl (j:=0) rfl rfl rfl (Cells_v ((Unit_api.mk (0:Int) (0:Int) (0:Int) ([]:(List UInt8))):Unit_api)) rfl rfl [Enc.v ((Unit_api.mk (0:Int) (0:Int) (0:Int) ([]:(List UInt8))).Kind:Int),Enc.v ((Unit_api.mk (0:Int) (0:Int) (0:Int) ([]:(List UInt8))).Label:Int),Enc.v ((Unit_api.mk (0:Int) (0:Int) (0:Int) ([]:(List UInt8))).Number:Int),Enc.v ((Unit_api.mk (0:Int) (0:Int) (0:Int) ([]:(List UInt8))).Load:(List UInt8))] rfl fun nd=>?_
  refine M rfl rfl (TL.nil (hK7 _ _ ?_))
  refine TK.ret ?_
  try dsimp only[thenQ]
  exact retC [Enc.v ((Unit_api.mk (0:Int) (0:Int) (0:Int) ([]:(List UInt8))):Unit_api),Enc.v false] ⟨p_ldVa (l':=Enc.cl ((Unit_api.mk (0:Int) (0:Int) (0:Int) ([]:(List UInt8))):Unit_api)) ty68 rfl rfl nd (j:=0) rfl rfl rfl rfl (Nat.le_of_ble_eq_true rfl),p_mv rfl,trivial⟩ (by obtain rfl:=some_in hX;rfl) (tup_val (allVal.mem ⟨v_val _,v_val _,trivial⟩))
 ·have hX:=ite_f hc hX
  refine TK.skip ?_
  refine hK5 _ _ (SR fun K8 hK8=>P1 (p_faR fs54_2 Dc rfl) rfl rfl (P1 (p_ldR (v:=Enc.v t1.Blocks) ty22 rfl rfl rfl rfl rfl rfl) rfl rfl (M rfl rfl ?_)))
  obtain ⟨e9,he9,hX⟩:=bind_some hX
  refine P1 (p_iaL (xs:=t1.Blocks) kd22 ty25 rfl rfl rfl (fun _=>he9)) rfl rfl (P1 (p_ldE (xs:=t1.Blocks) (a:=e9) (e9:(List UInt8)) ty25 rfl rfl (fun _=>he9) rfl rfl rfl) rfl rfl ?_)
  obtain ⟨r10,hr10,hX⟩:=bind_some hX
  refine TL.cvX rfl rfl rfl (fun _=>⟨rfl,⟨rfl,trivial⟩⟩) (fun e=>ok_frame_Get e9 _ hr10) ?_
  refine M rfl rfl (P1 (p_ex rfl rfl Dc) rfl rfl (P1 (p_ex rfl rfl Dc) rfl rfl ?_))
  refine TLc.alO (l:=[Enc.v ((0:Int):Int),Enc.v ((0:Int):Int),Enc.v ((0:Int):Int),.nils]) nd ty68 ti68_z rfl rfl fun b11 nd=>?_
  refine TLc.stV (lu:=Enc.cl (r10.1:Unit_api)) nd ty68 rfl (j:=0) rfl rfl rfl (Cells_v (r10.1:Unit_api)) rfl rfl [Enc.v r10.1.Kind,Enc.v r10.1.Label,Enc.v r10.1.Number,Enc.v r10.1.Load] rfl fun nd=>?_
  refine M rfl rfl (TL.nil (hK8 _ _ ?_))
  refine TK.seq_k fun K12 hK12=>?_
  refine SR fun K13 hK13=>M rfl rfl (P1 (p_neq rfl rfl) rfl rfl (M rfl rfl ?_))
  refine TLc.p (gc:=(!((r10.2 !=(0:Int))))) (p_faV fs68_1 Dc rfl nd (j:=0) rfl rfl (hg:=fun e=>rfl)) (gcF1 rfl) rfl ?_
  refine TLc.p (gc:=(!((r10.2 !=(0:Int))))) (p_ldV (v:=Enc.v r10.1.Label) ty3 rfl rfl nd (j:=0) rfl rfl rfl rfl rfl (hg:=fun e=>e)) (gcF1 rfl) rfl ?_
  refine TLc.p (gc:=(!((r10.2 !=(0:Int))))) (p_faR fs54_0 Dc rfl (hg:=fun e=>rfl)) (gcF1 rfl) rfl ?_
  refine TLc.p (gc:=(!((r10.2 !=(0:Int))))) (p_ldR (v:=Enc.v t1.Label) ty3 rfl rfl rfl rfl rfl rfl (hg:=fun e=>e)) (gcF1 rfl) rfl ?_
  refine TLc.p (gc:=(!((r10.2 !=(0:Int))))) (p_neq rfl rfl (hg:=fun e=>⟨e,e⟩)) (gcF1 rfl) rfl ?_
  refine P1 (p_or rfl rfl (fun e=>⟨rfl,fun h=>(not_t h)⟩)) rfl rfl (M rfl rfl ?_)
  refine TLc.p (gc:=(!(((r10.2 !=(0:Int))||(r10.1.Label !=t1.Label))))) (p_faV fs68_2 Dc rfl nd (j:=0) rfl rfl (hg:=fun e=>rfl)) (gcF1 rfl) rfl ?_
  refine TLc.p (gc:=(!(((r10.2 !=(0:Int))||(r10.1.Label !=t1.Label))))) (p_ldV (v:=Enc.v r10.1.Number) ty3 rfl rfl nd (j:=0) rfl rfl rfl rfl rfl (hg:=fun e=>e)) (gcF1 rfl) rfl ?_
  refine TLc.p (gc:=(!(((r10.2 !=(0:Int))||(r10.1.Label !=t1.Label))))) (p_mv rfl (hg:=fun e=>rfl)) (gcF1 rfl) rfl ?_
  refine TLc.p (gc:=(!(((r10.2 !=(0:Int))||(r10.1.Label !=t1.Label))))) (p_neq rfl rfl (hg:=fun e=>⟨e,e⟩)) (gcF1 rfl) rfl ?_
  refine P1 (p_or rfl rfl (fun e=>⟨rfl,fun h=>(not_t h)⟩)) rfl rfl (TL.nil (hK13 _ _ ?_))
  refine TK.cond (b:=(((r10.2 !=(0:Int))||(r10.1.Label !=t1.Label))||(r10.1.Number !=n2))) rfl (fun hc=>?_) (fun hc=>?_)
  ·have hX:=ite_t hc hX
   refine SR fun K14 hK14=>?_
   refine TLc.p (gc:=true) (p_bld (l:=[Enc.v ((0:Int):Int),Enc.v ((0:Int):Int),Enc.v ((0:Int):Int),.nils]) ty68 rfl all68 rfl (fun _=>trivial)) rfl rfl (TL.wk (v':=Enc.v ((Unit_api.mk (0:Int) (0:Int) (0:Int) ([]:(List UInt8))):Unit_api)) (Wk_agg ⟨Wk.refl _,Wk.refl _,Wk.refl _,Wk_nil,trivial⟩) ?_)
   refine TLc.stV (lu:=Enc.cl ((Unit_api.mk (0:Int) (0:Int) (0:Int) ([]:(List UInt8))):Unit_api)) nd ty68 rfl (j:=1) rfl rfl rfl (Cells_v ((Unit_api.mk (0:Int) (0:Int) (0:Int) ([]:(List UInt8))):Unit_api)) rfl rfl [Enc.v ((Unit_api.mk (0:Int) (0:Int) (0:Int) ([]:(List UInt8))).Kind:Int),Enc.v ((Unit_api.mk (0:Int) (0:Int) (0:Int) ([]:(List UInt8))).Label:Int),Enc.v ((Unit_api.mk (0:Int) (0:Int) (0:Int) ([]:(List UInt8))).Number:Int),Enc.v ((Unit_api.mk (0:Int) (0:Int) (0:Int) ([]:(List UInt8))).Load:(List UInt8))] rfl fun nd=>?_
   refine M rfl rfl (TL.nil (hK14 _ _ ?_))
   refine TK.ret ?_
   try dsimp only[thenQ]
   exact retC [Enc.v ((Unit_api.mk (0:Int) (0:Int) (0:Int) ([]:(List UInt8))):Unit_api),Enc.v false] ⟨p_ldVa (l':=Enc.cl ((Unit_api.mk (0:Int) (0:Int) (0:Int) ([]:(List UInt8))):Unit_api)) ty68 rfl rfl nd (j:=1) rfl rfl rfl rfl (Nat.le_of_ble_eq_true rfl),p_mv rfl,trivial⟩ (by obtain rfl:=some_in hX;rfl) (tup_val (allVal.mem ⟨v_val _,v_val _,trivial⟩))
  ·have hX:=ite_f hc hX
   refine TK.skip ?_
   refine hK12 _ _ (SR fun K15 hK15=>P1 (p_ldVa (l':=Enc.cl (r10.1:Unit_api)) ty68 rfl rfl nd (j:=0) rfl rfl rfl rfl (Nat.le_of_ble_eq_true rfl)) rfl rfl ?_)
   refine TLc.stV (lu:=Enc.cl (r10.1:Unit_api)) nd ty68 rfl (j:=1) rfl rfl rfl (Cells_v (r10.1:Unit_api)) rfl rfl [Enc.v r10.1.Kind,Enc.v r10.1.Label,Enc.v r10.1.Number,Enc.v r10.1.Load] rfl fun nd=>?_
   refine M rfl rfl (TL.nil (hK15 _ _ ?_))
   refine TK.ret ?_
   try dsimp only[thenQ]
   exact retC [Enc.v r10.1,Enc.v true] ⟨p_ldVa (l':=Enc.cl (r10.1:Unit_api)) ty68 rfl rfl nd (j:=1) rfl rfl rfl rfl (Nat.le_of_ble_eq_true rfl),p_mv rfl,trivial⟩ (by obtain rfl:=some_in hX;rfl) (tup_val (allVal.mem ⟨v_val _,v_val _,trivial⟩))
theorem ok_group_allGood (t1:Tape_api) (r:Bool) (hX:X.group_allGood t1=some r):Fun Try.prog 108 [Enc.v (t1:Tape_api)] (·=Enc.v (r:Bool)):=by
 refine Fun.of b108 (Nat.le_of_ble_eq_true rfl) (allVal.mem ⟨(by exact (v_val _)),trivial⟩) ?_
 unfold k108
 have nd:Nd []:=Nd_nil
 unfold X.group_allGood at hX
 refine SR fun K2 hK2=>?_
 refine TLc.boxV (lu:=[Enc.v t1.Label,Enc.v t1.Cap,Enc.v t1.Blocks,Enc.v t1.Lost]) nd rfl (Cells_v (t1:Tape_api)) rfl ?_
 refine M rfl rfl (TL.nil (hK2 _ _ ?_))
 refine TK.seq_k fun K3 hK3=>?_
 refine SR fun K4 hK4=>P1 (p_faR fs54_2 Dc rfl) rfl rfl (P1 (p_ldR (v:=Enc.v t1.Blocks) ty22 rfl rfl rfl rfl rfl rfl) rfl rfl (P1 (p_lenL (xs:=t1.Blocks) kd22 rfl) rfl rfl (M rfl rfl (TL.nil (hK4 _ _ ?_)))))
 refine TK.block ?_
 obtain ⟨o5,hO5,hA5⟩:=bind_some hX
 have E5:∀(env:Env) (h:Hp),(∃_u:Unit,keepE [] env=[]∧Nd []∧HSub [] h)→X.group_allGood_e5=some r→K3 env h:=by
  intro env h hE hX
  obtain ⟨_u,henv,nd,hs⟩:=hE
  unfold X.group_allGood_e5 at hX
  refine hK3 _ _ (TK.keep [] ?_)
  rw[henv]
  refine TK.subH hs ?_
  refine SR fun K7 hK7=>M rfl rfl (TL.nil (hK7 _ _ ?_))
  refine TK.ret ?_
  try dsimp only[thenQ]
  exact R1 rfl hX
 refine TK.iter [1,8,9] (fun s env h=>match s with|x6=>∃_u:Unit,env=[(1,true,.vref (ofL [Enc.v t1.Label,Enc.v t1.Cap,Enc.v t1.Blocks,Enc.v t1.Lost]) 4 0),(8,true,Enc.v ((t1.Blocks.length:Int):Int)),(9,true,Enc.v x6)]∧Nd []∧HSub [] h) hO5 ⟨(),rfl,Nd_nil,HSub.refl _⟩ ?_
 rintro x6 env h x5x ⟨_u,rfl,nd,hs⟩ hX hR5
 refine TK.subH hs ?_
 unfold X.group_allGood_s5 at hX
 try dsimp only at hX
 refine SR fun K8 hK8=>P1 (p_lss rfl rfl) rfl rfl (TL.nil (hK8 _ _ ?_))
 refine TK.seq_k fun K9 hK9=>?_
 refine TK.cond (b:=(decide (x6<(t1.Blocks.length:Int)))) rfl (fun hc=>?_) (fun hc=>?_)
 ·have hX:=ite_t hc hX
  refine TK.skip ?_
  refine hK9 _ _ ?_
  refine TK.seq_k fun K10 hK10=>?_
  refine TK.block ?_
  refine SR fun K11 hK11=>M rfl rfl (M rfl rfl (TL.nil (hK11 _ _ (SR fun K12 hK12=>P1 (p_ldRa (l':=Enc.cl (t1:Tape_api)) ty54 rfl rfl rfl rfl rfl (Nat.le_of_ble_eq_true rfl)) rfl rfl (M rfl rfl ?_)))))
  obtain ⟨r13,hr13,hX⟩:=bind_some hX
  refine TL.cvX rfl rfl rfl (fun _=>⟨rfl,⟨rfl,⟨rfl,trivial⟩⟩⟩) (fun e=>ok_volume_Good t1 x6 _ hr13) ?_
  refine M rfl rfl (P1 (p_ex rfl rfl Dc) rfl rfl (P1 (p_ex rfl rfl Dc) rfl rfl ?_))
  refine TLc.alO (l:=[Enc.v ((0:Int):Int),Enc.v ((0:Int):Int),Enc.v ((0:Int):Int),.nils]) nd ty68 ti68_z rfl rfl fun b14 nd=>?_
  refine TLc.stV (lu:=Enc.cl (r13.1:Unit_api)) nd ty68 rfl (j:=0) rfl rfl rfl (Cells_v (r13.1:Unit_api)) rfl rfl [Enc.v r13.1.Kind,Enc.v r13.1.Label,Enc.v r13.1.Number,Enc.v r13.1.Load] rfl fun nd=>?_
  refine M rfl rfl (TL.nil (hK12 _ _ (SR fun K15 hK15=>M rfl rfl (P1 (p_not rfl) rfl rfl (TL.nil (hK15 _ _ ?_))))))
  refine TK.cond (b:=(!r13.2)) rfl (fun hc=>?_) (fun hc=>?_)
  ·have hX:=ite_t hc hX
   refine SR fun K16 hK16=>M rfl rfl (TL.nil (hK16 _ _ ?_))
   refine TK.ret ?_
   obtain rfl:=hR5 _ (some_in hX).symm
   replace hX:=hA5
   try dsimp only[thenQ]
   exact R1 rfl hX
  ·have hX:=ite_f hc hX
   refine TK.skip ?_
   refine hK10 _ _ ?_
   refine TK.reg ?_
   refine P1 (p_add rfl rfl) rfl rfl (M rfl rfl (TL.nil ?_))
   exact ⟨_,(some_in hX).symm,(),rfl,(Nd.pick nd (is:=[]) Dc),(HSub.pick nd (is:=[]) Dc)⟩
 ·have hX:=ite_f hc hX
  refine TK.exit ?_
  obtain rfl:=hR5 _ (some_in hX).symm
  exact E5 _ _ ⟨(),rfl,Nd_nil,HSub.refl _⟩ hA5
theorem ok_group_check_c2 (t1:Tape_api) (r:Bool) (hX:X.group_check_c2 t1=some r):Fun Try.prog 109 [Enc.v (t1:Tape_api)] (·=Enc.v (r:Bool)):=by
 refine Fun.of b109 (Nat.le_of_ble_eq_true rfl) (allVal.mem ⟨(by exact (v_val _)),trivial⟩) ?_
 unfold k109
 have nd:Nd []:=Nd_nil
 unfold X.group_check_c2 at hX
 refine SR fun K2 hK2=>?_
 refine TLc.boxV (lu:=[Enc.v t1.Label,Enc.v t1.Cap,Enc.v t1.Blocks,Enc.v t1.Lost]) nd rfl (Cells_v (t1:Tape_api)) rfl ?_
 refine M rfl rfl (TL.nil (hK2 _ _ (SR fun K3 hK3=>P1 (p_faR fs54_2 Dc rfl) rfl rfl (P1 (p_ldR (v:=Enc.v t1.Blocks) ty22 rfl rfl rfl rfl rfl rfl) rfl rfl (P1 (p_lenL (xs:=t1.Blocks) kd22 rfl) rfl rfl (P1 (p_gtr rfl rfl) rfl rfl (M rfl rfl (TL.nil (hK3 _ _ ?_)))))))))
 refine TK.ret ?_
 try dsimp only[thenQ]
 exact R1 rfl hX
theorem ok_group_check_c3 (t1:Tape_api) (c2:(List Tape_api)) (r:Bool) (hX:X.group_check_c3 t1 c2=some r):Fun Try.prog 110 [Enc.v (t1:Tape_api),.vref (ofL [Enc.v (c2:(List Tape_api))]) 1 0] (·=Enc.v (r:Bool)):=by
 refine Fun.of b110 (Nat.le_of_ble_eq_true rfl) (allVal.mem ⟨(by exact (v_val _)),(by exact (vref_val (l:=[Enc.v (c2:(List Tape_api))]) rfl ⟨(v_val _),trivial⟩)),trivial⟩) ?_
 unfold k110
 have nd:Nd []:=Nd_nil
 unfold X.group_check_c3 at hX
 refine SR fun K3 hK3=>?_
 refine TLc.boxV (lu:=[Enc.v t1.Label,Enc.v t1.Cap,Enc.v t1.Blocks,Enc.v t1.Lost]) nd rfl (Cells_v (t1:Tape_api)) rfl ?_
 refine M rfl rfl (TL.nil (hK3 _ _ ?_))
 refine TK.seq_k fun K4 hK4=>?_
 have ndS:Nd []:=Nd.pick nd (is:=[]) Dc
 refine TK.drwX (h:=[]) (hS:=[]) [(0,0),(0,1),(0,2),(0,3),(0,4),(0,5),(0,6)] mixed (by kernel_rfl) (HSub_app nd) ?_
 refine D0 rfl (p_ldR (v:=Enc.v c2) ty48 rfl rfl rfl rfl rfl rfl) rfl rfl ?_
 obtain ⟨r5,hr5,hX⟩:=bind_some hX
 refine DR0 (gc:=true) rfl (vok_c rfl (fun _=>⟨rfl,⟨rfl,trivial⟩⟩) (fun e=>ok_stripe_Len c2 _ hr5)) rfl rfl ?_
 refine D0 rfl (p_add rfl rfl) rfl rfl ?_
 refine D0 rfl (p_faR fs54_1 Dc rfl) rfl rfl ?_
 refine D0 rfl (p_ldR (v:=Enc.v t1.Cap) ty3 rfl rfl rfl rfl rfl rfl) rfl rfl ?_
 refine D0 rfl (p_gtr rfl rfl) rfl rfl ?_
 refine DM rfl rfl rfl ?_
 refine DRend ?_
 refine hK4 _ _ ?_
 refine TK.ret ?_
 try dsimp only[thenQ]
 exact R1 rfl hX
theorem ok_group_check (data1:(List Tape_api)) (blank2:(List Tape_api)) (s3:Seal_api) (r:Int) (hX:X.group_check data1 blank2 s3=some r):Fun Try.prog 67 [Enc.v (data1:(List Tape_api)),Enc.v (blank2:(List Tape_api)),Enc.v (s3:Seal_api)] (·=Enc.v (r:Int)):=by
 refine Fun.of b67 (Nat.le_of_ble_eq_true rfl) (allVal.mem ⟨(by exact (v_val _)),(by exact (v_val _)),(by exact (v_val _)),trivial⟩) ?_
 unfold k67
 have nd:Nd []:=Nd_nil
 unfold X.group_check at hX
 refine SR fun K4 hK4=>?_
 refine TLc.boxV (lu:=[Enc.v data1]) nd rfl (Cells_v (data1:(List Tape_api))) rfl ?_
 refine TLc.boxV (lu:=[Enc.v s3.Number,Enc.v s3.Index,Enc.v s3.Data,Enc.v s3.Parity,Enc.v s3.Labels]) nd rfl (Cells_v (s3:Seal_api)) rfl ?_
 refine M rfl rfl (TL.nil (hK4 _ _ (SR fun K5 hK5=>M rfl rfl (TL.nil (hK5 _ _ ?_)))))
 refine TK.seq_k fun K6 hK6=>?_
 refine SR fun K7 hK7=>P1 (p_ldRa (l':=Enc.cl (s3:Seal_api)) ty50 rfl rfl rfl rfl rfl (Nat.le_of_ble_eq_true rfl)) rfl rfl ?_
 obtain ⟨r8,hr8,hX⟩:=bind_some hX
 refine TL.cvX rfl rfl rfl (fun _=>⟨rfl,⟨rfl,trivial⟩⟩) (fun e=>ok_record_RightSeal s3 _ hr8) ?_
 refine P1 (p_not rfl) rfl rfl (M rfl rfl ?_)
 refine TLc.p (gc:=(!((!r8)))) (p_ldR (v:=Enc.v data1) ty48 rfl rfl rfl rfl rfl rfl (hg:=fun e=>rfl)) (gcF1 rfl) rfl ?_
 refine TLc.p (gc:=(!((!r8)))) (p_mv rfl (hg:=fun e=>rfl)) (gcF1 rfl) rfl ?_
 obtain ⟨r9,hr9,hX⟩:=bind_some hX
 refine TL.cvX (gcF1 rfl) rfl rfl (fun e=>⟨rfl,⟨e,⟨e,trivial⟩⟩⟩) (fun e=>ok_slices_ContainsFunc_Lapi_Tape_api_Tape data1 (fun a1=>X.group_check_c1 a1) _ (optG_t hr9 e) ⟨104,0,ofL [],rfl,(fun i hi=>by cases hi),fun a1 r hr=>ok_group_check_c1 a1 r hr⟩) ?_
 refine P1 (p_or rfl rfl (fun e=>⟨rfl,fun h=>(not_t h)⟩)) rfl rfl (M rfl rfl ?_)
 refine TLc.p (gc:=(!(((!r8)||r9)))) (p_mv rfl (hg:=fun e=>rfl)) (gcF1 rfl) rfl ?_
 refine TLc.p (gc:=(!(((!r8)||r9)))) (p_mv rfl (hg:=fun e=>rfl)) (gcF1 rfl) rfl ?_
 obtain ⟨r10,hr10,hX⟩:=bind_some hX
 refine TL.cvX (gcF1 rfl) rfl rfl (fun e=>⟨rfl,⟨e,⟨e,trivial⟩⟩⟩) (fun e=>ok_slices_ContainsFunc_Lapi_Tape_api_Tape blank2 (fun a1=>X.group_check_c1 a1) _ (optG_t hr10 e) ⟨104,0,ofL [],rfl,(fun i hi=>by cases hi),fun a1 r hr=>ok_group_check_c1 a1 r hr⟩) ?_
 refine P1 (p_or rfl rfl (fun e=>⟨rfl,fun h=>(not_t h)⟩)) rfl rfl (M rfl rfl ?_)
 refine TLc.p (gc:=(!((((!r8)||r9)||r10)))) (p_ldR (v:=Enc.v data1) ty48 rfl rfl rfl rfl rfl rfl (hg:=fun e=>rfl)) (gcF1 rfl) rfl ?_
 obtain ⟨r11,hr11,hX⟩:=bind_some hX
 refine TL.cvX (gcF1 rfl) rfl rfl (fun e=>⟨rfl,⟨e,trivial⟩⟩) (fun e=>ok_stripe_Len data1 _ (optG_t hr11 e)) ?_
 refine TLc.p (gc:=(!((((!r8)||r9)||r10)))) (p_eql rfl rfl (hg:=fun e=>⟨e,rfl⟩)) (gcF1 rfl) rfl ?_
 refine P1 (p_or rfl rfl (fun e=>⟨rfl,fun h=>(not_t h)⟩)) rfl rfl (M rfl rfl ?_)
 refine TLc.p (gc:=(!(((((!r8)||r9)||r10)||(r11==(0:Int)))))) (p_ldR (v:=Enc.v data1) ty48 rfl rfl rfl rfl rfl rfl (hg:=fun e=>rfl)) (gcF1 rfl) rfl ?_
 obtain ⟨r12,hr12,hX⟩:=bind_some hX
 refine TL.cvX (gcF1 rfl) rfl rfl (fun e=>⟨rfl,⟨e,⟨rfl,trivial⟩⟩⟩) (fun e=>ok_group_each data1 (fun a1=>X.group_allGood a1) _ (optG_t hr12 e) ⟨108,0,ofL [],rfl,(fun i hi=>by cases hi),fun a1 r hr=>ok_group_allGood a1 r hr⟩) ?_
 refine TLc.p (gc:=(!(((((!r8)||r9)||r10)||(r11==(0:Int)))))) (p_not rfl (hg:=fun e=>e)) (gcF1 rfl) rfl ?_
 refine P1 (p_or rfl rfl (fun e=>⟨rfl,fun h=>(not_t h)⟩)) rfl rfl (TL.nil (hK7 _ _ ?_))
 refine TK.cond (b:=(((((!r8)||r9)||r10)||(r11==(0:Int)))||(!r12))) rfl (fun hc=>?_) (fun hc=>?_)
 ·have hX:=ite_t hc hX
  refine SR fun K13 hK13=>M rfl rfl (TL.nil (hK13 _ _ ?_))
  refine TK.ret ?_
  try dsimp only[thenQ]
  exact R1 rfl hX
 ·have hX:=ite_f hc hX
  refine TK.skip ?_
  refine hK6 _ _ ?_
  refine TK.seq_k fun K14 hK14=>?_
  refine SR fun K15 hK15=>M rfl rfl ?_
  obtain ⟨r16,hr16,hX⟩:=bind_some hX
  refine TL.cvX rfl rfl rfl (fun _=>⟨rfl,⟨rfl,⟨rfl,trivial⟩⟩⟩) (fun e=>ok_slices_ContainsFunc_Lapi_Tape_api_Tape blank2 (fun a1=>X.group_check_c2 a1) _ hr16 ⟨109,0,ofL [],rfl,(fun i hi=>by cases hi),fun a1 r hr=>ok_group_check_c2 a1 r hr⟩) ?_
  refine TL.nil (hK15 _ _ ?_)
  refine TK.cond (b:=r16) rfl (fun hc=>?_) (fun hc=>?_)
  ·have hX:=ite_t hc hX
   refine SR fun K17 hK17=>M rfl rfl (TL.nil (hK17 _ _ ?_))
   refine TK.ret ?_
   try dsimp only[thenQ]
   exact R1 rfl hX
  ·have hX:=ite_f hc hX
   refine TK.skip ?_
   refine hK14 _ _ ?_
   refine TK.seq_k fun K18 hK18=>?_
   refine SR fun K19 hK19=>M rfl rfl (P1 (p_mf (l:=[.vref (ofL [Enc.v data1]) 1 0]) rfl (fun _=>⟨rfl,trivial⟩)) rfl rfl ?_)
   obtain ⟨r20,hr20,hX⟩:=bind_some hX
   refine TL.cvX rfl rfl rfl (fun _=>⟨rfl,⟨rfl,⟨rfl,trivial⟩⟩⟩) (fun e=>ok_slices_ContainsFunc_Lapi_Tape_api_Tape blank2 (fun a1=>X.group_check_c3 a1 data1) _ hr20 ⟨110,1,ofL [.vref (ofL [Enc.v data1]) 1 0],rfl,(caps_val rfl ⟨(vref_val (l:=[Enc.v data1]) rfl ⟨(v_val _),trivial⟩),trivial⟩),fun a1 r hr=>ok_group_check_c3 a1 data1 r hr⟩) ?_
   refine TL.nil (hK19 _ _ ?_)
   refine TK.cond (b:=r20) rfl (fun hc=>?_) (fun hc=>?_)
   ·have hX:=ite_t hc hX
    refine SR fun K21 hK21=>M rfl rfl (TL.nil (hK21 _ _ ?_))
    refine TK.ret ?_
    try dsimp only[thenQ]
    exact R1 rfl hX
   ·have hX:=ite_f hc hX
    refine TK.skip ?_
    refine hK18 _ _ (SR fun K22 hK22=>M rfl rfl (TL.nil (hK22 _ _ ?_)))
    refine TK.ret ?_
    try dsimp only[thenQ]
    exact R1 rfl hX
theorem ok_stripe_cell (t1:Tape_api) (n2:Int) (r:(List UInt8)) (hX:X.stripe_cell t1 n2=some r):Fun Try.prog 150 [Enc.v (t1:Tape_api),Enc.v (n2:Int)] (·=Enc.v (r:(List UInt8))):=by
 refine Fun.of b150 (Nat.le_of_ble_eq_true rfl) (allVal.mem ⟨(by exact (v_val _)),(by exact (v_val _)),trivial⟩) ?_
 unfold k150
 have nd:Nd []:=Nd_nil
 unfold X.stripe_cell at hX
 refine SR fun K3 hK3=>?_
 refine TLc.boxV (lu:=[Enc.v t1.Label,Enc.v t1.Cap,Enc.v t1.Blocks,Enc.v t1.Lost]) nd rfl (Cells_v (t1:Tape_api)) rfl ?_
 refine M rfl rfl (TL.nil (hK3 _ _ ?_))
 refine TK.seq_k fun K4 hK4=>?_
 refine SR fun K5 hK5=>P1 (p_faR fs54_3 Dc rfl) rfl rfl (P1 (p_ldR (v:=Enc.v t1.Lost) ty4 rfl rfl rfl rfl rfl rfl) rfl rfl (M rfl rfl ?_))
 refine TLc.p (gc:=(!(t1.Lost))) (p_mv rfl (hg:=fun e=>rfl)) (gcF1 rfl) rfl ?_
 refine TLc.p (gc:=(!(t1.Lost))) (p_lss rfl rfl (hg:=fun e=>⟨e,rfl⟩)) (gcF1 rfl) rfl ?_
 refine P1 (p_or rfl rfl (fun e=>⟨rfl,fun h=>(not_t h)⟩)) rfl rfl (M rfl rfl ?_)
 refine TLc.p (gc:=(!((t1.Lost||(decide (n2<(0:Int))))))) (p_mv rfl (hg:=fun e=>rfl)) (gcF1 rfl) rfl ?_
 refine TLc.p (gc:=(!((t1.Lost||(decide (n2<(0:Int))))))) (p_faR fs54_2 Dc rfl (hg:=fun e=>rfl)) (gcF1 rfl) rfl ?_
 refine TLc.p (gc:=(!((t1.Lost||(decide (n2<(0:Int))))))) (p_ldR (v:=Enc.v t1.Blocks) ty22 rfl rfl rfl rfl rfl rfl (hg:=fun e=>e)) (gcF1 rfl) rfl ?_
 refine TLc.p (gc:=(!((t1.Lost||(decide (n2<(0:Int))))))) (p_lenL (xs:=t1.Blocks) kd22 rfl (hg:=fun e=>e)) (gcF1 rfl) rfl ?_
 refine TLc.p (gc:=(!((t1.Lost||(decide (n2<(0:Int))))))) (p_geq rfl rfl (hg:=fun e=>⟨e,e⟩)) (gcF1 rfl) rfl ?_
 refine P1 (p_or rfl rfl (fun e=>⟨rfl,fun h=>(not_t h)⟩)) rfl rfl (TL.nil (hK5 _ _ ?_))
 refine TK.cond (b:=((t1.Lost||(decide (n2<(0:Int))))||(decide (n2≥(t1.Blocks.length:Int))))) rfl (fun hc=>?_) (fun hc=>?_)
 ·have hX:=ite_t hc hX
  refine SR fun K6 hK6=>?_
  obtain ⟨u7,hu7,hX⟩:=bind_some hX
  refine TLc.mkV nd (0:UInt8) kd25 ty5 rfl (fun j hj=>by (have:j=0:=by simpa[Enc.sz] using hj);subst this;rfl) rfl rfl Dc (need_t hu7) rfl ?_
  refine M rfl rfl (TL.nil (hK6 _ _ ?_))
  refine TK.ret ?_
  try dsimp only[thenQ]
  exact R1 rfl hX
 ·have hX:=ite_f hc hX
  refine TK.skip ?_
  refine hK4 _ _ ?_
  refine TK.seq_k fun K8 hK8=>?_
  refine SR fun K9 hK9=>P1 (p_faR fs54_2 Dc rfl) rfl rfl (P1 (p_ldR (v:=Enc.v t1.Blocks) ty22 rfl rfl rfl rfl rfl rfl) rfl rfl (M rfl rfl ?_))
  obtain ⟨e10,he10,hX⟩:=bind_some hX
  refine P1 (p_iaL (xs:=t1.Blocks) kd22 ty25 rfl rfl rfl (fun _=>he10)) rfl rfl (P1 (p_ldE (xs:=t1.Blocks) (a:=e10) (e10:(List UInt8)) ty25 rfl rfl (fun _=>he10) rfl rfl rfl) rfl rfl (P1 (p_lenL (xs:=e10) kd25 rfl) rfl rfl (P1 (p_neq rfl rfl) rfl rfl (TL.nil (hK9 _ _ ?_)))))
  refine TK.cond (b:=((e10.length:Int) !=(79:Int))) rfl (fun hc=>?_) (fun hc=>?_)
  ·have hX:=ite_t hc hX
   refine SR fun K11 hK11=>M rfl rfl (TL.nil (hK11 _ _ ?_))
   refine TK.wk 4 (L ([]:(List UInt8))) rfl Wk_nil ?_
   refine TK.ret ?_
   try dsimp only[thenQ]
   exact R1 rfl hX
  ·have hX:=ite_f hc hX
   refine TK.skip ?_
   refine hK8 _ _ (SR fun K12 hK12=>P1 (p_faR fs54_2 Dc rfl) rfl rfl (P1 (p_ldR (v:=Enc.v t1.Blocks) ty22 rfl rfl rfl rfl rfl rfl) rfl rfl (M rfl rfl ?_)))
   obtain ⟨e13,he13,hX⟩:=bind_some hX
   refine P1 (p_iaL (xs:=t1.Blocks) kd22 ty25 rfl rfl rfl (fun _=>he13)) rfl rfl (P1 (p_ldE (xs:=t1.Blocks) (a:=e13) (e13:(List UInt8)) ty25 rfl rfl (fun _=>he13) rfl rfl rfl) rfl rfl ?_)
   obtain ⟨r14,hr14,hX⟩:=bind_some hX
   refine TL.cvX rfl rfl rfl (fun _=>⟨rfl,⟨rfl,trivial⟩⟩) (fun e=>ok_slices_Clone_Lbyte_byte e13 _ hr14) ?_
   refine M rfl rfl (TL.nil (hK12 _ _ ?_))
   refine TK.ret ?_
   try dsimp only[thenQ]
   exact R1 rfl hX
theorem ok_stripe_Row (l1:(List Tape_api)) (n2:Int) (r:(List (List UInt8))) (hX:X.stripe_Row l1 n2=some r):Fun Try.prog 111 [Enc.v (l1:(List Tape_api)),Enc.v (n2:Int)] (·=Enc.v (r:(List (List UInt8)))):=by
 refine Fun.of b111 (Nat.le_of_ble_eq_true rfl) (allVal.mem ⟨(by exact (v_val _)),(by exact (v_val _)),trivial⟩) ?_
 unfold k111
 have nd:Nd []:=Nd_nil
 unfold X.stripe_Row at hX
 refine SR fun K3 hK3=>M rfl rfl (TL.nil (hK3 _ _ (SR fun K4 hK4=>M rfl rfl (TL.nil (hK4 _ _ ?_)))))
 refine TK.ownL (α:=(List UInt8)) 5 25 nd rfl (.inl rfl) fun b5 nd=>?_
 refine TK.seq_k fun K6 hK6=>?_
 refine SR fun K7 hK7=>M rfl rfl (P1 (p_lenL (xs:=l1) kd48 rfl) rfl rfl (M rfl rfl (TL.nil (hK7 _ _ ?_))))
 refine TK.block ?_
 obtain ⟨o8,hO8,hA8⟩:=bind_some hX
 have E8:∀(l13:List (List UInt8)) (env:Env) (h:Hp),(∃b12,keepE [5] env=[(5,true,OL b12 l13)]∧Nd [(b12,RL (α:=(List UInt8)) 25 l13)]∧HSub [(b12,RL (α:=(List UInt8)) 25 l13)] h)→X.stripe_Row_e8 l13=some r→K6 env h:=by
  intro l13 env h hE hX
  obtain ⟨b12,henv,nd,hs⟩:=hE
  unfold X.stripe_Row_e8 at hX
  refine hK6 _ _ (TK.keep [5] ?_)
  rw[henv]
  refine TK.subH hs ?_
  refine SR fun K14 hK14=>M rfl rfl (M rfl rfl (TL.nil (hK14 _ _ ?_)))
  refine TK.lay [(4,L l13)] nd (j:=0) rfl ⟨⟨_,rfl,fix_OL nd (j:=0) rfl,rfl⟩,trivial⟩ fun nd=>?_
  refine TK.ret ?_
  try dsimp only[thenQ]
  exact R1 rfl hX
 refine TK.iter [1,5,8,9,10] (fun s env h=>match s with|(out10,x11)=>∃b9,env=[(1,true,Enc.v n2),(5,true,OL b9 out10),(8,true,Enc.v l1),(9,true,Enc.v ((l1.length:Int):Int)),(10,true,Enc.v x11)]∧Nd [(b9,RL (α:=(List UInt8)) 25 out10)]∧HSub [(b9,RL (α:=(List UInt8)) 25 out10)] h) hO8 ⟨b5,rfl,(Nd.pick nd (is:=[0]) Dc),(HSub.pick nd (is:=[0]) Dc)⟩ ?_
 rintro ⟨out10,x11⟩ env h x8x ⟨b9,rfl,nd,hs⟩ hX hR8
 refine TK.subH hs ?_
 unfold X.stripe_Row_s8 at hX
 try dsimp only at hX
 refine SR fun K15 hK15=>P1 (p_lss rfl rfl) rfl rfl (TL.nil (hK15 _ _ ?_))
 refine TK.seq_k fun K16 hK16=>?_
 refine TK.cond (b:=(decide (x11<(l1.length:Int)))) rfl (fun hc=>?_) (fun hc=>?_)
 ·have hX:=ite_t hc hX
  refine TK.skip ?_
  refine hK16 _ _ ?_
  refine TK.seq_k fun K17 hK17=>?_
  refine TK.block ?_
  refine SR fun K18 hK18=>?_
  obtain ⟨e19,he19,hX⟩:=bind_some hX
  refine P1 (p_iaL (xs:=l1) kd48 ty54 rfl rfl rfl (fun _=>he19)) rfl rfl (P1 (p_ldE (xs:=l1) (a:=e19) (e19:Tape_api) ty54 rfl rfl (fun _=>he19) rfl rfl rfl) rfl rfl ?_)
  refine TLc.alO (l:=[Enc.v ((0:Int):Int),Enc.v ((0:Int):Int),.nils,Enc.v false]) nd ty54 ti54_z rfl rfl fun b20 nd=>?_
  refine TLc.stV (lu:=Enc.cl (e19:Tape_api)) nd ty54 rfl (j:=0) rfl rfl rfl (Cells_v (e19:Tape_api)) rfl rfl [Enc.v e19.Label,Enc.v e19.Cap,Enc.v e19.Blocks,Enc.v e19.Lost] rfl fun nd=>?_
  refine TL.nil (hK18 _ _ ?_)
  refine TK.reg ?_
  refine M rfl rfl (P1 (p_ldVa (l':=Enc.cl (e19:Tape_api)) ty54 rfl rfl nd (j:=0) rfl rfl rfl rfl (Nat.le_of_ble_eq_true rfl)) rfl rfl (M rfl rfl ?_))
  obtain ⟨r21,hr21,hX⟩:=bind_some hX
  refine TL.cvX rfl rfl rfl (fun _=>⟨rfl,⟨rfl,⟨rfl,trivial⟩⟩⟩) (fun e=>ok_stripe_cell e19 n2 _ hr21) ?_
  refine TLc.lit ([r21]:List (List UInt8)) kd22 ty25 rfl ⟨⟨rfl,rfl⟩,trivial⟩ rfl rfl rfl ?_
  obtain ⟨u22,hu22,hX⟩:=bind_some hX
  refine TLc.appO nd kd22 bo22 ty25 rfl rfl (j:=1) rfl rfl (Src_L _) Dc (need_t hu22) rfl fun nd=>?_
  refine M rfl rfl (TL.nil (hK17 _ _ ?_))
  refine TK.reg ?_
  refine P1 (p_add rfl rfl) rfl rfl (M rfl rfl (TL.nil ?_))
  exact ⟨_,(some_in hX).symm,b9,rfl,(Nd.pick nd (is:=[1]) Dc),(HSub.pick nd (is:=[1]) Dc)⟩
 ·have hX:=ite_f hc hX
  refine TK.exit ?_
  obtain rfl:=hR8 _ (some_in hX).symm
  exact E8 out10 _ _ ⟨b9,rfl,(Nd.pick nd (is:=[0]) Dc),(HSub.pick nd (is:=[0]) Dc)⟩ hA8
theorem ok_slices_IndexFunc_LLbyte_Lbyte (s1:(List (List UInt8))) (g2:(List UInt8)→Option Bool) (r:Int) (hX:X.slices_IndexFunc_LLbyte_Lbyte s1 g2=some r) {g2V:AV} (hg2V:∃f m c,g2V= .fn f m c∧(∀i,i<m→(c i).val)∧∀(a0:(List UInt8)) r,g2 a0=some r→Fun Try.prog f ([Enc.v a0]++(List.range m).map c) (·=Enc.v r)):Fun Try.prog 122 [Enc.v (s1:(List (List UInt8))),g2V] (·=Enc.v (r:Int)):=by
 obtain ⟨g2f,g2m,g2c,rfl,hg2v,hg2⟩:=hg2V
 refine Fun.of b122 (Nat.le_of_ble_eq_true rfl) (allVal.mem ⟨(by exact (v_val _)),hg2v,trivial⟩) ?_
 unfold k122
 have nd:Nd []:=Nd_nil
 unfold X.slices_IndexFunc_LLbyte_Lbyte at hX
 refine SR fun K3 hK3=>M rfl rfl (TL.nil (hK3 _ _ ?_))
 refine TK.seq_k fun K4 hK4=>?_
 refine SR fun K5 hK5=>M rfl rfl (P1 (p_lenL (xs:=s1) kd22 rfl) rfl rfl (M rfl rfl (TL.nil (hK5 _ _ ?_))))
 refine TK.block ?_
 obtain ⟨o6,hO6,hA6⟩:=bind_some hX
 have E6:∀(env:Env) (h:Hp),(∃_u:Unit,keepE [] env=[]∧Nd []∧HSub [] h)→X.slices_IndexFunc_LLbyte_Lbyte_e6=some r→K4 env h:=by
  intro env h hE hX
  obtain ⟨_u,henv,nd,hs⟩:=hE
  unfold X.slices_IndexFunc_LLbyte_Lbyte_e6 at hX
  refine hK4 _ _ (TK.keep [] ?_)
  rw[henv]
  refine TK.subH hs ?_
  refine SR fun K8 hK8=>M rfl rfl (TL.nil (hK8 _ _ ?_))
  refine TK.ret ?_
  try dsimp only[thenQ]
  exact R1 rfl hX
 refine TK.iter [0,1,7,8] (fun s env h=>match s with|x7=>∃_u:Unit,env=[(0,true,Enc.v s1),(1,true,.fn g2f g2m g2c),(7,true,Enc.v ((s1.length:Int):Int)),(8,true,Enc.v x7)]∧Nd []∧HSub [] h) hO6 ⟨(),rfl,Nd_nil,HSub.refl _⟩ ?_
 rintro x7 env h x6x ⟨_u,rfl,nd,hs⟩ hX hR6
 refine TK.subH hs ?_
 unfold X.slices_IndexFunc_LLbyte_Lbyte_s6 at hX
 try dsimp only at hX
 refine SR fun K9 hK9=>P1 (p_lss rfl rfl) rfl rfl (TL.nil (hK9 _ _ ?_))
 refine TK.seq_k fun K10 hK10=>?_
 refine TK.cond (b:=(decide (x7<(s1.length:Int)))) rfl (fun hc=>?_) (fun hc=>?_)
 ·have hX:=ite_t hc hX
  refine TK.skip ?_
  refine hK10 _ _ ?_
  refine TK.seq_k fun K11 hK11=>?_
  refine TK.block ?_
  refine SR fun K12 hK12=>M rfl rfl (M rfl rfl (TL.nil (hK12 _ _ (SR fun K13 hK13=>M rfl rfl (M rfl rfl (M rfl rfl ?_))))))
  obtain ⟨e14,he14,hX⟩:=bind_some hX
  refine P1 (p_iaL (xs:=s1) kd22 ty25 rfl rfl rfl (fun _=>he14)) rfl rfl (P1 (p_ldE (xs:=s1) (a:=e14) (e14:(List UInt8)) ty25 rfl rfl (fun _=>he14) rfl rfl rfl) rfl rfl ?_)
  obtain ⟨r15,hr15,hX⟩:=bind_some hX
  refine TL.cvX rfl rfl rfl (fun _=>⟨rfl,⟨rfl,trivial⟩⟩) (fun e=>hg2 e14 _ hr15) ?_
  refine TL.nil (hK13 _ _ ?_)
  refine TK.cond (b:=r15) rfl (fun hc=>?_) (fun hc=>?_)
  ·have hX:=ite_t hc hX
   refine SR fun K16 hK16=>M rfl rfl (M rfl rfl (TL.nil (hK16 _ _ ?_)))
   refine TK.ret ?_
   obtain rfl:=hR6 _ (some_in hX).symm
   replace hX:=hA6
   try dsimp only[thenQ]
   exact R1 rfl hX
  ·have hX:=ite_f hc hX
   refine TK.skip ?_
   refine hK11 _ _ ?_
   refine TK.reg ?_
   refine P1 (p_add rfl rfl) rfl rfl (M rfl rfl (TL.nil ?_))
   exact ⟨_,(some_in hX).symm,(),rfl,Nd_nil,HSub.refl _⟩
 ·have hX:=ite_f hc hX
  refine TK.exit ?_
  obtain rfl:=hR6 _ (some_in hX).symm
  exact E6 _ _ ⟨(),rfl,Nd_nil,HSub.refl _⟩ hA6
theorem ok_slices_ContainsFunc_LLbyte_Lbyte (s1:(List (List UInt8))) (g2:(List UInt8)→Option Bool) (r:Bool) (hX:X.slices_ContainsFunc_LLbyte_Lbyte s1 g2=some r) {g2V:AV} (hg2V:∃f m c,g2V= .fn f m c∧(∀i,i<m→(c i).val)∧∀(a0:(List UInt8)) r,g2 a0=some r→Fun Try.prog f ([Enc.v a0]++(List.range m).map c) (·=Enc.v r)):Fun Try.prog 80 [Enc.v (s1:(List (List UInt8))),g2V] (·=Enc.v (r:Bool)):=by
 obtain ⟨g2f,g2m,g2c,rfl,hg2v,hg2⟩:=hg2V
 refine Fun.of b80 (Nat.le_of_ble_eq_true rfl) (allVal.mem ⟨(by exact (v_val _)),hg2v,trivial⟩) ?_
 unfold k80
 have nd:Nd []:=Nd_nil
 unfold X.slices_ContainsFunc_LLbyte_Lbyte at hX
 refine SR fun K3 hK3=>M rfl rfl (TL.nil (hK3 _ _ (SR fun K4 hK4=>M rfl rfl (M rfl rfl ?_))))
 obtain ⟨r5,hr5,hX⟩:=bind_some hX
 refine TL.cvX rfl rfl rfl (fun _=>⟨rfl,⟨rfl,⟨rfl,trivial⟩⟩⟩) (fun e=>ok_slices_IndexFunc_LLbyte_Lbyte s1 g2 _ hr5 ⟨_,_,_,rfl,hg2v,hg2⟩) ?_
 refine P1 (p_geq rfl rfl) rfl rfl (M rfl rfl (TL.nil (hK4 _ _ ?_)))
 refine TK.ret ?_
 try dsimp only[thenQ]
 exact R1 rfl hX
theorem ok_erasure_alike_c1 (r1:(List UInt8)) (c2:(List (List UInt8))) (r:Bool) (hX:X.erasure_alike_c1 r1 c2=some r):Fun Try.prog 81 [Enc.v (r1:(List UInt8)),.vref (ofL [Enc.v (c2:(List (List UInt8)))]) 1 0] (·=Enc.v (r:Bool)):=by
 refine Fun.of b81 (Nat.le_of_ble_eq_true rfl) (allVal.mem ⟨(by exact (v_val _)),(by exact (vref_val (l:=[Enc.v (c2:(List (List UInt8)))]) rfl ⟨(v_val _),trivial⟩)),trivial⟩) ?_
 unfold k81
 have nd:Nd []:=Nd_nil
 unfold X.erasure_alike_c1 at hX
 refine SR fun K3 hK3=>M rfl rfl (TL.nil (hK3 _ _ (SR fun K4 hK4=>M rfl rfl (P1 (p_lenL (xs:=r1) kd25 rfl) rfl rfl (P1 (p_ldR (v:=Enc.v c2) ty22 rfl rfl rfl rfl rfl rfl) rfl rfl ?_)))))
 obtain ⟨e5,he5,hX⟩:=bind_some hX
 refine P1 (p_iaL (xs:=c2) kd22 ty25 rfl rfl rfl (fun _=>he5)) rfl rfl (P1 (p_ldE (xs:=c2) (a:=e5) (e5:(List UInt8)) ty25 rfl rfl (fun _=>he5) rfl rfl rfl) rfl rfl (P1 (p_lenL (xs:=e5) kd25 rfl) rfl rfl (P1 (p_neq rfl rfl) rfl rfl (M rfl rfl (TL.nil (hK4 _ _ ?_))))))
 refine TK.ret ?_
 try dsimp only[thenQ]
 exact R1 rfl hX
theorem ok_erasure_alike (l1:(List (List UInt8))) (r:Bool) (hX:X.erasure_alike l1=some r):Fun Try.prog 43 [Enc.v (l1:(List (List UInt8)))] (·=Enc.v (r:Bool)):=by
 refine Fun.of b43 (Nat.le_of_ble_eq_true rfl) (allVal.mem ⟨(by exact (v_val _)),trivial⟩) ?_
 unfold k43
 have nd:Nd []:=Nd_nil
 unfold X.erasure_alike at hX
 refine SR fun K2 hK2=>?_
 refine TLc.boxV (lu:=[Enc.v l1]) nd rfl (Cells_v (l1:(List (List UInt8)))) rfl ?_
 refine M rfl rfl (TL.nil (hK2 _ _ (SR fun K3 hK3=>P1 (p_ldR (v:=Enc.v l1) ty22 rfl rfl rfl rfl rfl rfl) rfl rfl (P1 (p_mf (l:=[.vref (ofL [Enc.v l1]) 1 0]) rfl (fun _=>⟨rfl,trivial⟩)) rfl rfl ?_))))
 obtain ⟨r4,hr4,hX⟩:=bind_some hX
 refine TL.cvX rfl rfl rfl (fun _=>⟨rfl,⟨rfl,⟨rfl,trivial⟩⟩⟩) (fun e=>ok_slices_ContainsFunc_LLbyte_Lbyte l1 (fun a1=>X.erasure_alike_c1 a1 l1) _ hr4 ⟨81,1,ofL [.vref (ofL [Enc.v l1]) 1 0],rfl,(caps_val rfl ⟨(vref_val (l:=[Enc.v l1]) rfl ⟨(v_val _),trivial⟩),trivial⟩),fun a1 r hr=>ok_erasure_alike_c1 a1 l1 r hr⟩) ?_
 refine P1 (p_not rfl) rfl rfl (M rfl rfl (TL.nil (hK3 _ _ ?_)))
 refine TK.ret ?_
 try dsimp only[thenQ]
 exact R1 rfl hX
theorem ok_gf_Add (a1:UInt8) (b2:UInt8) (r:UInt8) (hX:X.gf_Add a1 b2=some r):Fun Try.prog 83 [Enc.v (a1:UInt8),Enc.v (b2:UInt8)] (·=Enc.v (r:UInt8)):=by
 refine Fun.of b83 (Nat.le_of_ble_eq_true rfl) (allVal.mem ⟨(by exact (v_val _)),(by exact (v_val _)),trivial⟩) ?_
 unfold k83
 have nd:Nd []:=Nd_nil
 unfold X.gf_Add at hX
 refine SR fun K3 hK3=>M rfl rfl (TL.nil (hK3 _ _ (SR fun K4 hK4=>M rfl rfl (M rfl rfl (P1 (p8_xor (a:=a1) (b:=b2) rfl rfl) rfl rfl (M rfl rfl (TL.nil (hK4 _ _ ?_))))))))
 refine TK.ret ?_
 try dsimp only[thenQ]
 exact R1 rfl hX
theorem ok_gf_Mul (a1:UInt8) (b2:UInt8) (r:UInt8) (hX:X.gf_Mul a1 b2=some r):Fun Try.prog 172 [Enc.v (a1:UInt8),Enc.v (b2:UInt8)] (·=Enc.v (r:UInt8)):=by
 refine Fun.of b172 (Nat.le_of_ble_eq_true rfl) (allVal.mem ⟨(by exact (v_val _)),(by exact (v_val _)),trivial⟩) ?_
 unfold k172
 have nd:Nd []:=Nd_nil
 unfold X.gf_Mul at hX
 refine SR fun K3 hK3=>M rfl rfl (TL.nil (hK3 _ _ (SR fun K4 hK4=>M rfl rfl (TL.nil (hK4 _ _ ?_)))))
 refine TK.seq_k fun K5 hK5=>?_
 refine TK.block ?_
 obtain ⟨o6,hO6,hA6⟩:=bind_some hX
 have E6:∀(out10:UInt8) (env:Env) (h:Hp),(∃_u:Unit,keepE [5] env=[(5,true,Enc.v out10)]∧Nd []∧HSub [] h)→X.gf_Mul_e6 out10=some r→K5 env h:=by
  intro out10 env h hE hX
  obtain ⟨_u,henv,nd,hs⟩:=hE
  unfold X.gf_Mul_e6 at hX
  refine hK5 _ _ (TK.keep [5] ?_)
  rw[henv]
  refine TK.subH hs ?_
  refine SR fun K11 hK11=>M rfl rfl (M rfl rfl (TL.nil (hK11 _ _ ?_)))
  refine TK.ret ?_
  try dsimp only[thenQ]
  exact R1 rfl hX
 refine TK.iter [0,1,5] (fun s env h=>match s with|(a7,b8,out9)=>∃_u:Unit,env=[(0,true,Enc.v a7),(1,true,Enc.v b8),(5,true,Enc.v out9)]∧Nd []∧HSub [] h) hO6 ⟨(),rfl,Nd_nil,HSub.refl _⟩ ?_
 rintro ⟨a7,b8,out9⟩ env h x6x ⟨_u,rfl,nd,hs⟩ hX hR6
 refine TK.subH hs ?_
 unfold X.gf_Mul_s6 at hX
 try dsimp only at hX
 refine TK.seq_k fun K12 hK12=>?_
 refine SR fun K13 hK13=>M rfl rfl (P1 (p8_neq (a:=b8) (b:=(0:UInt8)) rfl rfl) rfl rfl (TL.nil (hK13 _ _ ?_)))
 refine TK.cond (b:=(b8 !=(0:UInt8))) rfl (fun hc=>?_) (fun hc=>?_)
 ·have hX:=ite_t hc hX
  refine TK.skip ?_
  refine hK12 _ _ ?_
  refine TK.seq_k fun K14 hK14=>?_
  have J14:∀(a15:UInt8) (out16:UInt8) (env:Env) (h:Hp),(∃_u:Unit,keepE [0,1,5] env=[(0,true,Enc.v a15),(1,true,Enc.v b8),(5,true,Enc.v out16)]∧Nd []∧HSub [] h)→X.gf_Mul_j14 b8 a15 out16=some x6x→K14 env h:=by
   intro a15 out16 env h hE hX
   obtain ⟨_u,henv,nd,hs⟩:=hE
   unfold X.gf_Mul_j14 at hX
   refine hK14 _ _ (TK.keep [0,1,5] ?_)
   rw[henv]
   refine TK.subH hs ?_
   refine TK.reg ?_
   refine M rfl rfl (P1 (p8_shr (a:=b8) (b:=1) rfl rfl) rfl rfl (M rfl rfl (TL.nil ?_)))
   exact ⟨_,(some_in hX).symm,(),rfl,Nd_nil,HSub.refl _⟩
  refine TK.block ?_
  refine TK.seq_k fun K17 hK17=>?_
  have J17:∀(out18:UInt8) (env:Env) (h:Hp),(∃_u:Unit,keepE [0,1,5] env=[(0,true,Enc.v a7),(1,true,Enc.v b8),(5,true,Enc.v out18)]∧Nd []∧HSub [] h)→X.gf_Mul_j17 a7 b8 out18=some x6x→K17 env h:=by
   intro out18 env h hE hX
   obtain ⟨_u,henv,nd,hs⟩:=hE
   unfold X.gf_Mul_j17 at hX
   refine hK17 _ _ (TK.keep [0,1,5] ?_)
   rw[henv]
   refine TK.subH hs ?_
   refine SR fun K19 hK19=>M rfl rfl (P1 (p8_and (a:=a7) (b:=(128:UInt8)) rfl rfl) rfl rfl (P1 (p8_neq (a:=(a7&&&(128:UInt8))) (b:=(0:UInt8)) rfl rfl) rfl rfl (M rfl rfl (TL.nil (hK19 _ _ (SR fun K20 hK20=>M rfl rfl (P1 (p8_shl (a:=a7) (b:=1) rfl rfl) rfl rfl (M rfl rfl (TL.nil (hK20 _ _ (SR fun K21 hK21=>M rfl rfl (TL.nil (hK21 _ _ ?_)))))))))))))
   refine TK.cond (b:=((a7&&&(128:UInt8)) !=(0:UInt8))) rfl (fun hc=>?_) (fun hc=>?_)
   ·have hX:=ite_t hc hX
    refine TK.reg ?_
    refine M rfl rfl (P1 (p8_xor (a:=(shl8 a7 1)) (b:=(29:UInt8)) rfl rfl) rfl rfl (M rfl rfl (TL.nil ?_)))
    exact J14 ((shl8 a7 1)^^^(29:UInt8)) out18 _ _ ⟨(),rfl,Nd_nil,HSub.refl _⟩ hX
   ·have hX:=ite_f hc hX
    refine TK.skip ?_
    exact J14 (shl8 a7 1) out18 _ _ ⟨(),rfl,Nd_nil,HSub.refl _⟩ hX
  refine SR fun K22 hK22=>M rfl rfl (P1 (p8_and (a:=b8) (b:=(1:UInt8)) rfl rfl) rfl rfl (P1 (p8_eql (a:=(b8&&&(1:UInt8))) (b:=(1:UInt8)) rfl rfl) rfl rfl (TL.nil (hK22 _ _ ?_))))
  refine TK.cond (b:=((b8&&&(1:UInt8))==(1:UInt8))) rfl (fun hc=>?_) (fun hc=>?_)
  ·have hX:=ite_t hc hX
   refine TK.reg ?_
   refine M rfl rfl (M rfl rfl (P1 (p8_xor (a:=out9) (b:=a7) rfl rfl) rfl rfl (M rfl rfl (TL.nil ?_))))
   exact J17 (out9^^^a7) _ _ ⟨(),rfl,Nd_nil,HSub.refl _⟩ hX
  ·have hX:=ite_f hc hX
   refine TK.skip ?_
   exact J17 out9 _ _ ⟨(),rfl,Nd_nil,HSub.refl _⟩ hX
 ·have hX:=ite_f hc hX
  refine TK.exit ?_
  obtain rfl:=hR6 _ (some_in hX).symm
  exact E6 out9 _ _ ⟨(),rfl,Nd_nil,HSub.refl _⟩ hA6
theorem ok_gf_power (a1:UInt8) (n2:Int) (r:UInt8) (hX:X.gf_power a1 n2=some r):Fun Try.prog 126 [Enc.v (a1:UInt8),Enc.v (n2:Int)] (·=Enc.v (r:UInt8)):=by
 refine Fun.of b126 (Nat.le_of_ble_eq_true rfl) (allVal.mem ⟨(by exact (v_val _)),(by exact (v_val _)),trivial⟩) ?_
 unfold k126
 have nd:Nd []:=Nd_nil
 unfold X.gf_power at hX
 refine SR fun K3 hK3=>M rfl rfl (TL.nil (hK3 _ _ (SR fun K4 hK4=>M rfl rfl (TL.nil (hK4 _ _ ?_)))))
 refine TK.seq_k fun K5 hK5=>?_
 refine TK.block ?_
 obtain ⟨o6,hO6,hA6⟩:=bind_some hX
 have E6:∀(out10:UInt8) (env:Env) (h:Hp),(∃_u:Unit,keepE [5] env=[(5,true,Enc.v out10)]∧Nd []∧HSub [] h)→X.gf_power_e6 out10=some r→K5 env h:=by
  intro out10 env h hE hX
  obtain ⟨_u,henv,nd,hs⟩:=hE
  unfold X.gf_power_e6 at hX
  refine hK5 _ _ (TK.keep [5] ?_)
  rw[henv]
  refine TK.subH hs ?_
  refine SR fun K11 hK11=>M rfl rfl (M rfl rfl (TL.nil (hK11 _ _ ?_)))
  refine TK.ret ?_
  try dsimp only[thenQ]
  exact R1 rfl hX
 refine TK.iter [0,1,5] (fun s env h=>match s with|(a7,n8,out9)=>∃_u:Unit,env=[(0,true,Enc.v a7),(1,true,Enc.v n8),(5,true,Enc.v out9)]∧Nd []∧HSub [] h) hO6 ⟨(),rfl,Nd_nil,HSub.refl _⟩ ?_
 rintro ⟨a7,n8,out9⟩ env h x6x ⟨_u,rfl,nd,hs⟩ hX hR6
 refine TK.subH hs ?_
 unfold X.gf_power_s6 at hX
 try dsimp only at hX
 refine TK.seq_k fun K12 hK12=>?_
 refine SR fun K13 hK13=>M rfl rfl (P1 (p_gtr rfl rfl) rfl rfl (TL.nil (hK13 _ _ ?_)))
 refine TK.cond (b:=(decide (n8>(0:Int)))) rfl (fun hc=>?_) (fun hc=>?_)
 ·have hX:=ite_t hc hX
  refine TK.skip ?_
  refine hK12 _ _ ?_
  refine TK.seq_k fun K14 hK14=>?_
  refine TK.block ?_
  refine TK.seq_k fun K15 hK15=>?_
  have J15:∀(out16:UInt8) (env:Env) (h:Hp),(∃_u:Unit,keepE [0,1,5] env=[(0,true,Enc.v a7),(1,true,Enc.v n8),(5,true,Enc.v out16)]∧Nd []∧HSub [] h)→X.gf_power_j15 a7 n8 out16=some x6x→K15 env h:=by
   intro out16 env h hE hX
   obtain ⟨_u,henv,nd,hs⟩:=hE
   unfold X.gf_power_j15 at hX
   refine hK15 _ _ (TK.keep [0,1,5] ?_)
   rw[henv]
   refine TK.subH hs ?_
   refine TK.reg ?_
   refine M rfl rfl (M rfl rfl ?_)
   obtain ⟨r17,hr17,hX⟩:=bind_some hX
   refine TL.cvX rfl rfl rfl (fun _=>⟨rfl,⟨rfl,⟨rfl,trivial⟩⟩⟩) (fun e=>ok_gf_Mul a7 a7 _ hr17) ?_
   refine M rfl rfl (TL.nil (hK14 _ _ ?_))
   refine TK.reg ?_
   refine M rfl rfl (P1 (p_shr rfl rfl (fun _=>by omega)) rfl rfl (M rfl rfl (TL.nil ?_)))
   exact ⟨_,(some_in hX).symm,(),rfl,Nd_nil,HSub.refl _⟩
  refine SR fun K18 hK18=>M rfl rfl (P1 (p_and64 rfl rfl) rfl rfl (P1 (p_eql rfl rfl) rfl rfl (TL.nil (hK18 _ _ ?_))))
  refine TK.cond (b:=((and64 n8 (1:Int))==(1:Int))) rfl (fun hc=>?_) (fun hc=>?_)
  ·have hX:=ite_t hc hX
   refine TK.reg ?_
   refine M rfl rfl (M rfl rfl ?_)
   obtain ⟨r19,hr19,hX⟩:=bind_some hX
   refine TL.cvX rfl rfl rfl (fun _=>⟨rfl,⟨rfl,⟨rfl,trivial⟩⟩⟩) (fun e=>ok_gf_Mul out9 a7 _ hr19) ?_
   refine M rfl rfl (TL.nil ?_)
   exact J15 r19 _ _ ⟨(),rfl,Nd_nil,HSub.refl _⟩ hX
  ·have hX:=ite_f hc hX
   refine TK.skip ?_
   exact J15 out9 _ _ ⟨(),rfl,Nd_nil,HSub.refl _⟩ hX
 ·have hX:=ite_f hc hX
  refine TK.exit ?_
  obtain rfl:=hR6 _ (some_in hX).symm
  exact E6 out9 _ _ ⟨(),rfl,Nd_nil,HSub.refl _⟩ hA6
theorem ok_gf_Inv (a1:UInt8) (r:UInt8) (hX:X.gf_Inv a1=some r):Fun Try.prog 82 [Enc.v (a1:UInt8)] (·=Enc.v (r:UInt8)):=by
 refine Fun.of b82 (Nat.le_of_ble_eq_true rfl) (allVal.mem ⟨(by exact (v_val _)),trivial⟩) ?_
 unfold k82
 have nd:Nd []:=Nd_nil
 unfold X.gf_Inv at hX
 refine SR fun K2 hK2=>M rfl rfl (TL.nil (hK2 _ _ (SR fun K3 hK3=>M rfl rfl ?_)))
 obtain ⟨r4,hr4,hX⟩:=bind_some hX
 refine TL.cvX rfl rfl rfl (fun _=>⟨rfl,⟨rfl,⟨rfl,trivial⟩⟩⟩) (fun e=>ok_gf_power a1 (254:Int) _ hr4) ?_
 refine M rfl rfl (TL.nil (hK3 _ _ ?_))
 refine TK.ret ?_
 try dsimp only[thenQ]
 exact R1 rfl hX
theorem ok_matrix_Cauchy (data1:Int) (parity2:Int) (r:((List (List UInt8))×Int)) (hX:X.matrix_Cauchy data1 parity2=some r):Fun Try.prog 44 [Enc.v (data1:Int),Enc.v (parity2:Int)] (·= .tup 2 (ofL [Enc.v r.1,Enc.v r.2])):=by
 refine Fun.of b44 (Nat.le_of_ble_eq_true rfl) (allVal.mem ⟨(by exact (v_val _)),(by exact (v_val _)),trivial⟩) ?_
 unfold k44
 have nd:Nd []:=Nd_nil
 unfold X.matrix_Cauchy at hX
 refine SR fun K3 hK3=>M rfl rfl (M rfl rfl (TL.nil (hK3 _ _ ?_)))
 refine TK.seq_k fun K4 hK4=>?_
 refine SR fun K5 hK5=>M rfl rfl (P1 (p_lss rfl rfl) rfl rfl (M rfl rfl ?_))
 refine TLc.p (gc:=(!((decide (data1<(1:Int)))))) (p_mv rfl (hg:=fun e=>rfl)) (gcF1 rfl) rfl ?_
 refine TLc.p (gc:=(!((decide (data1<(1:Int)))))) (p_lss rfl rfl (hg:=fun e=>⟨e,rfl⟩)) (gcF1 rfl) rfl ?_
 refine P1 (p_or rfl rfl (fun e=>⟨rfl,fun h=>(not_t h)⟩)) rfl rfl (M rfl rfl ?_)
 refine TLc.p (gc:=(!(((decide (data1<(1:Int)))||(decide (parity2<(1:Int))))))) (p_mv rfl (hg:=fun e=>rfl)) (gcF1 rfl) rfl ?_
 refine TLc.p (gc:=(!(((decide (data1<(1:Int)))||(decide (parity2<(1:Int))))))) (p_gtr rfl rfl (hg:=fun e=>⟨e,rfl⟩)) (gcF1 rfl) rfl ?_
 refine P1 (p_or rfl rfl (fun e=>⟨rfl,fun h=>(not_t h)⟩)) rfl rfl (M rfl rfl ?_)
 refine TLc.p (gc:=(!((((decide (data1<(1:Int)))||(decide (parity2<(1:Int))))||(decide (data1>(255:Int))))))) (p_mv rfl (hg:=fun e=>rfl)) (gcF1 rfl) rfl ?_
 refine TLc.p (gc:=(!((((decide (data1<(1:Int)))||(decide (parity2<(1:Int))))||(decide (data1>(255:Int))))))) (p_mv rfl (hg:=fun e=>rfl)) (gcF1 rfl) rfl ?_
 refine TLc.p (gc:=(!((((decide (data1<(1:Int)))||(decide (parity2<(1:Int))))||(decide (data1>(255:Int))))))) (p_sub rfl rfl (hg:=fun e=>⟨rfl,e⟩)) (gcF1 rfl) rfl ?_
 refine TLc.p (gc:=(!((((decide (data1<(1:Int)))||(decide (parity2<(1:Int))))||(decide (data1>(255:Int))))))) (p_gtr rfl rfl (hg:=fun e=>⟨e,e⟩)) (gcF1 rfl) rfl ?_
 refine P1 (p_or rfl rfl (fun e=>⟨rfl,fun h=>(not_t h)⟩)) rfl rfl (TL.nil (hK5 _ _ ?_))
 refine TK.cond (b:=((((decide (data1<(1:Int)))||(decide (parity2<(1:Int))))||(decide (data1>(255:Int))))||(decide (parity2>(wr ((255:Int)-data1)))))) rfl (fun hc=>?_) (fun hc=>?_)
 ·have hX:=ite_t hc hX
  refine SR fun K6 hK6=>M rfl rfl (M rfl rfl (TL.nil (hK6 _ _ ?_)))
  refine TK.wk 4 (L ([]:(List (List UInt8)))) rfl Wk_nil ?_
  refine TK.ret ?_
  try dsimp only[thenQ]
  exact retN (vs:=[Enc.v (([]:(List (List UInt8))):(List (List UInt8))),Enc.v ((1:Int):Int)]) ⟨rfl,rfl,trivial⟩ (by obtain rfl:=some_in hX;rfl) (allVal.mem ⟨v_val _,v_val _,trivial⟩)
 ·have hX:=ite_f hc hX
  refine TK.skip ?_
  refine hK4 _ _ (SR fun K7 hK7=>M rfl rfl (TL.nil (hK7 _ _ ?_)))
  refine TK.ownL (α:=(List UInt8)) 6 25 nd rfl (.inl rfl) fun b8 nd=>?_
  refine TK.seq_k fun K9 hK9=>?_
  refine SR fun K10 hK10=>M rfl rfl (M rfl rfl (TL.nil (hK10 _ _ ?_)))
  refine TK.block ?_
  obtain ⟨o11,hO11,hA11⟩:=bind_some hX
  have E11:∀(l16:List (List UInt8)) (env:Env) (h:Hp),(∃b15,keepE [6] env=[(6,true,OL b15 l16)]∧Nd [(b15,RL (α:=(List UInt8)) 25 l16)]∧HSub [(b15,RL (α:=(List UInt8)) 25 l16)] h)→X.matrix_Cauchy_e11 l16=some r→K9 env h:=by
   intro l16 env h hE hX
   obtain ⟨b15,henv,nd,hs⟩:=hE
   unfold X.matrix_Cauchy_e11 at hX
   refine hK9 _ _ (TK.keep [6] ?_)
   rw[henv]
   refine TK.subH hs ?_
   refine SR fun K17 hK17=>M rfl rfl (M rfl rfl (M rfl rfl (TL.nil (hK17 _ _ ?_))))
   refine TK.lay [(4,L l16)] nd (j:=0) rfl ⟨⟨_,rfl,fix_OL nd (j:=0) rfl,rfl⟩,trivial⟩ fun nd=>?_
   refine TK.ret ?_
   try dsimp only[thenQ]
   exact retN (vs:=[Enc.v l16,Enc.v ((0:Int):Int)]) ⟨rfl,rfl,trivial⟩ (by obtain rfl:=some_in hX;rfl) (allVal.mem ⟨v_val _,v_val _,trivial⟩)
  refine TK.iter [0,1,6,26,27] (fun s env h=>match s with|(out13,x14)=>∃b12,env=[(0,true,Enc.v data1),(1,true,Enc.v parity2),(6,true,OL b12 out13),(26,true,Enc.v parity2),(27,true,Enc.v x14)]∧Nd [(b12,RL (α:=(List UInt8)) 25 out13)]∧HSub [(b12,RL (α:=(List UInt8)) 25 out13)] h) hO11 ⟨b8,rfl,(Nd.pick nd (is:=[0]) Dc),(HSub.pick nd (is:=[0]) Dc)⟩ ?_
  rintro ⟨out13,x14⟩ env h x11x ⟨b12,rfl,nd,hs⟩ hX hR11
  refine TK.subH hs ?_
  unfold X.matrix_Cauchy_s11 at hX
  try dsimp only at hX
  refine SR fun K18 hK18=>P1 (p_lss rfl rfl) rfl rfl (TL.nil (hK18 _ _ ?_))
  refine TK.seq_k fun K19 hK19=>?_
  refine TK.cond (b:=(decide (x14<parity2))) rfl (fun hc=>?_) (fun hc=>?_)
  ·have hX:=ite_t hc hX
   refine TK.skip ?_
   refine hK19 _ _ ?_
   refine TK.seq_k fun K20 hK20=>?_
   refine TK.block ?_
   refine SR fun K21 hK21=>M rfl rfl (M rfl rfl (TL.nil (hK21 _ _ (SR fun K22 hK22=>M rfl rfl (TL.nil (hK22 _ _ ?_))))))
   refine TK.ownL (α:=UInt8) 8 5 nd rfl (.inl rfl) fun b23 nd=>?_
   refine TK.seq_k fun K24 hK24=>?_
   refine SR fun K25 hK25=>M rfl rfl (M rfl rfl (TL.nil (hK25 _ _ ?_)))
   refine TK.block ?_
   obtain ⟨o26,hO26,hA26⟩:=bind_some hX
   have E26:∀(l33:List UInt8) (env:Env) (h:Hp),(∃b31 b32,keepE [0,1,6,8,26,27] env=[(0,true,Enc.v data1),(1,true,Enc.v parity2),(6,true,OL b31 out13),(8,true,OL b32 l33),(26,true,Enc.v parity2),(27,true,Enc.v x14)]∧Nd [(b31,RL (α:=(List UInt8)) 25 out13),(b32,RL (α:=UInt8) 5 l33)]∧HSub [(b31,RL (α:=(List UInt8)) 25 out13),(b32,RL (α:=UInt8) 5 l33)] h)→X.matrix_Cauchy_e26 out13 x14 l33=some x11x→K24 env h:=by
    intro l33 env h hE hX
    obtain ⟨b31,b32,henv,nd,hs⟩:=hE
    unfold X.matrix_Cauchy_e26 at hX
    refine hK24 _ _ (TK.keep [0,1,6,8,26,27] ?_)
    rw[henv]
    refine TK.subH hs ?_
    refine TK.reg ?_
    refine M rfl rfl (M rfl rfl ?_)
    refine TL.lay [(47,L l33)] nd (j:=1) rfl ⟨⟨_,rfl,fix_OL nd (j:=1) rfl,rfl⟩,trivial⟩ fun nd=>?_
    refine TLc.lit ([l33]:List (List UInt8)) kd22 ty25 rfl ⟨⟨rfl,rfl⟩,trivial⟩ rfl rfl rfl ?_
    obtain ⟨u34,hu34,hX⟩:=bind_some hX
    refine TLc.appO nd kd22 bo22 ty25 rfl rfl (j:=0) rfl rfl (Src_L _) Dc (need_t hu34) rfl fun nd=>?_
    refine M rfl rfl (TL.nil (hK20 _ _ ?_))
    refine TK.reg ?_
    refine P1 (p_add rfl rfl) rfl rfl (M rfl rfl (TL.nil ?_))
    exact ⟨_,(some_in hX).symm,b31,rfl,(Nd.pick nd (is:=[0]) Dc),(HSub.pick nd (is:=[0]) Dc)⟩
   refine TK.iter [0,1,6,7,8,26,27,30,31] (fun s env h=>match s with|(r29,x30)=>∃b27 b28,env=[(0,true,Enc.v data1),(1,true,Enc.v parity2),(6,true,OL b27 out13),(7,true,Enc.v x14),(8,true,OL b28 r29),(26,true,Enc.v parity2),(27,true,Enc.v x14),(30,true,Enc.v data1),(31,true,Enc.v x30)]∧Nd [(b27,RL (α:=(List UInt8)) 25 out13),(b28,RL (α:=UInt8) 5 r29)]∧HSub [(b27,RL (α:=(List UInt8)) 25 out13),(b28,RL (α:=UInt8) 5 r29)] h) hO26 ⟨b12,b23,rfl,(Nd.pick nd (is:=[1,0]) Dc),(HSub.pick nd (is:=[1,0]) Dc)⟩ ?_
   rintro ⟨r29,x30⟩ env h x26x ⟨b27,b28,rfl,nd,hs⟩ hX hR26
   refine TK.subH hs ?_
   unfold X.matrix_Cauchy_s26 at hX
   try dsimp only at hX
   refine SR fun K35 hK35=>P1 (p_lss rfl rfl) rfl rfl (TL.nil (hK35 _ _ ?_))
   refine TK.seq_k fun K36 hK36=>?_
   refine TK.cond (b:=(decide (x30<data1))) rfl (fun hc=>?_) (fun hc=>?_)
   ·have hX:=ite_t hc hX
    refine TK.skip ?_
    refine hK36 _ _ ?_
    refine TK.seq_k fun K37 hK37=>?_
    refine TK.block ?_
    refine SR fun K38 hK38=>M rfl rfl (M rfl rfl (TL.nil (hK38 _ _ ?_)))
    refine TK.reg ?_
    refine M rfl rfl (M rfl rfl (P1 (p_cvt src3 kd5 rfl (cv_u8 _)) rfl rfl (M rfl rfl (M rfl rfl (P1 (p_add rfl rfl) rfl rfl (P1 (p_cvt src3 kd5 rfl (cv_u8 _)) rfl rfl ?_))))))
    obtain ⟨r39,hr39,hX⟩:=bind_some hX
    refine TL.cvX rfl rfl rfl (fun _=>⟨rfl,⟨rfl,⟨rfl,trivial⟩⟩⟩) (fun e=>ok_gf_Add (u8 x14) (u8 (wr (parity2+x30))) _ hr39) ?_
    obtain ⟨r40,hr40,hX⟩:=bind_some hX
    refine TL.cvX rfl rfl rfl (fun _=>⟨rfl,⟨rfl,trivial⟩⟩) (fun e=>ok_gf_Inv r39 _ hr40) ?_
    refine TLc.lit ([r40]:List UInt8) kd25 ty5 rfl ⟨⟨rfl,rfl⟩,trivial⟩ rfl rfl rfl ?_
    obtain ⟨u41,hu41,hX⟩:=bind_some hX
    refine TLc.appO nd kd25 bo25 ty5 rfl rfl (j:=1) rfl rfl (Src_L _) Dc (need_t hu41) rfl fun nd=>?_
    refine M rfl rfl (TL.nil (hK37 _ _ ?_))
    refine TK.reg ?_
    refine P1 (p_add rfl rfl) rfl rfl (M rfl rfl (TL.nil ?_))
    exact ⟨_,(some_in hX).symm,b27,b28,rfl,(Nd.pick nd (is:=[0,1]) Dc),(HSub.pick nd (is:=[0,1]) Dc)⟩
   ·have hX:=ite_f hc hX
    refine TK.exit ?_
    obtain rfl:=hR26 _ (some_in hX).symm
    exact E26 r29 _ _ ⟨b27,b28,rfl,(Nd.pick nd (is:=[0,1]) Dc),(HSub.pick nd (is:=[0,1]) Dc)⟩ hA26
  ·have hX:=ite_f hc hX
   refine TK.exit ?_
   obtain rfl:=hR11 _ (some_in hX).symm
   exact E11 out13 _ _ ⟨b12,rfl,(Nd.pick nd (is:=[0]) Dc),(HSub.pick nd (is:=[0]) Dc)⟩ hA11
theorem ok_matrix_Right_c1 (r1:(List UInt8)) (c2:(List (List UInt8))) (r:Bool) (hX:X.matrix_Right_c1 r1 c2=some r):Fun Try.prog 170 [Enc.v (r1:(List UInt8)),.vref (ofL [Enc.v (c2:(List (List UInt8)))]) 1 0] (·=Enc.v (r:Bool)):=by
 refine Fun.of b170 (Nat.le_of_ble_eq_true rfl) (allVal.mem ⟨(by exact (v_val _)),(by exact (vref_val (l:=[Enc.v (c2:(List (List UInt8)))]) rfl ⟨(v_val _),trivial⟩)),trivial⟩) ?_
 unfold k170
 have nd:Nd []:=Nd_nil
 unfold X.matrix_Right_c1 at hX
 refine SR fun K3 hK3=>M rfl rfl (TL.nil (hK3 _ _ (SR fun K4 hK4=>M rfl rfl (P1 (p_lenL (xs:=r1) kd25 rfl) rfl rfl (P1 (p_ldR (v:=Enc.v c2) ty22 rfl rfl rfl rfl rfl rfl) rfl rfl ?_)))))
 obtain ⟨e5,he5,hX⟩:=bind_some hX
 refine P1 (p_iaL (xs:=c2) kd22 ty25 rfl rfl rfl (fun _=>he5)) rfl rfl (P1 (p_ldE (xs:=c2) (a:=e5) (e5:(List UInt8)) ty25 rfl rfl (fun _=>he5) rfl rfl rfl) rfl rfl (P1 (p_lenL (xs:=e5) kd25 rfl) rfl rfl (P1 (p_neq rfl rfl) rfl rfl (M rfl rfl (TL.nil (hK4 _ _ ?_))))))
 refine TK.ret ?_
 try dsimp only[thenQ]
 exact R1 rfl hX
theorem ok_matrix_Right (m1:(List (List UInt8))) (r:Bool) (hX:X.matrix_Right m1=some r):Fun Try.prog 120 [Enc.v (m1:(List (List UInt8)))] (·=Enc.v (r:Bool)):=by
 refine Fun.of b120 (Nat.le_of_ble_eq_true rfl) (allVal.mem ⟨(by exact (v_val _)),trivial⟩) ?_
 unfold k120
 have nd:Nd []:=Nd_nil
 unfold X.matrix_Right at hX
 refine SR fun K2 hK2=>?_
 refine TLc.boxV (lu:=[Enc.v m1]) nd rfl (Cells_v (m1:(List (List UInt8)))) rfl ?_
 refine M rfl rfl (TL.nil (hK2 _ _ ?_))
 refine TK.seq_k fun K3 hK3=>?_
 refine SR fun K4 hK4=>P1 (p_ldR (v:=Enc.v m1) ty22 rfl rfl rfl rfl rfl rfl) rfl rfl (P1 (p_lenL (xs:=m1) kd22 rfl) rfl rfl (P1 (p_lss rfl rfl) rfl rfl (M rfl rfl ?_)))
 refine TLc.p (gc:=(!((decide ((m1.length:Int)<(1:Int)))))) (p_ldR (v:=Enc.v m1) ty22 rfl rfl rfl rfl rfl rfl (hg:=fun e=>rfl)) (gcF1 rfl) rfl ?_
 refine TLc.p (gc:=(!((decide ((m1.length:Int)<(1:Int)))))) (p_lenL (xs:=m1) kd22 rfl (hg:=fun e=>e)) (gcF1 rfl) rfl ?_
 refine TLc.p (gc:=(!((decide ((m1.length:Int)<(1:Int)))))) (p_gtr rfl rfl (hg:=fun e=>⟨e,rfl⟩)) (gcF1 rfl) rfl ?_
 refine P1 (p_or rfl rfl (fun e=>⟨rfl,fun h=>(not_t h)⟩)) rfl rfl (M rfl rfl ?_)
 refine TLc.p (gc:=(!(((decide ((m1.length:Int)<(1:Int)))||(decide ((m1.length:Int)>(255:Int))))))) (p_ldR (v:=Enc.v m1) ty22 rfl rfl rfl rfl rfl rfl (hg:=fun e=>rfl)) (gcF1 rfl) rfl ?_
 obtain ⟨e5,he5,hX⟩:=bind_some hX
 refine TLc.p (gc:=(!(((decide ((m1.length:Int)<(1:Int)))||(decide ((m1.length:Int)>(255:Int))))))) (p_iaL (xs:=m1) kd22 ty25 rfl rfl rfl (fun e=>optG_t he5 e) (hg:=fun e=>⟨e,rfl⟩)) (gcF1 rfl) rfl ?_
 refine TLc.p (gc:=(!(((decide ((m1.length:Int)<(1:Int)))||(decide ((m1.length:Int)>(255:Int))))))) (p_ldE (xs:=m1) (a:=e5) (e5:(List UInt8)) ty25 rfl rfl (fun e=>optG_t he5 e) rfl rfl rfl (hg:=fun e=>e)) (gcF1 rfl) rfl ?_
 refine TLc.p (gc:=(!(((decide ((m1.length:Int)<(1:Int)))||(decide ((m1.length:Int)>(255:Int))))))) (p_lenL (xs:=e5) kd25 rfl (hg:=fun e=>e)) (gcF1 rfl) rfl ?_
 refine TLc.p (gc:=(!(((decide ((m1.length:Int)<(1:Int)))||(decide ((m1.length:Int)>(255:Int))))))) (p_lss rfl rfl (hg:=fun e=>⟨e,rfl⟩)) (gcF1 rfl) rfl ?_
 refine P1 (p_or rfl rfl (fun e=>⟨rfl,fun h=>(not_t h)⟩)) rfl rfl (M rfl rfl ?_)
 refine TLc.p (gc:=(!((((decide ((m1.length:Int)<(1:Int)))||(decide ((m1.length:Int)>(255:Int))))||(decide ((e5.length:Int)<(1:Int))))))) (p_ldR (v:=Enc.v m1) ty22 rfl rfl rfl rfl rfl rfl (hg:=fun e=>rfl)) (gcF1 rfl) rfl ?_
 obtain ⟨e6,he6,hX⟩:=bind_some hX
 refine TLc.p (gc:=(!((((decide ((m1.length:Int)<(1:Int)))||(decide ((m1.length:Int)>(255:Int))))||(decide ((e5.length:Int)<(1:Int))))))) (p_iaL (xs:=m1) kd22 ty25 rfl rfl rfl (fun e=>optG_t he6 e) (hg:=fun e=>⟨e,rfl⟩)) (gcF1 rfl) rfl ?_
 refine TLc.p (gc:=(!((((decide ((m1.length:Int)<(1:Int)))||(decide ((m1.length:Int)>(255:Int))))||(decide ((e5.length:Int)<(1:Int))))))) (p_ldE (xs:=m1) (a:=e6) (e6:(List UInt8)) ty25 rfl rfl (fun e=>optG_t he6 e) rfl rfl rfl (hg:=fun e=>e)) (gcF1 rfl) rfl ?_
 refine TLc.p (gc:=(!((((decide ((m1.length:Int)<(1:Int)))||(decide ((m1.length:Int)>(255:Int))))||(decide ((e5.length:Int)<(1:Int))))))) (p_lenL (xs:=e6) kd25 rfl (hg:=fun e=>e)) (gcF1 rfl) rfl ?_
 refine TLc.p (gc:=(!((((decide ((m1.length:Int)<(1:Int)))||(decide ((m1.length:Int)>(255:Int))))||(decide ((e5.length:Int)<(1:Int))))))) (p_gtr rfl rfl (hg:=fun e=>⟨e,rfl⟩)) (gcF1 rfl) rfl ?_
 refine P1 (p_or rfl rfl (fun e=>⟨rfl,fun h=>(not_t h)⟩)) rfl rfl (TL.nil (hK4 _ _ ?_))
 refine TK.cond (b:=((((decide ((m1.length:Int)<(1:Int)))||(decide ((m1.length:Int)>(255:Int))))||(decide ((e5.length:Int)<(1:Int))))||(decide ((e6.length:Int)>(255:Int))))) rfl (fun hc=>?_) (fun hc=>?_)
 ·have hX:=ite_t hc hX
  refine SR fun K7 hK7=>M rfl rfl (TL.nil (hK7 _ _ ?_))
  refine TK.ret ?_
  try dsimp only[thenQ]
  exact R1 rfl hX
 ·have hX:=ite_f hc hX
  refine TK.skip ?_
  refine hK3 _ _ (SR fun K8 hK8=>P1 (p_ldR (v:=Enc.v m1) ty22 rfl rfl rfl rfl rfl rfl) rfl rfl (P1 (p_mf (l:=[.vref (ofL [Enc.v m1]) 1 0]) rfl (fun _=>⟨rfl,trivial⟩)) rfl rfl ?_))
  obtain ⟨r9,hr9,hX⟩:=bind_some hX
  refine TL.cvX rfl rfl rfl (fun _=>⟨rfl,⟨rfl,⟨rfl,trivial⟩⟩⟩) (fun e=>ok_slices_ContainsFunc_LLbyte_Lbyte m1 (fun a1=>X.matrix_Right_c1 a1 m1) _ hr9 ⟨170,1,ofL [.vref (ofL [Enc.v m1]) 1 0],rfl,(caps_val rfl ⟨(vref_val (l:=[Enc.v m1]) rfl ⟨(v_val _),trivial⟩),trivial⟩),fun a1 r hr=>ok_matrix_Right_c1 a1 m1 r hr⟩) ?_
  refine P1 (p_not rfl) rfl rfl (M rfl rfl (TL.nil (hK8 _ _ ?_)))
  refine TK.ret ?_
  try dsimp only[thenQ]
  exact R1 rfl hX
theorem ok_matrix_apply (m1:(List (List UInt8))) (v2:(List UInt8)) (r:(List UInt8)) (hX:X.matrix_apply m1 v2=some r):Fun Try.prog 127 [Enc.v (m1:(List (List UInt8))),Enc.v (v2:(List UInt8))] (·=Enc.v (r:(List UInt8))):=by
 refine Fun.of b127 (Nat.le_of_ble_eq_true rfl) (allVal.mem ⟨(by exact (v_val _)),(by exact (v_val _)),trivial⟩) ?_
 unfold k127
 have nd:Nd []:=Nd_nil
 unfold X.matrix_apply at hX
 refine SR fun K3 hK3=>M rfl rfl (TL.nil (hK3 _ _ (SR fun K4 hK4=>M rfl rfl (P1 (p_lenL (xs:=m1) kd22 rfl) rfl rfl ?_))))
 obtain ⟨u5,hu5,hX⟩:=bind_some hX
 refine TLc.mkO nd (0:UInt8) kd25 ty5 rfl (fun j hj=>by (have:j=0:=by simpa[Enc.sz] using hj);subst this;rfl) rfl rfl Dc (need_t hu5) rfl fun b6 nd=>?_
 refine M rfl rfl (TL.nil (hK4 _ _ ?_))
 refine TK.seq_k fun K7 hK7=>?_
 refine SR fun K8 hK8=>M rfl rfl (P1 (p_lenL (xs:=m1) kd22 rfl) rfl rfl (M rfl rfl (TL.nil (hK8 _ _ ?_))))
 refine TK.block ?_
 obtain ⟨o9,hO9,hA9⟩:=bind_some hX
 have E9:∀(l14:List UInt8) (env:Env) (h:Hp),(∃b13,keepE [5] env=[(5,true,OL b13 l14)]∧Nd [(b13,RL (α:=UInt8) 5 l14)]∧HSub [(b13,RL (α:=UInt8) 5 l14)] h)→X.matrix_apply_e9 l14=some r→K7 env h:=by
  intro l14 env h hE hX
  obtain ⟨b13,henv,nd,hs⟩:=hE
  unfold X.matrix_apply_e9 at hX
  refine hK7 _ _ (TK.keep [5] ?_)
  rw[henv]
  refine TK.subH hs ?_
  refine SR fun K15 hK15=>M rfl rfl (M rfl rfl (TL.nil (hK15 _ _ ?_)))
  refine TK.lay [(4,L l14)] nd (j:=0) rfl ⟨⟨_,rfl,fix_OL nd (j:=0) rfl,rfl⟩,trivial⟩ fun nd=>?_
  refine TK.ret ?_
  try dsimp only[thenQ]
  exact R1 rfl hX
 refine TK.iter [1,5,13,14,15] (fun s env h=>match s with|(out11,x12)=>∃b10,env=[(1,true,Enc.v v2),(5,true,OL b10 out11),(13,true,Enc.v m1),(14,true,Enc.v ((m1.length:Int):Int)),(15,true,Enc.v x12)]∧Nd [(b10,RL (α:=UInt8) 5 out11)]∧HSub [(b10,RL (α:=UInt8) 5 out11)] h) hO9 ⟨b6,rfl,(Nd.pick nd (is:=[0]) Dc),(HSub.pick nd (is:=[0]) Dc)⟩ ?_
 rintro ⟨out11,x12⟩ env h x9x ⟨b10,rfl,nd,hs⟩ hX hR9
 refine TK.subH hs ?_
 unfold X.matrix_apply_s9 at hX
 try dsimp only at hX
 refine SR fun K16 hK16=>P1 (p_lss rfl rfl) rfl rfl (TL.nil (hK16 _ _ ?_))
 refine TK.seq_k fun K17 hK17=>?_
 refine TK.cond (b:=(decide (x12<(m1.length:Int)))) rfl (fun hc=>?_) (fun hc=>?_)
 ·have hX:=ite_t hc hX
  refine TK.skip ?_
  refine hK17 _ _ ?_
  refine TK.seq_k fun K18 hK18=>?_
  refine TK.block ?_
  refine SR fun K19 hK19=>M rfl rfl ?_
  obtain ⟨e20,he20,hX⟩:=bind_some hX
  refine P1 (p_iaL (xs:=m1) kd22 ty25 rfl rfl rfl (fun _=>he20)) rfl rfl (P1 (p_ldE (xs:=m1) (a:=e20) (e20:(List UInt8)) ty25 rfl rfl (fun _=>he20) rfl rfl rfl) rfl rfl (M rfl rfl (M rfl rfl (TL.nil (hK19 _ _ (SR fun K21 hK21=>M rfl rfl (P1 (p_lenL (xs:=e20) kd25 rfl) rfl rfl (M rfl rfl (TL.nil (hK21 _ _ ?_))))))))))
  refine TK.block ?_
  obtain ⟨o22,hO22,hA22⟩:=bind_some hX
  have E22:∀(l27:List UInt8) (env:Env) (h:Hp),(∃b26,keepE [1,5,13,14,15] env=[(1,true,Enc.v v2),(5,true,OL b26 l27),(13,true,Enc.v m1),(14,true,Enc.v ((m1.length:Int):Int)),(15,true,Enc.v x12)]∧Nd [(b26,RL (α:=UInt8) 5 l27)]∧HSub [(b26,RL (α:=UInt8) 5 l27)] h)→X.matrix_apply_e22 x12 l27=some x9x→K18 env h:=by
   intro l27 env h hE hX
   obtain ⟨b26,henv,nd,hs⟩:=hE
   unfold X.matrix_apply_e22 at hX
   refine hK18 _ _ (TK.keep [1,5,13,14,15] ?_)
   rw[henv]
   refine TK.subH hs ?_
   refine TK.reg ?_
   refine P1 (p_add rfl rfl) rfl rfl (M rfl rfl (TL.nil ?_))
   exact ⟨_,(some_in hX).symm,b26,rfl,(Nd.pick nd (is:=[0]) Dc),(HSub.pick nd (is:=[0]) Dc)⟩
  refine TK.iter [1,5,6,13,14,15,20,21,22] (fun s env h=>match s with|(out24,x25)=>∃b23,env=[(1,true,Enc.v v2),(5,true,OL b23 out24),(6,true,Enc.v x12),(13,true,Enc.v m1),(14,true,Enc.v ((m1.length:Int):Int)),(15,true,Enc.v x12),(20,true,Enc.v e20),(21,true,Enc.v ((e20.length:Int):Int)),(22,true,Enc.v x25)]∧Nd [(b23,RL (α:=UInt8) 5 out24)]∧HSub [(b23,RL (α:=UInt8) 5 out24)] h) hO22 ⟨b10,rfl,(Nd.pick nd (is:=[0]) Dc),(HSub.pick nd (is:=[0]) Dc)⟩ ?_
  rintro ⟨out24,x25⟩ env h x22x ⟨b23,rfl,nd,hs⟩ hX hR22
  refine TK.subH hs ?_
  unfold X.matrix_apply_s22 at hX
  try dsimp only at hX
  refine SR fun K28 hK28=>P1 (p_lss rfl rfl) rfl rfl (TL.nil (hK28 _ _ ?_))
  refine TK.seq_k fun K29 hK29=>?_
  refine TK.cond (b:=(decide (x25<(e20.length:Int)))) rfl (fun hc=>?_) (fun hc=>?_)
  ·have hX:=ite_t hc hX
   refine TK.skip ?_
   refine hK29 _ _ ?_
   refine TK.seq_k fun K30 hK30=>?_
   refine TK.block ?_
   refine SR fun K31 hK31=>M rfl rfl ?_
   obtain ⟨e32,he32,hX⟩:=bind_some hX
   refine P1 (p_iaL (xs:=e20) kd25 ty5 rfl rfl rfl (fun _=>he32)) rfl rfl (P1 (p_ldE (xs:=e20) (a:=e32) (e32:UInt8) ty5 rfl rfl (fun _=>he32) rfl rfl rfl) rfl rfl (M rfl rfl (M rfl rfl (TL.nil (hK31 _ _ ?_)))))
   have ndS:Nd []:=Nd.pick nd (is:=[]) Dc
   refine TK.endK fun KD hKD=>?_
   refine TK.drwX (h:=[(b23,RL (α:=UInt8) 5 out24)]) (hS:=[]) [(0,0),(0,1),(0,2),(0,3),(1,4),(1,5),(0,6),(0,7),(0,8),(0,9),(0,10),(0,11),(0,12),(1,13),(2,14)] mixed (by kernel_rfl) (HSub_app nd) ?_
   refine DM rfl rfl rfl ?_
   refine DM rfl rfl rfl ?_
   refine DM rfl rfl rfl ?_
   refine DM rfl rfl rfl ?_
   obtain ⟨e33,he33,hX⟩:=bind_some hX
   refine DR1 (gc:=true) rfl (vok_p (C:=cx) (p_iaO (xs:=out24) kd25 ty5 rfl rfl rfl nd (j:=0) rfl (fun _=>he33))) rfl rfl ?_
   refine DR1 (gc:=true) rfl (vok_p (C:=cx) (p_ldO (xs:=out24) (a:=e33) (e33:UInt8) ty5 rfl rfl nd (j:=0) rfl (fun _=>he33) rfl rfl rfl)) rfl rfl ?_
   refine DM rfl rfl rfl ?_
   refine DM rfl rfl rfl ?_
   refine DM rfl rfl rfl ?_
   obtain ⟨e34,he34,hX⟩:=bind_some hX
   refine D0 rfl (p_iaL (xs:=v2) kd25 ty5 rfl rfl rfl (fun _=>he34)) rfl rfl ?_
   refine D0 rfl (p_ldE (xs:=v2) (a:=e34) (e34:UInt8) ty5 rfl rfl (fun _=>he34) rfl rfl rfl) rfl rfl ?_
   obtain ⟨r35,hr35,hX⟩:=bind_some hX
   refine DR0 (gc:=true) rfl (vok_c rfl (fun _=>⟨rfl,⟨rfl,⟨rfl,trivial⟩⟩⟩) (fun e=>ok_gf_Mul e32 e34 _ hr35)) rfl rfl ?_
   obtain ⟨r36,hr36,hX⟩:=bind_some hX
   refine DR0 (gc:=true) rfl (vok_c rfl (fun _=>⟨rfl,⟨rfl,⟨rfl,trivial⟩⟩⟩) (fun e=>ok_gf_Add e33 r35 _ hr36)) rfl rfl ?_
   obtain ⟨e37,he37,hX⟩:=bind_some hX
   refine DR1 (gc:=true) rfl (vok_p (C:=cx) (p_iaO (xs:=out24) kd25 ty5 rfl rfl rfl nd (j:=0) rfl (fun _=>he37))) rfl rfl ?_
   refine DR2n rfl ?_
   refine TLc.stW (xs:=out24) (i:=x12) (lu:=Enc.cl (r36:UInt8)) (a':=r36) nd ty5 rfl (j:=0) rfl (by simp[Enc.sz]) (inb_of he37 (by simp)) rfl (Cells_v (r36:UInt8)) rfl (WkL_refl _) fun nd=>?_
   refine TL.nil ⟨.nilp,[(b23,RL (α:=UInt8) 5 (out24.set x12.toNat r36))],rfl,rfl,HSub_app nd,?_⟩
   refine DRend ?_
   refine hKD _ _ ?_
   refine TL.cv 5 (OL (α:=UInt8) b23 (out24.set x12.toNat r36)) rfl (Wk_eq (OL_len (by simp))) ?_
   refine TL.nil (hK30 _ _ ?_)
   refine TK.reg ?_
   refine P1 (p_add rfl rfl) rfl rfl (M rfl rfl (TL.nil ?_))
   exact ⟨_,(some_in hX).symm,b23,rfl,(Nd.pick nd (is:=[0]) Dc),(HSub.pick nd (is:=[0]) Dc)⟩
  ·have hX:=ite_f hc hX
   refine TK.exit ?_
   obtain rfl:=hR22 _ (some_in hX).symm
   exact E22 out24 _ _ ⟨b23,rfl,(Nd.pick nd (is:=[0]) Dc),(HSub.pick nd (is:=[0]) Dc)⟩ hA22
 ·have hX:=ite_f hc hX
  refine TK.exit ?_
  obtain rfl:=hR9 _ (some_in hX).symm
  exact E9 out11 _ _ ⟨b10,rfl,(Nd.pick nd (is:=[0]) Dc),(HSub.pick nd (is:=[0]) Dc)⟩ hA9
theorem ok_matrix_Apply (m1:(List (List UInt8))) (v2:(List UInt8)) (r:((List UInt8)×Int)) (hX:X.matrix_Apply m1 v2=some r):Fun Try.prog 84 [Enc.v (m1:(List (List UInt8))),Enc.v (v2:(List UInt8))] (·= .tup 2 (ofL [Enc.v r.1,Enc.v r.2])):=by
 refine Fun.of b84 (Nat.le_of_ble_eq_true rfl) (allVal.mem ⟨(by exact (v_val _)),(by exact (v_val _)),trivial⟩) ?_
 unfold k84
 have nd:Nd []:=Nd_nil
 unfold X.matrix_Apply at hX
 refine SR fun K3 hK3=>M rfl rfl (M rfl rfl (TL.nil (hK3 _ _ ?_)))
 refine TK.seq_k fun K4 hK4=>?_
 refine SR fun K5 hK5=>M rfl rfl ?_
 obtain ⟨r6,hr6,hX⟩:=bind_some hX
 refine TL.cvX rfl rfl rfl (fun _=>⟨rfl,⟨rfl,trivial⟩⟩) (fun e=>ok_matrix_Right m1 _ hr6) ?_
 refine P1 (p_not rfl) rfl rfl (M rfl rfl ?_)
 refine TLc.p (gc:=(!((!r6)))) (p_mv rfl (hg:=fun e=>rfl)) (gcF1 rfl) rfl ?_
 refine TLc.p (gc:=(!((!r6)))) (p_lenL (xs:=v2) kd25 rfl (hg:=fun e=>e)) (gcF1 rfl) rfl ?_
 refine TLc.p (gc:=(!((!r6)))) (p_mv rfl (hg:=fun e=>rfl)) (gcF1 rfl) rfl ?_
 obtain ⟨e7,he7,hX⟩:=bind_some hX
 refine TLc.p (gc:=(!((!r6)))) (p_iaL (xs:=m1) kd22 ty25 rfl rfl rfl (fun e=>optG_t he7 e) (hg:=fun e=>⟨e,rfl⟩)) (gcF1 rfl) rfl ?_
 refine TLc.p (gc:=(!((!r6)))) (p_ldE (xs:=m1) (a:=e7) (e7:(List UInt8)) ty25 rfl rfl (fun e=>optG_t he7 e) rfl rfl rfl (hg:=fun e=>e)) (gcF1 rfl) rfl ?_
 refine TLc.p (gc:=(!((!r6)))) (p_lenL (xs:=e7) kd25 rfl (hg:=fun e=>e)) (gcF1 rfl) rfl ?_
 refine TLc.p (gc:=(!((!r6)))) (p_neq rfl rfl (hg:=fun e=>⟨e,e⟩)) (gcF1 rfl) rfl ?_
 refine P1 (p_or rfl rfl (fun e=>⟨rfl,fun h=>(not_t h)⟩)) rfl rfl (TL.nil (hK5 _ _ ?_))
 refine TK.cond (b:=((!r6)||((v2.length:Int) !=(e7.length:Int)))) rfl (fun hc=>?_) (fun hc=>?_)
 ·have hX:=ite_t hc hX
  refine SR fun K8 hK8=>M rfl rfl (M rfl rfl (TL.nil (hK8 _ _ ?_)))
  refine TK.wk 4 (L ([]:(List UInt8))) rfl Wk_nil ?_
  refine TK.ret ?_
  try dsimp only[thenQ]
  exact retN (vs:=[Enc.v (([]:(List UInt8)):(List UInt8)),Enc.v ((1:Int):Int)]) ⟨rfl,rfl,trivial⟩ (by obtain rfl:=some_in hX;rfl) (allVal.mem ⟨v_val _,v_val _,trivial⟩)
 ·have hX:=ite_f hc hX
  refine TK.skip ?_
  refine hK4 _ _ (SR fun K9 hK9=>M rfl rfl (M rfl rfl ?_))
  obtain ⟨r10,hr10,hX⟩:=bind_some hX
  refine TL.cvX rfl rfl rfl (fun _=>⟨rfl,⟨rfl,⟨rfl,trivial⟩⟩⟩) (fun e=>ok_matrix_apply m1 v2 _ hr10) ?_
  refine M rfl rfl (M rfl rfl (TL.nil (hK9 _ _ ?_)))
  refine TK.ret ?_
  try dsimp only[thenQ]
  exact retN (vs:=[Enc.v r10,Enc.v ((0:Int):Int)]) ⟨rfl,rfl,trivial⟩ (by obtain rfl:=some_in hX;rfl) (allVal.mem ⟨v_val _,v_val _,trivial⟩)
theorem ok_erasure_reckon (m1:(List (List UInt8))) (l2:(List (List UInt8))) (r:(List (List UInt8))) (hX:X.erasure_reckon m1 l2=some r):Fun Try.prog 45 [Enc.v (m1:(List (List UInt8))),Enc.v (l2:(List (List UInt8)))] (·=Enc.v (r:(List (List UInt8)))):=by
 refine Fun.of b45 (Nat.le_of_ble_eq_true rfl) (allVal.mem ⟨(by exact (v_val _)),(by exact (v_val _)),trivial⟩) ?_
 unfold k45
 have nd:Nd []:=Nd_nil
 unfold X.erasure_reckon at hX
 refine SR fun K3 hK3=>M rfl rfl (TL.nil (hK3 _ _ (SR fun K4 hK4=>M rfl rfl (P1 (p_lenL (xs:=m1) kd22 rfl) rfl rfl ?_))))
 obtain ⟨u5,hu5,hX⟩:=bind_some hX
 refine TLc.mkG (α:=UInt8) (e':=5) nd kd22 ty25 rfl rfl rfl rfl Dc (need_t hu5) rfl fun b6 T6 cs6 hG6 nd=>?_
 refine M rfl rfl (TL.nil (hK4 _ _ ?_))
 refine TK.seq_k fun K7 hK7=>?_
 refine SR fun K8 hK8=>M rfl rfl ?_
 obtain ⟨e9,he9,hX⟩:=bind_some hX
 refine P1 (p_iaL (xs:=l2) kd22 ty25 rfl rfl rfl (fun _=>he9)) rfl rfl (P1 (p_ldE (xs:=l2) (a:=e9) (e9:(List UInt8)) ty25 rfl rfl (fun _=>he9) rfl rfl rfl) rfl rfl (P1 (p_lenL (xs:=e9) kd25 rfl) rfl rfl (M rfl rfl (TL.nil (hK8 _ _ ?_)))))
 refine TK.block ?_
 obtain ⟨o10,hO10,hA10⟩:=bind_some hX
 have E10:∀(l15:List (List UInt8)) (env:Env) (h:Hp),(∃b14 T14 cs14,keepE [5] env=[(5,true,OL b14 l15)]∧Nd ((b14,RV 25 cs14)::T14)∧HSub ((b14,RV 25 cs14)::T14) h∧Grid (α:=UInt8) 5 T14 cs14 l15)→X.erasure_reckon_e10 l15=some r→K7 env h:=by
  intro l15 env h hE hX
  obtain ⟨b14,T14,cs14,henv,nd,hs,hG14⟩:=hE
  unfold X.erasure_reckon_e10 at hX
  refine hK7 _ _ (TK.keep [5] ?_)
  rw[henv]
  refine TK.subH hs ?_
  refine SR fun K16 hK16=>M rfl rfl (M rfl rfl (TL.nil (hK16 _ _ ?_)))
  refine TK.layG (α:=UInt8) [(b14,RV 25 cs14)] T14 nd (j:=0) rfl hG14 fun nd=>?_
  refine TK.lay [(4,L l15)] nd (j:=0) rfl ⟨⟨_,rfl,fix_OL nd (j:=0) rfl,rfl⟩,trivial⟩ fun nd=>?_
  refine TK.ret ?_
  try dsimp only[thenQ]
  exact R1 rfl hX
 refine TK.iter [0,1,5,20,21] (fun s env h=>match s with|(out12,x13)=>∃b11 T11 cs11,env=[(0,true,Enc.v m1),(1,true,Enc.v l2),(5,true,OL b11 out12),(20,true,Enc.v ((e9.length:Int):Int)),(21,true,Enc.v x13)]∧Nd ((b11,RV 25 cs11)::T11)∧HSub ((b11,RV 25 cs11)::T11) h∧Grid (α:=UInt8) 5 T11 cs11 out12) hO10 ⟨b6,T6,cs6,rfl,(Nd.pickT nd 1 (is:=[0]) Dc Dc (len_geF [_] _)),(HSub.pickT nd 1 (is:=[0]) Dc Dc (len_geF [_] _)),hG6⟩ ?_
 rintro ⟨out12,x13⟩ env h x10x ⟨b11,T11,cs11,rfl,nd,hs,hG11⟩ hX hR10
 refine TK.subH hs ?_
 unfold X.erasure_reckon_s10 at hX
 try dsimp only at hX
 refine SR fun K17 hK17=>P1 (p_lss rfl rfl) rfl rfl (TL.nil (hK17 _ _ ?_))
 refine TK.seq_k fun K18 hK18=>?_
 refine TK.cond (b:=(decide (x13<(e9.length:Int)))) rfl (fun hc=>?_) (fun hc=>?_)
 ·have hX:=ite_t hc hX
  refine TK.skip ?_
  refine hK18 _ _ ?_
  refine TK.seq_k fun K19 hK19=>?_
  refine TK.block ?_
  refine SR fun K20 hK20=>M rfl rfl (M rfl rfl (TL.nil (hK20 _ _ (SR fun K21 hK21=>M rfl rfl (TL.nil (hK21 _ _ ?_))))))
  refine TK.ownL (α:=UInt8) 7 5 nd rfl (.inl rfl) fun b22 nd=>?_
  refine TK.seq_k fun K23 hK23=>?_
  refine SR fun K24 hK24=>M rfl rfl (P1 (p_lenL (xs:=l2) kd22 rfl) rfl rfl (M rfl rfl (TL.nil (hK24 _ _ ?_))))
  refine TK.block ?_
  obtain ⟨o25,hO25,hA25⟩:=bind_some hX
  have E25:∀(l32:List UInt8) (env:Env) (h:Hp),(∃b30 T30 cs30 b31,keepE [0,1,5,7,20,21] env=[(0,true,Enc.v m1),(1,true,Enc.v l2),(5,true,OL b30 out12),(7,true,OL b31 l32),(20,true,Enc.v ((e9.length:Int):Int)),(21,true,Enc.v x13)]∧Nd ((b30,RV 25 cs30)::(b31,RL (α:=UInt8) 5 l32)::T30)∧HSub ((b30,RV 25 cs30)::(b31,RL (α:=UInt8) 5 l32)::T30) h∧Grid (α:=UInt8) 5 T30 cs30 out12)→X.erasure_reckon_e25 m1 out12 x13 l32=some x10x→K23 env h:=by
   intro l32 env h hE hX
   obtain ⟨b30,T30,cs30,b31,henv,nd,hs,hG30⟩:=hE
   unfold X.erasure_reckon_e25 at hX
   refine hK23 _ _ (TK.keep [0,1,5,7,20,21] ?_)
   rw[henv]
   refine TK.subH hs ?_
   refine SR fun K33 hK33=>M rfl rfl (M rfl rfl ?_)
   refine TL.lay [(40,L l32)] nd (j:=1) rfl ⟨⟨_,rfl,fix_OL nd (j:=1) rfl,rfl⟩,trivial⟩ fun nd=>?_
   obtain ⟨r34,hr34,hX⟩:=bind_some hX
   refine TL.cvX rfl rfl rfl (fun _=>⟨rfl,⟨rfl,⟨rfl,trivial⟩⟩⟩) (fun e=>ok_matrix_Apply m1 l32 _ hr34) ?_
   refine M rfl rfl (P1 (p_ex rfl rfl Dc) rfl rfl (P1 (p_ex rfl rfl Dc) rfl rfl (M rfl rfl (M rfl rfl (TL.nil (hK33 _ _ (SR fun K35 hK35=>M rfl rfl (P1 (p_lenL (xs:=r34.1) kd25 rfl) rfl rfl (M rfl rfl (TL.nil (hK35 _ _ ?_)))))))))))
   refine TK.block ?_
   obtain ⟨o36,hO36,hA36⟩:=bind_some hX
   have E36:∀(l41:List (List UInt8)) (env:Env) (h:Hp),(∃b40 T40 cs40,keepE [0,1,5,20,21] env=[(0,true,Enc.v m1),(1,true,Enc.v l2),(5,true,OL b40 l41),(20,true,Enc.v ((e9.length:Int):Int)),(21,true,Enc.v x13)]∧Nd ((b40,RV 25 cs40)::T40)∧HSub ((b40,RV 25 cs40)::T40) h∧Grid (α:=UInt8) 5 T40 cs40 l41)→X.erasure_reckon_e36 x13 l41=some x10x→K19 env h:=by
    intro l41 env h hE hX
    obtain ⟨b40,T40,cs40,henv,nd,hs,hG40⟩:=hE
    unfold X.erasure_reckon_e36 at hX
    refine hK19 _ _ (TK.keep [0,1,5,20,21] ?_)
    rw[henv]
    refine TK.subH hs ?_
    refine TK.reg ?_
    refine P1 (p_add rfl rfl) rfl rfl (M rfl rfl (TL.nil ?_))
    exact ⟨_,(some_in hX).symm,b40,T40,cs40,rfl,(Nd.pickT nd 1 (is:=[0]) Dc Dc (len_geF [_] _)),(HSub.pickT nd 1 (is:=[0]) Dc Dc (len_geF [_] _)),hG40⟩
   refine TK.iter [0,1,5,20,21,44,45,46] (fun s env h=>match s with|(out38,x39)=>∃b37 T37 cs37,env=[(0,true,Enc.v m1),(1,true,Enc.v l2),(5,true,OL b37 out38),(20,true,Enc.v ((e9.length:Int):Int)),(21,true,Enc.v x13),(44,true,Enc.v r34.1),(45,true,Enc.v ((r34.1.length:Int):Int)),(46,true,Enc.v x39)]∧Nd ((b37,RV 25 cs37)::T37)∧HSub ((b37,RV 25 cs37)::T37) h∧Grid (α:=UInt8) 5 T37 cs37 out38) hO36 ⟨b30,T30,cs30,rfl,(Nd.pickT nd 1 (is:=[0]) Dc Dc (len_geF [_] _)),(HSub.pickT nd 1 (is:=[0]) Dc Dc (len_geF [_] _)),hG30⟩ ?_
   rintro ⟨out38,x39⟩ env h x36x ⟨b37,T37,cs37,rfl,nd,hs,hG37⟩ hX hR36
   refine TK.subH hs ?_
   unfold X.erasure_reckon_s36 at hX
   try dsimp only at hX
   refine SR fun K42 hK42=>P1 (p_lss rfl rfl) rfl rfl (TL.nil (hK42 _ _ ?_))
   refine TK.seq_k fun K43 hK43=>?_
   refine TK.cond (b:=(decide (x39<(r34.1.length:Int)))) rfl (fun hc=>?_) (fun hc=>?_)
   ·have hX:=ite_t hc hX
    refine TK.skip ?_
    refine hK43 _ _ ?_
    refine TK.seq_k fun K44 hK44=>?_
    refine TK.block ?_
    refine SR fun K45 hK45=>M rfl rfl ?_
    obtain ⟨e46,he46,hX⟩:=bind_some hX
    refine P1 (p_iaL (xs:=r34.1) kd25 ty5 rfl rfl rfl (fun _=>he46)) rfl rfl (P1 (p_ldE (xs:=r34.1) (a:=e46) (e46:UInt8) ty5 rfl rfl (fun _=>he46) rfl rfl rfl) rfl rfl (M rfl rfl (M rfl rfl (TL.nil (hK45 _ _ ?_)))))
    refine TK.reg ?_
    refine M rfl rfl (M rfl rfl (M rfl rfl (M rfl rfl ?_)))
    obtain ⟨e47,he47,hX⟩:=bind_some hX
    refine P1 (p_iaG hG37 kd22 ty25 rfl rfl rfl nd (j:=0) rfl (fun _=>he47)) rfl rfl ?_
    obtain ⟨nm48,hT48,hc48⟩:=gridAt (i:=x39) hG37 he47
    refine P1 (p_ldG ty25 rfl rfl nd (j:=0) rfl hc48 rfl rfl) rfl rfl (M rfl rfl ?_)
    refine TLc.lit ([e46]:List UInt8) kd25 ty5 rfl ⟨⟨rfl,rfl⟩,trivial⟩ rfl rfl rfl ?_
    obtain ⟨u49,hu49,hX⟩:=bind_some hX
    refine TLc.appG (F:=[(b37,RV 25 cs37)]) (T:=T37) (k:=(x39:Int).toNat) nd kd25 bo25 ty5 rfl rfl hT48 rfl (Src_L _) Dc (need_t hu49) rfl fun nd=>?_
    obtain ⟨e50,he50,hX⟩:=bind_some hX
    refine P1 (p_iaG hG37 kd22 ty25 rfl rfl rfl nd (j:=0) rfl (fun _=>he50)) rfl rfl ?_
    refine TLc.stG (F:=[(b37,RV 25 cs37)]) (T:=(T37.set (x39:Int).toNat (nm48,RL (α:=UInt8) 5 (e47++([e46]:List UInt8))))) (i:=x39) nd ty25 rfl (j:=0) rfl hc48 rfl (setAt hT48) rfl fun nd=>?_
    refine TL.cv 5 (OL b37 (out38.set x39.toNat (e47++([e46]:List UInt8)))) rfl (Wk_eq (OL_len (by simp))) ?_
    refine TL.nil (hK44 _ _ ?_)
    refine TK.reg ?_
    refine P1 (p_add rfl rfl) rfl rfl (M rfl rfl (TL.nil ?_))
    exact ⟨_,(some_in hX).symm,b37,(T37.set (x39:Int).toNat (nm48,RL (α:=UInt8) 5 (e47++([e46]:List UInt8)))),(cs37.set (x39:Int).toNat (OL (α:=UInt8) nm48 (e47++([e46]:List UInt8)))),rfl,(Nd.pickT nd 1 (is:=[0]) Dc Dc (len_geF [_] _)),(HSub.pickT nd 1 (is:=[0]) Dc Dc (len_geF [_] _)),(Grid.set hG37 hT48)⟩
   ·have hX:=ite_f hc hX
    refine TK.exit ?_
    obtain rfl:=hR36 _ (some_in hX).symm
    exact E36 out38 _ _ ⟨b37,T37,cs37,rfl,(Nd.pickT nd 1 (is:=[0]) Dc Dc (len_geF [_] _)),(HSub.pickT nd 1 (is:=[0]) Dc Dc (len_geF [_] _)),hG37⟩ hA36
  refine TK.iter [0,1,5,6,7,20,21,24,25,26] (fun s env h=>match s with|(v28,x29)=>∃b26 T26 cs26 b27,env=[(0,true,Enc.v m1),(1,true,Enc.v l2),(5,true,OL b26 out12),(6,true,Enc.v x13),(7,true,OL b27 v28),(20,true,Enc.v ((e9.length:Int):Int)),(21,true,Enc.v x13),(24,true,Enc.v l2),(25,true,Enc.v ((l2.length:Int):Int)),(26,true,Enc.v x29)]∧Nd ((b26,RV 25 cs26)::(b27,RL (α:=UInt8) 5 v28)::T26)∧HSub ((b26,RV 25 cs26)::(b27,RL (α:=UInt8) 5 v28)::T26) h∧Grid (α:=UInt8) 5 T26 cs26 out12) hO25 ⟨b11,T11,cs11,b22,rfl,(Nd.pickT nd 2 (is:=[1,0]) Dc Dc (len_geF [_,_] _)),(HSub.pickT nd 2 (is:=[1,0]) Dc Dc (len_geF [_,_] _)),hG11⟩ ?_
  rintro ⟨v28,x29⟩ env h x25x ⟨b26,T26,cs26,b27,rfl,nd,hs,hG26⟩ hX hR25
  refine TK.subH hs ?_
  unfold X.erasure_reckon_s25 at hX
  try dsimp only at hX
  refine SR fun K51 hK51=>P1 (p_lss rfl rfl) rfl rfl (TL.nil (hK51 _ _ ?_))
  refine TK.seq_k fun K52 hK52=>?_
  refine TK.cond (b:=(decide (x29<(l2.length:Int)))) rfl (fun hc=>?_) (fun hc=>?_)
  ·have hX:=ite_t hc hX
   refine TK.skip ?_
   refine hK52 _ _ ?_
   refine TK.seq_k fun K53 hK53=>?_
   refine TK.block ?_
   refine SR fun K54 hK54=>?_
   obtain ⟨e55,he55,hX⟩:=bind_some hX
   refine P1 (p_iaL (xs:=l2) kd22 ty25 rfl rfl rfl (fun _=>he55)) rfl rfl (P1 (p_ldE (xs:=l2) (a:=e55) (e55:(List UInt8)) ty25 rfl rfl (fun _=>he55) rfl rfl rfl) rfl rfl (M rfl rfl (TL.nil (hK54 _ _ ?_))))
   refine TK.reg ?_
   refine M rfl rfl (M rfl rfl (M rfl rfl ?_))
   obtain ⟨e56,he56,hX⟩:=bind_some hX
   refine P1 (p_iaL (xs:=e55) kd25 ty5 rfl rfl rfl (fun _=>he56)) rfl rfl (P1 (p_ldE (xs:=e55) (a:=e56) (e56:UInt8) ty5 rfl rfl (fun _=>he56) rfl rfl rfl) rfl rfl ?_)
   refine TLc.lit ([e56]:List UInt8) kd25 ty5 rfl ⟨⟨rfl,rfl⟩,trivial⟩ rfl rfl rfl ?_
   obtain ⟨u57,hu57,hX⟩:=bind_some hX
   refine TLc.appO nd kd25 bo25 ty5 rfl rfl (j:=1) rfl rfl (Src_L _) Dc (need_t hu57) rfl fun nd=>?_
   refine M rfl rfl (TL.nil (hK53 _ _ ?_))
   refine TK.reg ?_
   refine P1 (p_add rfl rfl) rfl rfl (M rfl rfl (TL.nil ?_))
   exact ⟨_,(some_in hX).symm,b26,T26,cs26,b27,rfl,(Nd.pickT nd 2 (is:=[0,1]) Dc Dc (len_geF [_,_] _)),(HSub.pickT nd 2 (is:=[0,1]) Dc Dc (len_geF [_,_] _)),hG26⟩
  ·have hX:=ite_f hc hX
   refine TK.exit ?_
   obtain rfl:=hR25 _ (some_in hX).symm
   exact E25 v28 _ _ ⟨b26,T26,cs26,b27,rfl,(Nd.pickT nd 2 (is:=[0,1]) Dc Dc (len_geF [_,_] _)),(HSub.pickT nd 2 (is:=[0,1]) Dc Dc (len_geF [_,_] _)),hG26⟩ hA25
 ·have hX:=ite_f hc hX
  refine TK.exit ?_
  obtain rfl:=hR10 _ (some_in hX).symm
  exact E10 out12 _ _ ⟨b11,T11,cs11,rfl,(Nd.pickT nd 1 (is:=[0]) Dc Dc (len_geF [_] _)),(HSub.pickT nd 1 (is:=[0]) Dc Dc (len_geF [_] _)),hG11⟩ hA10
theorem ok_erasure_Encode (data1:(List (List UInt8))) (parity2:Int) (r:((List (List UInt8))×Int)) (hX:X.erasure_Encode data1 parity2=some r):Fun Try.prog 14 [Enc.v (data1:(List (List UInt8))),Enc.v (parity2:Int)] (·= .tup 2 (ofL [Enc.v r.1,Enc.v r.2])):=by
 refine Fun.of b14 (Nat.le_of_ble_eq_true rfl) (allVal.mem ⟨(by exact (v_val _)),(by exact (v_val _)),trivial⟩) ?_
 unfold k14
 have nd:Nd []:=Nd_nil
 unfold X.erasure_Encode at hX
 refine SR fun K3 hK3=>M rfl rfl (M rfl rfl (TL.nil (hK3 _ _ ?_)))
 refine TK.seq_k fun K4 hK4=>?_
 refine SR fun K5 hK5=>M rfl rfl (P1 (p_lenL (xs:=data1) kd22 rfl) rfl rfl (P1 (p_lss rfl rfl) rfl rfl (M rfl rfl ?_)))
 refine TLc.p (gc:=(!((decide ((data1.length:Int)<(1:Int)))))) (p_mv rfl (hg:=fun e=>rfl)) (gcF1 rfl) rfl ?_
 refine TLc.p (gc:=(!((decide ((data1.length:Int)<(1:Int)))))) (p_lenL (xs:=data1) kd22 rfl (hg:=fun e=>e)) (gcF1 rfl) rfl ?_
 refine TLc.p (gc:=(!((decide ((data1.length:Int)<(1:Int)))))) (p_gtr rfl rfl (hg:=fun e=>⟨e,rfl⟩)) (gcF1 rfl) rfl ?_
 refine P1 (p_or rfl rfl (fun e=>⟨rfl,fun h=>(not_t h)⟩)) rfl rfl (M rfl rfl ?_)
 refine TLc.p (gc:=(!(((decide ((data1.length:Int)<(1:Int)))||(decide ((data1.length:Int)>(255:Int))))))) (p_mv rfl (hg:=fun e=>rfl)) (gcF1 rfl) rfl ?_
 refine TLc.p (gc:=(!(((decide ((data1.length:Int)<(1:Int)))||(decide ((data1.length:Int)>(255:Int))))))) (p_lss rfl rfl (hg:=fun e=>⟨e,rfl⟩)) (gcF1 rfl) rfl ?_
 refine P1 (p_or rfl rfl (fun e=>⟨rfl,fun h=>(not_t h)⟩)) rfl rfl (M rfl rfl ?_)
 refine TLc.p (gc:=(!((((decide ((data1.length:Int)<(1:Int)))||(decide ((data1.length:Int)>(255:Int))))||(decide (parity2<(0:Int))))))) (p_mv rfl (hg:=fun e=>rfl)) (gcF1 rfl) rfl ?_
 refine TLc.p (gc:=(!((((decide ((data1.length:Int)<(1:Int)))||(decide ((data1.length:Int)>(255:Int))))||(decide (parity2<(0:Int))))))) (p_mv rfl (hg:=fun e=>rfl)) (gcF1 rfl) rfl ?_
 refine TLc.p (gc:=(!((((decide ((data1.length:Int)<(1:Int)))||(decide ((data1.length:Int)>(255:Int))))||(decide (parity2<(0:Int))))))) (p_lenL (xs:=data1) kd22 rfl (hg:=fun e=>e)) (gcF1 rfl) rfl ?_
 refine TLc.p (gc:=(!((((decide ((data1.length:Int)<(1:Int)))||(decide ((data1.length:Int)>(255:Int))))||(decide (parity2<(0:Int))))))) (p_sub rfl rfl (hg:=fun e=>⟨rfl,e⟩)) (gcF1 rfl) rfl ?_
 refine TLc.p (gc:=(!((((decide ((data1.length:Int)<(1:Int)))||(decide ((data1.length:Int)>(255:Int))))||(decide (parity2<(0:Int))))))) (p_gtr rfl rfl (hg:=fun e=>⟨e,e⟩)) (gcF1 rfl) rfl ?_
 refine P1 (p_or rfl rfl (fun e=>⟨rfl,fun h=>(not_t h)⟩)) rfl rfl (M rfl rfl ?_)
 refine TLc.p (gc:=(!(((((decide ((data1.length:Int)<(1:Int)))||(decide ((data1.length:Int)>(255:Int))))||(decide (parity2<(0:Int))))||(decide (parity2>(wr ((255:Int)-(data1.length:Int))))))))) (p_mv rfl (hg:=fun e=>rfl)) (gcF1 rfl) rfl ?_
 obtain ⟨r6,hr6,hX⟩:=bind_some hX
 refine TL.cvX (gcF1 rfl) rfl rfl (fun e=>⟨rfl,⟨e,trivial⟩⟩) (fun e=>ok_erasure_alike data1 _ (optG_t hr6 e)) ?_
 refine TLc.p (gc:=(!(((((decide ((data1.length:Int)<(1:Int)))||(decide ((data1.length:Int)>(255:Int))))||(decide (parity2<(0:Int))))||(decide (parity2>(wr ((255:Int)-(data1.length:Int))))))))) (p_not rfl (hg:=fun e=>e)) (gcF1 rfl) rfl ?_
 refine P1 (p_or rfl rfl (fun e=>⟨rfl,fun h=>(not_t h)⟩)) rfl rfl (TL.nil (hK5 _ _ ?_))
 refine TK.cond (b:=(((((decide ((data1.length:Int)<(1:Int)))||(decide ((data1.length:Int)>(255:Int))))||(decide (parity2<(0:Int))))||(decide (parity2>(wr ((255:Int)-(data1.length:Int))))))||(!r6))) rfl (fun hc=>?_) (fun hc=>?_)
 ·have hX:=ite_t hc hX
  refine SR fun K7 hK7=>M rfl rfl (M rfl rfl (TL.nil (hK7 _ _ ?_)))
  refine TK.wk 4 (L ([]:(List (List UInt8)))) rfl Wk_nil ?_
  refine TK.ret ?_
  try dsimp only[thenQ]
  exact retN (vs:=[Enc.v (([]:(List (List UInt8))):(List (List UInt8))),Enc.v ((1:Int):Int)]) ⟨rfl,rfl,trivial⟩ (by obtain rfl:=some_in hX;rfl) (allVal.mem ⟨v_val _,v_val _,trivial⟩)
 ·have hX:=ite_f hc hX
  refine TK.skip ?_
  refine hK4 _ _ ?_
  refine TK.seq_k fun K8 hK8=>?_
  refine SR fun K9 hK9=>M rfl rfl (P1 (p_eql rfl rfl) rfl rfl (TL.nil (hK9 _ _ ?_)))
  refine TK.cond (b:=(parity2==(0:Int))) rfl (fun hc=>?_) (fun hc=>?_)
  ·have hX:=ite_t hc hX
   refine SR fun K10 hK10=>M rfl rfl (M rfl rfl (TL.nil (hK10 _ _ ?_)))
   refine TK.wk 4 (L ([]:(List (List UInt8)))) rfl Wk_nil ?_
   refine TK.ret ?_
   try dsimp only[thenQ]
   exact retN (vs:=[Enc.v (([]:(List (List UInt8))):(List (List UInt8))),Enc.v ((0:Int):Int)]) ⟨rfl,rfl,trivial⟩ (by obtain rfl:=some_in hX;rfl) (allVal.mem ⟨v_val _,v_val _,trivial⟩)
  ·have hX:=ite_f hc hX
   refine TK.skip ?_
   refine hK8 _ _ (SR fun K11 hK11=>M rfl rfl (P1 (p_lenL (xs:=data1) kd22 rfl) rfl rfl (M rfl rfl ?_)))
   obtain ⟨r12,hr12,hX⟩:=bind_some hX
   refine TL.cvX rfl rfl rfl (fun _=>⟨rfl,⟨rfl,⟨rfl,trivial⟩⟩⟩) (fun e=>ok_matrix_Cauchy (data1.length:Int) parity2 _ hr12) ?_
   refine M rfl rfl (P1 (p_ex rfl rfl Dc) rfl rfl (P1 (p_ex rfl rfl Dc) rfl rfl (M rfl rfl (M rfl rfl (TL.nil (hK11 _ _ ?_))))))
   refine TK.seq_k fun K13 hK13=>?_
   refine SR fun K14 hK14=>M rfl rfl (P1 (p_neq rfl rfl) rfl rfl (TL.nil (hK14 _ _ ?_)))
   refine TK.cond (b:=(r12.2 !=(0:Int))) rfl (fun hc=>?_) (fun hc=>?_)
   ·have hX:=ite_t hc hX
    refine SR fun K15 hK15=>M rfl rfl (M rfl rfl (M rfl rfl (TL.nil (hK15 _ _ ?_))))
    refine TK.wk 4 (L ([]:(List (List UInt8)))) rfl Wk_nil ?_
    refine TK.ret ?_
    try dsimp only[thenQ]
    exact retN (vs:=[Enc.v (([]:(List (List UInt8))):(List (List UInt8))),Enc.v r12.2]) ⟨rfl,rfl,trivial⟩ (by obtain rfl:=some_in hX;rfl) (allVal.mem ⟨v_val _,v_val _,trivial⟩)
   ·have hX:=ite_f hc hX
    refine TK.skip ?_
    refine hK13 _ _ (SR fun K16 hK16=>M rfl rfl (M rfl rfl ?_))
    obtain ⟨r17,hr17,hX⟩:=bind_some hX
    refine TL.cvX rfl rfl rfl (fun _=>⟨rfl,⟨rfl,⟨rfl,trivial⟩⟩⟩) (fun e=>ok_erasure_reckon r12.1 data1 _ hr17) ?_
    refine M rfl rfl (M rfl rfl (TL.nil (hK16 _ _ ?_)))
    refine TK.ret ?_
    try dsimp only[thenQ]
    exact retN (vs:=[Enc.v r17,Enc.v ((0:Int):Int)]) ⟨rfl,rfl,trivial⟩ (by obtain rfl:=some_in hX;rfl) (allVal.mem ⟨v_val _,v_val _,trivial⟩)
theorem ok_stripe_Parity_c1 (b1:(List UInt8)) (r:Bool) (hX:X.stripe_Parity_c1 b1=some r):Fun Try.prog 112 [Enc.v (b1:(List UInt8))] (·=Enc.v (r:Bool)):=by
 refine Fun.of b112 (Nat.le_of_ble_eq_true rfl) (allVal.mem ⟨(by exact (v_val _)),trivial⟩) ?_
 unfold k112
 have nd:Nd []:=Nd_nil
 unfold X.stripe_Parity_c1 at hX
 refine SR fun K2 hK2=>M rfl rfl (TL.nil (hK2 _ _ (SR fun K3 hK3=>M rfl rfl (P1 (p_lenL (xs:=b1) kd25 rfl) rfl rfl (P1 (p_eql rfl rfl) rfl rfl (M rfl rfl (TL.nil (hK3 _ _ ?_))))))))
 refine TK.ret ?_
 try dsimp only[thenQ]
 exact R1 rfl hX
theorem ok_stripe_Parity (l1:(List Tape_api)) (parity2:Int) (r:((List (List (List UInt8)))×Int)) (hX:X.stripe_Parity l1 parity2=some r):Fun Try.prog 68 [Enc.v (l1:(List Tape_api)),Enc.v (parity2:Int)] (·= .tup 2 (ofL [Enc.v r.1,Enc.v r.2])):=by
 refine Fun.of b68 (Nat.le_of_ble_eq_true rfl) (allVal.mem ⟨(by exact (v_val _)),(by exact (v_val _)),trivial⟩) ?_
 unfold k68
 have nd:Nd []:=Nd_nil
 unfold X.stripe_Parity at hX
 refine SR fun K3 hK3=>M rfl rfl (M rfl rfl (TL.nil (hK3 _ _ ?_)))
 refine TK.seq_k fun K4 hK4=>?_
 refine SR fun K5 hK5=>M rfl rfl ?_
 obtain ⟨r6,hr6,hX⟩:=bind_some hX
 refine TL.cvX rfl rfl rfl (fun _=>⟨rfl,⟨rfl,⟨rfl,trivial⟩⟩⟩) (fun e=>ok_stripe_Row l1 ((-1):Int) _ hr6) ?_
 refine M rfl rfl ?_
 obtain ⟨r7,hr7,hX⟩:=bind_some hX
 refine TL.cvX rfl rfl rfl (fun _=>⟨rfl,⟨rfl,⟨rfl,trivial⟩⟩⟩) (fun e=>ok_erasure_Encode r6 parity2 _ hr7) ?_
 refine M rfl rfl (P1 (p_ex rfl rfl Dc) rfl rfl (P1 (p_ex rfl rfl Dc) rfl rfl (M rfl rfl (M rfl rfl (TL.nil (hK5 _ _ (SR fun K8 hK8=>M rfl rfl (P1 (p_neq rfl rfl) rfl rfl (TL.nil (hK8 _ _ ?_))))))))))
 refine TK.cond (b:=(r7.2 !=(0:Int))) rfl (fun hc=>?_) (fun hc=>?_)
 ·have hX:=ite_t hc hX
  refine SR fun K9 hK9=>M rfl rfl (M rfl rfl (M rfl rfl (TL.nil (hK9 _ _ ?_))))
  refine TK.wk 4 (L ([]:(List (List (List UInt8))))) rfl Wk_nil ?_
  refine TK.ret ?_
  try dsimp only[thenQ]
  exact retN (vs:=[Enc.v (([]:(List (List (List UInt8)))):(List (List (List UInt8)))),Enc.v r7.2]) ⟨rfl,rfl,trivial⟩ (by obtain rfl:=some_in hX;rfl) (allVal.mem ⟨v_val _,v_val _,trivial⟩)
 ·have hX:=ite_f hc hX
  refine TK.skip ?_
  refine hK4 _ _ (SR fun K10 hK10=>M rfl rfl ?_)
  obtain ⟨u11,hu11,hX⟩:=bind_some hX
  refine TLc.mkG (α:=(List UInt8)) (e':=25) nd kd111 ty22 rfl rfl rfl rfl Dc (need_t hu11) rfl fun b12 T12 cs12 hG12 nd=>?_
  refine M rfl rfl (TL.nil (hK10 _ _ ?_))
  refine TK.seq_k fun K13 hK13=>?_
  refine SR fun K14 hK14=>M rfl rfl ?_
  obtain ⟨r15,hr15,hX⟩:=bind_some hX
  refine TL.cvX rfl rfl rfl (fun _=>⟨rfl,⟨rfl,trivial⟩⟩) (fun e=>ok_stripe_Len l1 _ hr15) ?_
  refine M rfl rfl (TL.nil (hK14 _ _ ?_))
  refine TK.block ?_
  obtain ⟨o16,hO16,hA16⟩:=bind_some hX
  have E16:∀(l21:List (List (List UInt8))) (env:Env) (h:Hp),(∃b20 T20 cs20,keepE [8] env=[(8,true,OL b20 l21)]∧Nd ((b20,RV 22 cs20)::T20)∧HSub ((b20,RV 22 cs20)::T20) h∧Grid (α:=(List UInt8)) 25 T20 cs20 l21)→X.stripe_Parity_e16 l21=some r→K13 env h:=by
   intro l21 env h hE hX
   obtain ⟨b20,T20,cs20,henv,nd,hs,hG20⟩:=hE
   unfold X.stripe_Parity_e16 at hX
   refine hK13 _ _ (TK.keep [8] ?_)
   rw[henv]
   refine TK.subH hs ?_
   refine SR fun K22 hK22=>M rfl rfl (M rfl rfl (M rfl rfl (TL.nil (hK22 _ _ ?_))))
   refine TK.layG (α:=(List UInt8)) [(b20,RV 22 cs20)] T20 nd (j:=0) rfl hG20 fun nd=>?_
   refine TK.lay [(4,L l21)] nd (j:=0) rfl ⟨⟨_,rfl,fix_OL nd (j:=0) rfl,rfl⟩,trivial⟩ fun nd=>?_
   refine TK.ret ?_
   try dsimp only[thenQ]
   exact retN (vs:=[Enc.v (l21:(List (List (List UInt8)))),Enc.v ((0:Int):Int)]) ⟨rfl,rfl,trivial⟩ (by obtain rfl:=some_in hX;rfl) (allVal.mem ⟨v_val _,v_val _,trivial⟩)
  refine TK.iter [0,1,8,28,29] (fun s env h=>match s with|(out18,x19)=>∃b17 T17 cs17,env=[(0,true,Enc.v l1),(1,true,Enc.v parity2),(8,true,OL b17 out18),(28,true,Enc.v r15),(29,true,Enc.v x19)]∧Nd ((b17,RV 22 cs17)::T17)∧HSub ((b17,RV 22 cs17)::T17) h∧Grid (α:=(List UInt8)) 25 T17 cs17 out18) hO16 ⟨b12,T12,cs12,rfl,(Nd.pickT nd 1 (is:=[0]) Dc Dc (len_geF [_] _)),(HSub.pickT nd 1 (is:=[0]) Dc Dc (len_geF [_] _)),hG12⟩ ?_
  rintro ⟨out18,x19⟩ env h x16x ⟨b17,T17,cs17,rfl,nd,hs,hG17⟩ hX hR16
  refine TK.subH hs ?_
  unfold X.stripe_Parity_s16 at hX
  try dsimp only at hX
  refine SR fun K23 hK23=>P1 (p_lss rfl rfl) rfl rfl (TL.nil (hK23 _ _ ?_))
  refine TK.seq_k fun K24 hK24=>?_
  refine TK.cond (b:=(decide (x19<r15))) rfl (fun hc=>?_) (fun hc=>?_)
  ·have hX:=ite_t hc hX
   refine TK.skip ?_
   refine hK24 _ _ ?_
   refine TK.seq_k fun K25 hK25=>?_
   refine TK.block ?_
   refine SR fun K26 hK26=>M rfl rfl (M rfl rfl (TL.nil (hK26 _ _ (SR fun K27 hK27=>M rfl rfl (M rfl rfl ?_)))))
   obtain ⟨r28,hr28,hX⟩:=bind_some hX
   refine TL.cvX rfl rfl rfl (fun _=>⟨rfl,⟨rfl,⟨rfl,trivial⟩⟩⟩) (fun e=>ok_stripe_Row l1 x19 _ hr28) ?_
   refine M rfl rfl (TL.nil (hK27 _ _ ?_))
   refine TK.seq_k fun K29 hK29=>?_
   refine SR fun K30 hK30=>M rfl rfl ?_
   obtain ⟨r31,hr31,hX⟩:=bind_some hX
   refine TL.cvX rfl rfl rfl (fun _=>⟨rfl,⟨rfl,⟨rfl,trivial⟩⟩⟩) (fun e=>ok_slices_ContainsFunc_LLbyte_Lbyte r28 (fun a1=>X.stripe_Parity_c1 a1) _ hr31 ⟨112,0,ofL [],rfl,(fun i hi=>by cases hi),fun a1 r hr=>ok_stripe_Parity_c1 a1 r hr⟩) ?_
   refine TL.nil (hK30 _ _ ?_)
   refine TK.cond (b:=r31) rfl (fun hc=>?_) (fun hc=>?_)
   ·have hX:=ite_t hc hX
    refine SR fun K32 hK32=>M rfl rfl (M rfl rfl (TL.nil (hK32 _ _ ?_)))
    refine TK.wk 4 (L ([]:(List (List (List UInt8))))) rfl Wk_nil ?_
    refine TK.ret ?_
    obtain rfl:=hR16 _ (some_in hX).symm
    replace hX:=hA16
    try dsimp only[thenQ]
    exact retN (vs:=[Enc.v (([]:(List (List (List UInt8)))):(List (List (List UInt8)))),Enc.v ((1:Int):Int)]) ⟨rfl,rfl,trivial⟩ (by obtain rfl:=some_in hX;rfl) (allVal.mem ⟨v_val _,v_val _,trivial⟩)
   ·have hX:=ite_f hc hX
    refine TK.skip ?_
    refine hK29 _ _ (SR fun K33 hK33=>M rfl rfl (M rfl rfl ?_))
    obtain ⟨r34,hr34,hX⟩:=bind_some hX
    refine TL.cvX rfl rfl rfl (fun _=>⟨rfl,⟨rfl,⟨rfl,trivial⟩⟩⟩) (fun e=>ok_erasure_Encode r28 parity2 _ hr34) ?_
    refine M rfl rfl (P1 (p_ex rfl rfl Dc) rfl rfl (P1 (p_ex rfl rfl Dc) rfl rfl (M rfl rfl (M rfl rfl (TL.nil (hK33 _ _ ?_))))))
    refine TK.seq_k fun K35 hK35=>?_
    refine SR fun K36 hK36=>M rfl rfl (P1 (p_neq rfl rfl) rfl rfl (TL.nil (hK36 _ _ ?_)))
    refine TK.cond (b:=(r34.2 !=(0:Int))) rfl (fun hc=>?_) (fun hc=>?_)
    ·have hX:=ite_t hc hX
     refine SR fun K37 hK37=>M rfl rfl (M rfl rfl (M rfl rfl (TL.nil (hK37 _ _ ?_))))
     refine TK.wk 4 (L ([]:(List (List (List UInt8))))) rfl Wk_nil ?_
     refine TK.ret ?_
     obtain rfl:=hR16 _ (some_in hX).symm
     replace hX:=hA16
     try dsimp only[thenQ]
     exact retN (vs:=[Enc.v (([]:(List (List (List UInt8)))):(List (List (List UInt8)))),Enc.v r34.2]) ⟨rfl,rfl,trivial⟩ (by obtain rfl:=some_in hX;rfl) (allVal.mem ⟨v_val _,v_val _,trivial⟩)
    ·have hX:=ite_f hc hX
     refine TK.skip ?_
     refine hK35 _ _ (SR fun K38 hK38=>M rfl rfl (P1 (p_lenL (xs:=r34.1) kd22 rfl) rfl rfl (M rfl rfl (TL.nil (hK38 _ _ ?_)))))
     refine TK.block ?_
     obtain ⟨o39,hO39,hA39⟩:=bind_some hX
     have E39:∀(l44:List (List (List UInt8))) (env:Env) (h:Hp),(∃b43 T43 cs43,keepE [0,1,8,28,29] env=[(0,true,Enc.v l1),(1,true,Enc.v parity2),(8,true,OL b43 l44),(28,true,Enc.v r15),(29,true,Enc.v x19)]∧Nd ((b43,RV 22 cs43)::T43)∧HSub ((b43,RV 22 cs43)::T43) h∧Grid (α:=(List UInt8)) 25 T43 cs43 l44)→X.stripe_Parity_e39 x19 l44=some x16x→K25 env h:=by
      intro l44 env h hE hX
      obtain ⟨b43,T43,cs43,henv,nd,hs,hG43⟩:=hE
      unfold X.stripe_Parity_e39 at hX
      refine hK25 _ _ (TK.keep [0,1,8,28,29] ?_)
      rw[henv]
      refine TK.subH hs ?_
      refine TK.reg ?_
      refine P1 (p_add rfl rfl) rfl rfl (M rfl rfl (TL.nil ?_))
      exact ⟨_,(some_in hX).symm,b43,T43,cs43,rfl,(Nd.pickT nd 1 (is:=[0]) Dc Dc (len_geF [_] _)),(HSub.pickT nd 1 (is:=[0]) Dc Dc (len_geF [_] _)),hG43⟩
     refine TK.iter [0,1,8,28,29,46,47,48] (fun s env h=>match s with|(out41,x42)=>∃b40 T40 cs40,env=[(0,true,Enc.v l1),(1,true,Enc.v parity2),(8,true,OL b40 out41),(28,true,Enc.v r15),(29,true,Enc.v x19),(46,true,Enc.v r34.1),(47,true,Enc.v ((r34.1.length:Int):Int)),(48,true,Enc.v x42)]∧Nd ((b40,RV 22 cs40)::T40)∧HSub ((b40,RV 22 cs40)::T40) h∧Grid (α:=(List UInt8)) 25 T40 cs40 out41) hO39 ⟨b17,T17,cs17,rfl,(Nd.pickT nd 1 (is:=[0]) Dc Dc (len_geF [_] _)),(HSub.pickT nd 1 (is:=[0]) Dc Dc (len_geF [_] _)),hG17⟩ ?_
     rintro ⟨out41,x42⟩ env h x39x ⟨b40,T40,cs40,rfl,nd,hs,hG40⟩ hX hR39
     refine TK.subH hs ?_
     unfold X.stripe_Parity_s39 at hX
     try dsimp only at hX
     refine SR fun K45 hK45=>P1 (p_lss rfl rfl) rfl rfl (TL.nil (hK45 _ _ ?_))
     refine TK.seq_k fun K46 hK46=>?_
     refine TK.cond (b:=(decide (x42<(r34.1.length:Int)))) rfl (fun hc=>?_) (fun hc=>?_)
     ·have hX:=ite_t hc hX
      refine TK.skip ?_
      refine hK46 _ _ ?_
      refine TK.seq_k fun K47 hK47=>?_
      refine TK.block ?_
      refine SR fun K48 hK48=>M rfl rfl ?_
      obtain ⟨e49,he49,hX⟩:=bind_some hX
      refine P1 (p_iaL (xs:=r34.1) kd22 ty25 rfl rfl rfl (fun _=>he49)) rfl rfl (P1 (p_ldE (xs:=r34.1) (a:=e49) (e49:(List UInt8)) ty25 rfl rfl (fun _=>he49) rfl rfl rfl) rfl rfl (M rfl rfl (M rfl rfl (TL.nil (hK48 _ _ ?_)))))
      refine TK.reg ?_
      refine M rfl rfl (M rfl rfl (M rfl rfl (M rfl rfl ?_)))
      obtain ⟨e50,he50,hX⟩:=bind_some hX
      refine P1 (p_iaG hG40 kd111 ty22 rfl rfl rfl nd (j:=0) rfl (fun _=>he50)) rfl rfl ?_
      obtain ⟨nm51,hT51,hc51⟩:=gridAt (i:=x42) hG40 he50
      refine P1 (p_ldG ty22 rfl rfl nd (j:=0) rfl hc51 rfl rfl) rfl rfl (M rfl rfl ?_)
      refine TLc.lit ([e49]:List (List UInt8)) kd22 ty25 rfl ⟨⟨rfl,rfl⟩,trivial⟩ rfl rfl rfl ?_
      obtain ⟨u52,hu52,hX⟩:=bind_some hX
      refine TLc.appG (F:=[(b40,RV 22 cs40)]) (T:=T40) (k:=(x42:Int).toNat) nd kd22 bo22 ty25 rfl rfl hT51 rfl (Src_L _) Dc (need_t hu52) rfl fun nd=>?_
      obtain ⟨e53,he53,hX⟩:=bind_some hX
      refine P1 (p_iaG hG40 kd111 ty22 rfl rfl rfl nd (j:=0) rfl (fun _=>he53)) rfl rfl ?_
      refine TLc.stG (F:=[(b40,RV 22 cs40)]) (T:=(T40.set (x42:Int).toNat (nm51,RL (α:=(List UInt8)) 25 (e50++([e49]:List (List UInt8)))))) (i:=x42) nd ty22 rfl (j:=0) rfl hc51 rfl (setAt hT51) rfl fun nd=>?_
      refine TL.cv 8 (OL b40 (out41.set x42.toNat (e50++([e49]:List (List UInt8))))) rfl (Wk_eq (OL_len (by simp))) ?_
      refine TL.nil (hK47 _ _ ?_)
      refine TK.reg ?_
      refine P1 (p_add rfl rfl) rfl rfl (M rfl rfl (TL.nil ?_))
      exact ⟨_,(some_in hX).symm,b40,(T40.set (x42:Int).toNat (nm51,RL (α:=(List UInt8)) 25 (e50++([e49]:List (List UInt8))))),(cs40.set (x42:Int).toNat (OL (α:=(List UInt8)) nm51 (e50++([e49]:List (List UInt8))))),rfl,(Nd.pickT nd 1 (is:=[0]) Dc Dc (len_geF [_] _)),(HSub.pickT nd 1 (is:=[0]) Dc Dc (len_geF [_] _)),(Grid.set hG40 hT51)⟩
     ·have hX:=ite_f hc hX
      refine TK.exit ?_
      obtain rfl:=hR39 _ (some_in hX).symm
      exact E39 out41 _ _ ⟨b40,T40,cs40,rfl,(Nd.pickT nd 1 (is:=[0]) Dc Dc (len_geF [_] _)),(HSub.pickT nd 1 (is:=[0]) Dc Dc (len_geF [_] _)),hG40⟩ hA39
  ·have hX:=ite_f hc hX
   refine TK.exit ?_
   obtain rfl:=hR16 _ (some_in hX).symm
   exact E16 out18 _ _ ⟨b17,T17,cs17,rfl,(Nd.pickT nd 1 (is:=[0]) Dc Dc (len_geF [_] _)),(HSub.pickT nd 1 (is:=[0]) Dc Dc (len_geF [_] _)),hG17⟩ hA16
theorem ok_record_SealBytes (s1:Seal_api) (r:(List UInt8)) (hX:X.record_SealBytes s1=some r):Fun Try.prog 113 [Enc.v (s1:Seal_api)] (·=Enc.v (r:(List UInt8))):=by
 refine Fun.of b113 (Nat.le_of_ble_eq_true rfl) (allVal.mem ⟨(by exact (v_val _)),trivial⟩) ?_
 unfold k113
 have nd:Nd []:=Nd_nil
 unfold X.record_SealBytes at hX
 refine SR fun K2 hK2=>?_
 refine TLc.boxV (lu:=[Enc.v s1.Number,Enc.v s1.Index,Enc.v s1.Data,Enc.v s1.Parity,Enc.v s1.Labels]) nd rfl (Cells_v (s1:Seal_api)) rfl ?_
 refine M rfl rfl (TL.nil (hK2 _ _ ?_))
 refine TK.seq_k fun K3 hK3=>?_
 refine SR fun K4 hK4=>P1 (p_ldRa (l':=Enc.cl (s1:Seal_api)) ty50 rfl rfl rfl rfl rfl (Nat.le_of_ble_eq_true rfl)) rfl rfl ?_
 obtain ⟨r5,hr5,hX⟩:=bind_some hX
 refine TL.cvX rfl rfl rfl (fun _=>⟨rfl,⟨rfl,trivial⟩⟩) (fun e=>ok_record_RightSeal s1 _ hr5) ?_
 refine P1 (p_not rfl) rfl rfl (TL.nil (hK4 _ _ ?_))
 refine TK.cond (b:=(!r5)) rfl (fun hc=>?_) (fun hc=>?_)
 ·have hX:=ite_t hc hX
  refine SR fun K6 hK6=>M rfl rfl (TL.nil (hK6 _ _ ?_))
  refine TK.wk 2 (L ([]:(List UInt8))) rfl Wk_nil ?_
  refine TK.ret ?_
  try dsimp only[thenQ]
  exact R1 rfl hX
 ·have hX:=ite_f hc hX
  refine TK.skip ?_
  refine hK3 _ _ (SR fun K7 hK7=>P1 (p_bld (l:=[.nils]) ty186 rfl all186 rfl (fun _=>trivial)) rfl rfl ?_)
  refine TLc.boxO (lu:=[.nils]) nd rfl (Cells_agg rfl (allA.mem ⟨trivial,trivial⟩)) rfl fun b8 nd=>?_
  refine M rfl rfl (TL.nil (hK7 _ _ ?_))
  refine TK.ownC (α:=UInt8) nd (j:=0) rfl 0 5 (.inl rfl) fun b9 nd=>?_
  refine SR fun K10 hK10=>M rfl rfl (P1 (p_faR fs50_0 Dc rfl) rfl rfl (P1 (p_ldR (v:=Enc.v s1.Number) ty3 rfl rfl rfl rfl rfl rfl) rfl rfl ?_))
  obtain ⟨r11,hr11,hX⟩:=bind_some hX
  refine TL.pick [1,0] nd Dc fun nd=>?_
  refine TL.tcX [(b8,RV 186 [OL (α:=UInt8) b9 ([]:List UInt8)]),(b9,RL (α:=UInt8) 5 ([]:List UInt8))] [] rfl nd (dlt rfl) rfl ⟨rfl,⟨rfl,⟨rfl,trivial⟩⟩⟩ (ok_code_Writer_Int s1.Number ([]:List UInt8) b8 b9 (Nd.take nd 2 rfl) _ hr11) ?_
  rintro _ _ hQ nd
  obtain ⟨b13,rfl,rfl⟩:=hQ
  refine TL.nil (hK10 _ _ ?_)
  refine TK.seq_k fun K14 hK14=>?_
  refine SR fun K15 hK15=>P1 (p_faR fs50_1 Dc rfl) rfl rfl (P1 (p_ldR (v:=Enc.v s1.Index) ty3 rfl rfl rfl rfl rfl rfl) rfl rfl (P1 (p_faR fs50_2 Dc rfl) rfl rfl (P1 (p_ldR (v:=Enc.v s1.Data) ty3 rfl rfl rfl rfl rfl rfl) rfl rfl (P1 (p_faR fs50_3 Dc rfl) rfl rfl (P1 (p_ldR (v:=Enc.v s1.Parity) ty3 rfl rfl rfl rfl rfl rfl) rfl rfl ?_)))))
  refine TLc.lit ([s1.Index,s1.Data,s1.Parity]:List Int) kd47 ty3 rfl ⟨⟨rfl,rfl⟩,⟨rfl,rfl⟩,⟨rfl,rfl⟩,trivial⟩ rfl rfl rfl ?_
  refine P1 (p_lenL (xs:=([s1.Index,s1.Data,s1.Parity]:List Int)) kd47 rfl) rfl rfl (M rfl rfl (TL.nil (hK15 _ _ ?_)))
  refine TK.block ?_
  obtain ⟨o16,hO16,hA16⟩:=bind_some hX
  have E16:∀(l23:List UInt8) (env:Env) (h:Hp),(∃b22 b21,keepE [1,3] env=[(1,true,.vref (ofL [Enc.v s1.Number,Enc.v s1.Index,Enc.v s1.Data,Enc.v s1.Parity,Enc.v s1.Labels]) 5 0),(3,true,.ref b21 0 1)]∧Nd [(b22,RL (α:=UInt8) 5 l23),(b21,RV 186 [OL b22 l23])]∧HSub [(b22,RL (α:=UInt8) 5 l23),(b21,RV 186 [OL b22 l23])] h)→X.record_SealBytes_e16 s1 l23=some r→K14 env h:=by
   intro l23 env h hE hX
   obtain ⟨b22,b21,henv,nd,hs⟩:=hE
   unfold X.record_SealBytes_e16 at hX
   refine hK14 _ _ (TK.keep [1,3] ?_)
   rw[henv]
   refine TK.subH hs ?_
   refine TK.seq_k fun K24 hK24=>?_
   refine SR fun K25 hK25=>P1 (p_faR fs50_4 Dc rfl) rfl rfl (P1 (p_ldR (v:=Enc.v s1.Labels) ty47 rfl rfl rfl rfl rfl rfl) rfl rfl (P1 (p_lenL (xs:=s1.Labels) kd47 rfl) rfl rfl (M rfl rfl (TL.nil (hK25 _ _ ?_)))))
   refine TK.block ?_
   obtain ⟨o26,hO26,hA26⟩:=bind_some hX
   have E26:∀(l33:List UInt8) (env:Env) (h:Hp),(∃b32 b31,keepE [3] env=[(3,true,.ref b31 0 1)]∧Nd [(b32,RL (α:=UInt8) 5 l33),(b31,RV 186 [OL b32 l33])]∧HSub [(b32,RL (α:=UInt8) 5 l33),(b31,RV 186 [OL b32 l33])] h)→X.record_SealBytes_e26 l33=some r→K24 env h:=by
    intro l33 env h hE hX
    obtain ⟨b32,b31,henv,nd,hs⟩:=hE
    unfold X.record_SealBytes_e26 at hX
    refine hK24 _ _ (TK.keep [3] ?_)
    rw[henv]
    refine TK.subH hs ?_
    refine SR fun K34 hK34=>M rfl rfl ?_
    obtain ⟨r35,hr35,hX⟩:=bind_some hX
    refine TL.pick [1,0] nd Dc fun nd=>?_
    refine TL.tcX [(b31,RV 186 [OL b32 l33]),(b32,RL (α:=UInt8) 5 l33)] [] rfl nd (dlt rfl) rfl ⟨rfl,⟨rfl,trivial⟩⟩ (ok_code_Writer_Bytes l33 b31 b32 (Nd.take nd 2 rfl) _ hr35) ?_
    rintro _ _ hQ nd
    obtain ⟨rfl,rfl⟩:=hQ
    refine M rfl rfl (TL.nil (hK34 _ _ ?_))
    refine TK.ret ?_
    try dsimp only[thenQ]
    exact R1 rfl hX
   refine TK.iter [3,35,36,37] (fun s env h=>match s with|(l29,x30)=>∃b28 b27,env=[(3,true,.ref b27 0 1),(35,true,Enc.v s1.Labels),(36,true,Enc.v ((s1.Labels.length:Int):Int)),(37,true,Enc.v x30)]∧Nd [(b28,RL (α:=UInt8) 5 l29),(b27,RV 186 [OL b28 l29])]∧HSub [(b28,RL (α:=UInt8) 5 l29),(b27,RV 186 [OL b28 l29])] h) hO26 ⟨b22,b21,rfl,(Nd.pick nd (is:=[0,1]) Dc),(HSub.pick nd (is:=[0,1]) Dc)⟩ ?_
   rintro ⟨l29,x30⟩ env h x26x ⟨b28,b27,rfl,nd,hs⟩ hX hR26
   refine TK.subH hs ?_
   unfold X.record_SealBytes_s26 at hX
   try dsimp only at hX
   refine SR fun K36 hK36=>P1 (p_lss rfl rfl) rfl rfl (TL.nil (hK36 _ _ ?_))
   refine TK.seq_k fun K37 hK37=>?_
   refine TK.cond (b:=(decide (x30<(s1.Labels.length:Int)))) rfl (fun hc=>?_) (fun hc=>?_)
   ·have hX:=ite_t hc hX
    refine TK.skip ?_
    refine hK37 _ _ ?_
    refine TK.seq_k fun K38 hK38=>?_
    refine TK.block ?_
    refine SR fun K39 hK39=>?_
    obtain ⟨e40,he40,hX⟩:=bind_some hX
    refine P1 (p_iaL (xs:=s1.Labels) kd47 ty3 rfl rfl rfl (fun _=>he40)) rfl rfl (P1 (p_ldE (xs:=s1.Labels) (a:=e40) (e40:Int) ty3 rfl rfl (fun _=>he40) rfl rfl rfl) rfl rfl (M rfl rfl (TL.nil (hK39 _ _ ?_))))
    refine TK.reg ?_
    refine M rfl rfl (M rfl rfl ?_)
    obtain ⟨r41,hr41,hX⟩:=bind_some hX
    refine TL.pick [1,0] nd Dc fun nd=>?_
    refine TL.tcX [(b27,RV 186 [OL b28 l29]),(b28,RL (α:=UInt8) 5 l29)] [] rfl nd (dlt rfl) rfl ⟨rfl,⟨rfl,⟨rfl,trivial⟩⟩⟩ (ok_code_Writer_Int e40 l29 b27 b28 (Nd.take nd 2 rfl) _ hr41) ?_
    rintro _ _ hQ nd
    obtain ⟨b43,rfl,rfl⟩:=hQ
    refine TL.nil (hK38 _ _ ?_)
    refine TK.reg ?_
    refine P1 (p_add rfl rfl) rfl rfl (M rfl rfl (TL.nil ?_))
    exact ⟨_,(some_in hX).symm,b43,b27,rfl,(Nd.pick nd (is:=[1,0]) Dc),(HSub.pick nd (is:=[1,0]) Dc)⟩
   ·have hX:=ite_f hc hX
    refine TK.exit ?_
    obtain rfl:=hR26 _ (some_in hX).symm
    exact E26 l29 _ _ ⟨b28,b27,rfl,(Nd.pick nd (is:=[0,1]) Dc),(HSub.pick nd (is:=[0,1]) Dc)⟩ hA26
  refine TK.iter [1,3,23,24,25] (fun s env h=>match s with|(l19,x20)=>∃b18 b17,env=[(1,true,.vref (ofL [Enc.v s1.Number,Enc.v s1.Index,Enc.v s1.Data,Enc.v s1.Parity,Enc.v s1.Labels]) 5 0),(3,true,.ref b17 0 1),(23,true,Enc.v (([s1.Index,s1.Data,s1.Parity]:List Int):(List Int))),(24,true,Enc.v ((([s1.Index,s1.Data,s1.Parity]:List Int).length:Int):Int)),(25,true,Enc.v x20)]∧Nd [(b18,RL (α:=UInt8) 5 l19),(b17,RV 186 [OL b18 l19])]∧HSub [(b18,RL (α:=UInt8) 5 l19),(b17,RV 186 [OL b18 l19])] h) hO16 ⟨b13,b8,rfl,(Nd.pick nd (is:=[1,0]) Dc),(HSub.pick nd (is:=[1,0]) Dc)⟩ ?_
  rintro ⟨l19,x20⟩ env h x16x ⟨b18,b17,rfl,nd,hs⟩ hX hR16
  refine TK.subH hs ?_
  unfold X.record_SealBytes_s16 at hX
  try dsimp only at hX
  refine SR fun K44 hK44=>P1 (p_lss rfl rfl) rfl rfl (TL.nil (hK44 _ _ ?_))
  refine TK.seq_k fun K45 hK45=>?_
  refine TK.cond (b:=(decide (x20<(([s1.Index,s1.Data,s1.Parity]:List Int).length:Int)))) rfl (fun hc=>?_) (fun hc=>?_)
  ·have hX:=ite_t hc hX
   refine TK.skip ?_
   refine hK45 _ _ ?_
   refine TK.seq_k fun K46 hK46=>?_
   refine TK.block ?_
   refine SR fun K47 hK47=>?_
   obtain ⟨e48,he48,hX⟩:=bind_some hX
   refine P1 (p_iaL (xs:=([s1.Index,s1.Data,s1.Parity]:List Int)) kd47 ty3 rfl rfl rfl (fun _=>he48)) rfl rfl (P1 (p_ldE (xs:=([s1.Index,s1.Data,s1.Parity]:List Int)) (a:=e48) (e48:Int) ty3 rfl rfl (fun _=>he48) rfl rfl rfl) rfl rfl (M rfl rfl (TL.nil (hK47 _ _ ?_))))
   refine TK.reg ?_
   refine M rfl rfl (M rfl rfl (P1 (p_cvt src3 kd5 rfl (cv_u8 _)) rfl rfl ?_))
   obtain ⟨r49,hr49,hX⟩:=bind_some hX
   refine TL.pick [1,0] nd Dc fun nd=>?_
   refine TL.tcX [(b17,RV 186 [OL b18 l19]),(b18,RL (α:=UInt8) 5 l19)] [] rfl nd (dlt rfl) rfl ⟨rfl,⟨rfl,⟨rfl,trivial⟩⟩⟩ (ok_code_Writer_Byte (u8 e48) l19 b17 b18 (Nd.take nd 2 rfl) _ hr49) ?_
   rintro _ _ hQ nd
   obtain ⟨b51,rfl,rfl⟩:=hQ
   refine TL.nil (hK46 _ _ ?_)
   refine TK.reg ?_
   refine P1 (p_add rfl rfl) rfl rfl (M rfl rfl (TL.nil ?_))
   exact ⟨_,(some_in hX).symm,b51,b17,rfl,(Nd.pick nd (is:=[1,0]) Dc),(HSub.pick nd (is:=[1,0]) Dc)⟩
  ·have hX:=ite_f hc hX
   refine TK.exit ?_
   obtain rfl:=hR16 _ (some_in hX).symm
   exact E16 l19 _ _ ⟨b18,b17,rfl,(Nd.pick nd (is:=[0,1]) Dc),(HSub.pick nd (is:=[0,1]) Dc)⟩ hA16
theorem ok_frame_Put (u1:Unit_api) (r:((List UInt8)×Int)) (hX:X.frame_Put u1=some r):Fun Try.prog 114 [Enc.v (u1:Unit_api)] (·= .tup 2 (ofL [Enc.v r.1,Enc.v r.2])):=by
 refine Fun.of b114 (Nat.le_of_ble_eq_true rfl) (allVal.mem ⟨(by exact (v_val _)),trivial⟩) ?_
 unfold k114
 have nd:Nd []:=Nd_nil
 unfold X.frame_Put at hX
 refine SR fun K2 hK2=>?_
 refine TLc.boxV (lu:=[Enc.v u1.Kind,Enc.v u1.Label,Enc.v u1.Number,Enc.v u1.Load]) nd rfl (Cells_v (u1:Unit_api)) rfl ?_
 refine M rfl rfl (M rfl rfl (TL.nil (hK2 _ _ ?_)))
 refine TK.seq_k fun K3 hK3=>?_
 refine SR fun K4 hK4=>P1 (p_ldRa (l':=Enc.cl (u1:Unit_api)) ty68 rfl rfl rfl rfl rfl (Nat.le_of_ble_eq_true rfl)) rfl rfl ?_
 obtain ⟨r5,hr5,hX⟩:=bind_some hX
 refine TL.cvX rfl rfl rfl (fun _=>⟨rfl,⟨rfl,trivial⟩⟩) (fun e=>ok_frame_check u1 _ hr5) ?_
 refine M rfl rfl (TL.nil (hK4 _ _ (SR fun K6 hK6=>M rfl rfl (P1 (p_neq rfl rfl) rfl rfl (TL.nil (hK6 _ _ ?_))))))
 refine TK.cond (b:=(r5 !=(0:Int))) rfl (fun hc=>?_) (fun hc=>?_)
 ·have hX:=ite_t hc hX
  refine SR fun K7 hK7=>M rfl rfl (M rfl rfl (M rfl rfl (TL.nil (hK7 _ _ ?_))))
  refine TK.wk 2 (L ([]:(List UInt8))) rfl Wk_nil ?_
  refine TK.ret ?_
  try dsimp only[thenQ]
  exact retN (vs:=[Enc.v (([]:(List UInt8)):(List UInt8)),Enc.v r5]) ⟨rfl,rfl,trivial⟩ (by obtain rfl:=some_in hX;rfl) (allVal.mem ⟨v_val _,v_val _,trivial⟩)
 ·have hX:=ite_f hc hX
  refine TK.skip ?_
  refine hK3 _ _ (SR fun K8 hK8=>P1 (p_ldRa (l':=Enc.cl (u1:Unit_api)) ty68 rfl rfl rfl rfl rfl (Nat.le_of_ble_eq_true rfl)) rfl rfl ?_)
  obtain ⟨r9,hr9,hX⟩:=bind_some hX
  refine TL.cvX rfl rfl rfl (fun _=>⟨rfl,⟨rfl,trivial⟩⟩) (fun e=>ok_frame_made u1 _ hr9) ?_
  refine M rfl rfl (M rfl rfl (TL.nil (hK8 _ _ ?_)))
  refine TK.ret ?_
  try dsimp only[thenQ]
  exact retN (vs:=[Enc.v r9,Enc.v ((0:Int):Int)]) ⟨rfl,rfl,trivial⟩ (by obtain rfl:=some_in hX;rfl) (allVal.mem ⟨v_val _,v_val _,trivial⟩)
end Go.Proofs.Ytndjbcnpgggddaa
