import Derived.Test.YtndjbcnpgggddaaXFn
import Derived.Test.YtndjbcnpgggddaaXS
import Derived.Test.YtndjbcnpgggddaaAmK0
import Derived.Test.YtndjbcnpgggddaaAmK1
import Derived.Test.YtndjbcnpgggddaaXP0
namespace Go.Proofs.Ytndjbcnpgggddaa
open Go.AM Go.AX
set_option linter.unusedVariables false
set_option maxRecDepth 20000
theorem ok_erasure_Decode (have1:(List (List UInt8))) (data2:Int) (r:((List (List UInt8))×Int)) (hX:X.erasure_Decode have1 data2=some r):Fun Try.prog 42 [Enc.v (have1:(List (List UInt8))),Enc.v (data2:Int)] (·= .tup 2 (ofL [Enc.v r.1,Enc.v r.2])):=by
 refine Fun.of b42 (Nat.le_of_ble_eq_true rfl) (allVal.mem ⟨(by exact (v_val _)),(by exact (v_val _)),trivial⟩) ?_
 unfold k42
 have nd:Nd []:=Nd_nil
 unfold X.erasure_Decode at hX
 refine SR fun K3 hK3=>M rfl rfl (M rfl rfl (TL.nil (hK3 _ _ (SR fun K4 hK4=>M rfl rfl (TL.nil (hK4 _ _ ?_))))))
 refine TK.ownL (α:=(List UInt8)) 6 25 nd rfl (.inl rfl) fun b5 nd=>?_
 refine TK.seq_k fun K6 hK6=>?_
 refine SR fun K7 hK7=>M rfl rfl (P1 (p_lenL (xs:=have1) kd22 rfl) rfl rfl (M rfl rfl (TL.nil (hK7 _ _ ?_))))
 refine TK.block ?_
 obtain ⟨o8,hO8,hA8⟩:=bind_some hX
 have E8:∀(l13:List (List UInt8)) (env:Env) (h:Hp),(∃b12,keepE [0,1,6] env=[(0,true,Enc.v have1),(1,true,Enc.v data2),(6,true,OL b12 l13)]∧Nd [(b12,RL (α:=(List UInt8)) 25 l13)]∧HSub [(b12,RL (α:=(List UInt8)) 25 l13)] h)→X.erasure_Decode_e8 data2 have1 l13=some r→K6 env h:=by
  intro l13 env h hE hX
  obtain ⟨b12,henv,nd,hs⟩:=hE
  unfold X.erasure_Decode_e8 at hX
  refine hK6 _ _ (TK.keep [0,1,6] ?_)
  rw[henv]
  refine TK.subH hs ?_
  refine TK.seq_k fun K14 hK14=>?_
  refine TK.block ?_
  refine SR fun K15 hK15=>M rfl rfl (P1 (p_lss rfl rfl) rfl rfl (M rfl rfl ?_))
  refine TLc.p (gc:=(!((decide (data2<(1:Int)))))) (p_mv rfl (hg:=fun e=>rfl)) (gcF1 rfl) rfl ?_
  refine TLc.p (gc:=(!((decide (data2<(1:Int)))))) (p_mv rfl (hg:=fun e=>rfl)) (gcF1 rfl) rfl ?_
  refine TLc.p (gc:=(!((decide (data2<(1:Int)))))) (p_lenL (xs:=have1) kd22 rfl (hg:=fun e=>e)) (gcF1 rfl) rfl ?_
  refine TLc.p (gc:=(!((decide (data2<(1:Int)))))) (p_gtr rfl rfl (hg:=fun e=>⟨e,e⟩)) (gcF1 rfl) rfl ?_
  refine P1 (p_or rfl rfl (fun e=>⟨rfl,fun h=>(not_t h)⟩)) rfl rfl (M rfl rfl ?_)
  refine TLc.p (gc:=(!(((decide (data2<(1:Int)))||(decide (data2>(have1.length:Int))))))) (p_mv rfl (hg:=fun e=>rfl)) (gcF1 rfl) rfl ?_
  refine TLc.p (gc:=(!(((decide (data2<(1:Int)))||(decide (data2>(have1.length:Int))))))) (p_lenL (xs:=have1) kd22 rfl (hg:=fun e=>e)) (gcF1 rfl) rfl ?_
  refine TLc.p (gc:=(!(((decide (data2<(1:Int)))||(decide (data2>(have1.length:Int))))))) (p_gtr rfl rfl (hg:=fun e=>⟨e,rfl⟩)) (gcF1 rfl) rfl ?_
  refine P1 (p_or rfl rfl (fun e=>⟨rfl,fun h=>(not_t h)⟩)) rfl rfl (M rfl rfl ?_)
  refine TLc.p (gc:=(!((((decide (data2<(1:Int)))||(decide (data2>(have1.length:Int))))||(decide ((have1.length:Int)>(255:Int))))))) (p_mv rfl (hg:=fun e=>rfl)) (gcF1 rfl) rfl ?_
  refine TLc.p (gc:=(!((((decide (data2<(1:Int)))||(decide (data2>(have1.length:Int))))||(decide ((have1.length:Int)>(255:Int))))))) (p_lenR kd22 rfl (fun _=>refOK_of nd (j:=0) rfl rfl) (hg:=fun e=>e)) (gcF1 rfl) rfl ?_
  refine TLc.p (gc:=(!((((decide (data2<(1:Int)))||(decide (data2>(have1.length:Int))))||(decide ((have1.length:Int)>(255:Int))))))) (p_eql rfl rfl (hg:=fun e=>⟨e,rfl⟩)) (gcF1 rfl) rfl ?_
  refine P1 (p_or rfl rfl (fun e=>⟨rfl,fun h=>(not_t h)⟩)) rfl rfl (M rfl rfl ?_)
  refine TLc.p (gc:=(!(((((decide (data2<(1:Int)))||(decide (data2>(have1.length:Int))))||(decide ((have1.length:Int)>(255:Int))))||((l13.length:Int)==(0:Int)))))) (p_mv rfl (hg:=fun e=>rfl)) (gcF1 rfl) rfl ?_
  obtain ⟨r16,hr16,hX⟩:=bind_some hX
  refine TL.lookX [L l13] (gcF1 rfl) rfl rfl (fun e=>⟨rfl,⟨e,trivial⟩⟩) ⟨look_OL nd (j:=0) rfl,trivial⟩ (fun e=>ok_erasure_alike l13 _ (optG_t hr16 e)) (trivial) ?_
  refine TLc.p (gc:=(!(((((decide (data2<(1:Int)))||(decide (data2>(have1.length:Int))))||(decide ((have1.length:Int)>(255:Int))))||((l13.length:Int)==(0:Int)))))) (p_not rfl (hg:=fun e=>e)) (gcF1 rfl) rfl ?_
  refine P1 (p_or rfl rfl (fun e=>⟨rfl,fun h=>(not_t h)⟩)) rfl rfl (M rfl rfl (TL.nil (hK15 _ _ ?_)))
  refine TK.cond (b:=(((((decide (data2<(1:Int)))||(decide (data2>(have1.length:Int))))||(decide ((have1.length:Int)>(255:Int))))||((l13.length:Int)==(0:Int)))||(!r16))) rfl (fun hc=>?_) (fun hc=>?_)
  ·have hX:=ite_t hc hX
   refine SR fun K17 hK17=>M rfl rfl (M rfl rfl (TL.nil (hK17 _ _ ?_)))
   refine TK.wk 4 (L ([]:(List (List UInt8)))) rfl Wk_nil ?_
   refine TK.ret ?_
   try dsimp only[thenQ]
   exact retN (vs:=[Enc.v (([]:(List (List UInt8))):(List (List UInt8))),Enc.v ((1:Int):Int)]) ⟨rfl,rfl,trivial⟩ (by obtain rfl:=some_in hX;rfl) (allVal.mem ⟨v_val _,v_val _,trivial⟩)
  ·have hX:=ite_f hc hX
   refine SR fun K18 hK18=>M rfl rfl (P1 (p_lenR kd22 rfl (fun _=>refOK_of nd (j:=0) rfl rfl)) rfl rfl (M rfl rfl (P1 (p_lss rfl rfl) rfl rfl (M rfl rfl (TL.nil (hK18 _ _ ?_))))))
   refine TK.cond (b:=(decide ((l13.length:Int)<data2))) rfl (fun hc=>?_) (fun hc=>?_)
   ·have hX:=ite_t hc hX
    refine SR fun K19 hK19=>M rfl rfl (M rfl rfl (TL.nil (hK19 _ _ ?_)))
    refine TK.wk 4 (L ([]:(List (List UInt8)))) rfl Wk_nil ?_
    refine TK.ret ?_
    try dsimp only[thenQ]
    exact retN (vs:=[Enc.v (([]:(List (List UInt8))):(List (List UInt8))),Enc.v ((10:Int):Int)]) ⟨rfl,rfl,trivial⟩ (by obtain rfl:=some_in hX;rfl) (allVal.mem ⟨v_val _,v_val _,trivial⟩)
   ·have hX:=ite_f hc hX
    refine TK.skip ?_
    refine hK14 _ _ (SR fun K20 hK20=>M rfl rfl (TL.nil (hK20 _ _ ?_)))
    refine TK.ownL (α:=(List UInt8)) 9 25 nd rfl (.inl rfl) fun b21 nd=>?_
    refine TK.seq_k fun K22 hK22=>?_
    refine SR fun K23 hK23=>M rfl rfl (M rfl rfl (P1 (p_lenL (xs:=have1) kd22 rfl) rfl rfl ?_))
    obtain ⟨r24,hr24,hX⟩:=bind_some hX
    refine TL.cvX rfl rfl rfl (fun _=>⟨rfl,⟨rfl,⟨rfl,trivial⟩⟩⟩) (fun e=>ok_erasure_rows data2 (have1.length:Int) _ hr24) ?_
    refine P1 (p_lenL (xs:=r24) kd22 rfl) rfl rfl (M rfl rfl (TL.nil (hK23 _ _ ?_)))
    refine TK.block ?_
    obtain ⟨o25,hO25,hA25⟩:=bind_some hX
    have E25:∀(l32:List (List UInt8)) (env:Env) (h:Hp),(∃b30 b31,keepE [1,6,9] env=[(1,true,Enc.v data2),(6,true,OL b30 l13),(9,true,OL b31 l32)]∧Nd [(b30,RL (α:=(List UInt8)) 25 l13),(b31,RL (α:=(List UInt8)) 25 l32)]∧HSub [(b30,RL (α:=(List UInt8)) 25 l13),(b31,RL (α:=(List UInt8)) 25 l32)] h)→X.erasure_Decode_e25 data2 l13 l32=some r→K22 env h:=by
     intro l32 env h hE hX
     obtain ⟨b30,b31,henv,nd,hs⟩:=hE
     unfold X.erasure_Decode_e25 at hX
     refine hK22 _ _ (TK.keep [1,6,9] ?_)
     rw[henv]
     refine TK.subH hs ?_
     refine SR fun K33 hK33=>M rfl rfl ?_
     refine TL.lay [(85,L l32)] nd (j:=1) rfl ⟨⟨_,rfl,fix_OL nd (j:=1) rfl,rfl⟩,trivial⟩ fun nd=>?_
     obtain ⟨r34,hr34,hX⟩:=bind_some hX
     refine TL.cvX rfl rfl rfl (fun _=>⟨rfl,⟨rfl,trivial⟩⟩) (fun e=>ok_matrix_Inverse l32 _ hr34) ?_
     refine M rfl rfl (P1 (p_ex rfl rfl Dc) rfl rfl (P1 (p_ex rfl rfl Dc) rfl rfl (M rfl rfl (M rfl rfl (TL.nil (hK33 _ _ ?_))))))
     refine TK.seq_k fun K35 hK35=>?_
     refine SR fun K36 hK36=>M rfl rfl (P1 (p_neq rfl rfl) rfl rfl (TL.nil (hK36 _ _ ?_)))
     refine TK.cond (b:=(r34.2 !=(0:Int))) rfl (fun hc=>?_) (fun hc=>?_)
     ·have hX:=ite_t hc hX
      refine SR fun K37 hK37=>M rfl rfl (M rfl rfl (M rfl rfl (TL.nil (hK37 _ _ ?_))))
      refine TK.wk 4 (L ([]:(List (List UInt8)))) rfl Wk_nil ?_
      refine TK.ret ?_
      try dsimp only[thenQ]
      exact retN (vs:=[Enc.v (([]:(List (List UInt8))):(List (List UInt8))),Enc.v r34.2]) ⟨rfl,rfl,trivial⟩ (by obtain rfl:=some_in hX;rfl) (allVal.mem ⟨v_val _,v_val _,trivial⟩)
     ·have hX:=ite_f hc hX
      refine TK.skip ?_
      refine hK35 _ _ (SR fun K38 hK38=>M rfl rfl (M rfl rfl (M rfl rfl ?_)))
      obtain ⟨u39,hu39,hX⟩:=bind_some hX
      refine P1 (p_sliO (xs:=l13) (l:=(0:Int)) (k:=data2) kd22 ty25 rfl rfl nd (j:=0) rfl rfl rfl (fun e=>need_t hu39)) rfl rfl ?_
      refine TL.lay [(95,L (slc l13 (0:Int) data2))] nd (j:=0) rfl ⟨⟨_,rfl,fix_OS nd (j:=0) rfl (need_t hu39).1,rfl⟩,trivial⟩ fun nd=>?_
      obtain ⟨r40,hr40,hX⟩:=bind_some hX
      refine TL.cvX rfl rfl rfl (fun _=>⟨rfl,⟨rfl,⟨rfl,trivial⟩⟩⟩) (fun e=>ok_erasure_reckon r34.1 (slc l13 (0:Int) data2) _ hr40) ?_
      refine M rfl rfl (M rfl rfl (TL.nil (hK38 _ _ ?_)))
      refine TK.ret ?_
      try dsimp only[thenQ]
      exact retN (vs:=[Enc.v r40,Enc.v ((0:Int):Int)]) ⟨rfl,rfl,trivial⟩ (by obtain rfl:=some_in hX;rfl) (allVal.mem ⟨v_val _,v_val _,trivial⟩)
    refine TK.iter [0,1,6,9,60,61,62] (fun s env h=>match s with|(m28,x29)=>∃b26 b27,env=[(0,true,Enc.v have1),(1,true,Enc.v data2),(6,true,OL b26 l13),(9,true,OL b27 m28),(60,true,Enc.v r24),(61,true,Enc.v ((r24.length:Int):Int)),(62,true,Enc.v x29)]∧Nd [(b26,RL (α:=(List UInt8)) 25 l13),(b27,RL (α:=(List UInt8)) 25 m28)]∧HSub [(b26,RL (α:=(List UInt8)) 25 l13),(b27,RL (α:=(List UInt8)) 25 m28)] h) hO25 ⟨b12,b21,rfl,(Nd.pick nd (is:=[1,0]) Dc),(HSub.pick nd (is:=[1,0]) Dc)⟩ ?_
    rintro ⟨m28,x29⟩ env h x25x ⟨b26,b27,rfl,nd,hs⟩ hX hR25
    refine TK.subH hs ?_
    unfold X.erasure_Decode_s25 at hX
    try dsimp only at hX
    refine SR fun K41 hK41=>P1 (p_lss rfl rfl) rfl rfl (TL.nil (hK41 _ _ ?_))
    refine TK.seq_k fun K42 hK42=>?_
    refine TK.cond (b:=(decide (x29<(r24.length:Int)))) rfl (fun hc=>?_) (fun hc=>?_)
    ·have hX:=ite_t hc hX
     refine TK.skip ?_
     refine hK42 _ _ ?_
     refine TK.seq_k fun K43 hK43=>?_
     refine TK.block ?_
     refine SR fun K44 hK44=>M rfl rfl ?_
     obtain ⟨e45,he45,hX⟩:=bind_some hX
     refine P1 (p_iaL (xs:=r24) kd22 ty25 rfl rfl rfl (fun _=>he45)) rfl rfl (P1 (p_ldE (xs:=r24) (a:=e45) (e45:(List UInt8)) ty25 rfl rfl (fun _=>he45) rfl rfl rfl) rfl rfl (M rfl rfl (M rfl rfl (TL.nil (hK44 _ _ (SR fun K46 hK46=>M rfl rfl (M rfl rfl ?_)))))))
     obtain ⟨e47,he47,hX⟩:=bind_some hX
     refine P1 (p_iaL (xs:=have1) kd22 ty25 rfl rfl rfl (fun _=>he47)) rfl rfl (P1 (p_ldE (xs:=have1) (a:=e47) (e47:(List UInt8)) ty25 rfl rfl (fun _=>he47) rfl rfl rfl) rfl rfl (P1 (p_lenL (xs:=e47) kd25 rfl) rfl rfl (P1 (p_gtr rfl rfl) rfl rfl (M rfl rfl ?_))))
     refine TLc.p (gc:=((decide ((e47.length:Int)>(0:Int))))) (p_mv rfl (hg:=fun e=>rfl)) (gcT1 rfl) rfl ?_
     refine TLc.p (gc:=((decide ((e47.length:Int)>(0:Int))))) (p_lenR kd22 rfl (fun _=>refOK_of nd (j:=1) rfl rfl) (hg:=fun e=>e)) (gcT1 rfl) rfl ?_
     refine TLc.p (gc:=((decide ((e47.length:Int)>(0:Int))))) (p_mv rfl (hg:=fun e=>rfl)) (gcT1 rfl) rfl ?_
     refine TLc.p (gc:=((decide ((e47.length:Int)>(0:Int))))) (p_lss rfl rfl (hg:=fun e=>⟨e,e⟩)) (gcT1 rfl) rfl ?_
     refine P1 (p_and rfl rfl (fun e=>⟨rfl,fun h=>h⟩)) rfl rfl (TL.nil (hK46 _ _ ?_))
     refine TK.cond (b:=((decide ((e47.length:Int)>(0:Int)))&&(decide ((m28.length:Int)<data2)))) rfl (fun hc=>?_) (fun hc=>?_)
     ·have hX:=ite_t hc hX
      refine TK.reg ?_
      refine M rfl rfl (M rfl rfl ?_)
      refine TLc.lit ([e45]:List (List UInt8)) kd22 ty25 rfl ⟨⟨rfl,rfl⟩,trivial⟩ rfl rfl rfl ?_
      obtain ⟨u48,hu48,hX⟩:=bind_some hX
      refine TLc.appO nd kd22 bo22 ty25 rfl rfl (j:=1) rfl rfl (Src_L _) Dc (need_t hu48) rfl fun nd=>?_
      refine M rfl rfl (TL.nil (hK43 _ _ ?_))
      refine TK.reg ?_
      refine P1 (p_add rfl rfl) rfl rfl (M rfl rfl (TL.nil ?_))
      exact ⟨_,(some_in hX).symm,b26,b27,rfl,(Nd.pick nd (is:=[0,1]) Dc),(HSub.pick nd (is:=[0,1]) Dc)⟩
     ·have hX:=ite_f hc hX
      refine TK.skip ?_
      refine hK43 _ _ ?_
      refine TK.reg ?_
      refine P1 (p_add rfl rfl) rfl rfl (M rfl rfl (TL.nil ?_))
      exact ⟨_,(some_in hX).symm,b26,b27,rfl,(Nd.pick nd (is:=[0,1]) Dc),(HSub.pick nd (is:=[0,1]) Dc)⟩
    ·have hX:=ite_f hc hX
     refine TK.exit ?_
     obtain rfl:=hR25 _ (some_in hX).symm
     exact E25 m28 _ _ ⟨b26,b27,rfl,(Nd.pick nd (is:=[0,1]) Dc),(HSub.pick nd (is:=[0,1]) Dc)⟩ hA25
 refine TK.iter [0,1,6,14,15,16] (fun s env h=>match s with|(there10,x11)=>∃b9,env=[(0,true,Enc.v have1),(1,true,Enc.v data2),(6,true,OL b9 there10),(14,true,Enc.v have1),(15,true,Enc.v ((have1.length:Int):Int)),(16,true,Enc.v x11)]∧Nd [(b9,RL (α:=(List UInt8)) 25 there10)]∧HSub [(b9,RL (α:=(List UInt8)) 25 there10)] h) hO8 ⟨b5,rfl,(Nd.pick nd (is:=[0]) Dc),(HSub.pick nd (is:=[0]) Dc)⟩ ?_
 rintro ⟨there10,x11⟩ env h x8x ⟨b9,rfl,nd,hs⟩ hX hR8
 refine TK.subH hs ?_
 unfold X.erasure_Decode_s8 at hX
 try dsimp only at hX
 refine SR fun K49 hK49=>P1 (p_lss rfl rfl) rfl rfl (TL.nil (hK49 _ _ ?_))
 refine TK.seq_k fun K50 hK50=>?_
 refine TK.cond (b:=(decide (x11<(have1.length:Int)))) rfl (fun hc=>?_) (fun hc=>?_)
 ·have hX:=ite_t hc hX
  refine TK.skip ?_
  refine hK50 _ _ ?_
  refine TK.seq_k fun K51 hK51=>?_
  refine TK.block ?_
  refine SR fun K52 hK52=>?_
  obtain ⟨e53,he53,hX⟩:=bind_some hX
  refine P1 (p_iaL (xs:=have1) kd22 ty25 rfl rfl rfl (fun _=>he53)) rfl rfl (P1 (p_ldE (xs:=have1) (a:=e53) (e53:(List UInt8)) ty25 rfl rfl (fun _=>he53) rfl rfl rfl) rfl rfl (M rfl rfl (TL.nil (hK52 _ _ (SR fun K54 hK54=>M rfl rfl (P1 (p_lenL (xs:=e53) kd25 rfl) rfl rfl (P1 (p_gtr rfl rfl) rfl rfl (TL.nil (hK54 _ _ ?_)))))))))
  refine TK.cond (b:=(decide ((e53.length:Int)>(0:Int)))) rfl (fun hc=>?_) (fun hc=>?_)
  ·have hX:=ite_t hc hX
   refine TK.reg ?_
   refine M rfl rfl (M rfl rfl ?_)
   refine TLc.lit ([e53]:List (List UInt8)) kd22 ty25 rfl ⟨⟨rfl,rfl⟩,trivial⟩ rfl rfl rfl ?_
   obtain ⟨u55,hu55,hX⟩:=bind_some hX
   refine TLc.appO nd kd22 bo22 ty25 rfl rfl (j:=0) rfl rfl (Src_L _) Dc (need_t hu55) rfl fun nd=>?_
   refine M rfl rfl (TL.nil (hK51 _ _ ?_))
   refine TK.reg ?_
   refine P1 (p_add rfl rfl) rfl rfl (M rfl rfl (TL.nil ?_))
   exact ⟨_,(some_in hX).symm,b9,rfl,(Nd.pick nd (is:=[0]) Dc),(HSub.pick nd (is:=[0]) Dc)⟩
  ·have hX:=ite_f hc hX
   refine TK.skip ?_
   refine hK51 _ _ ?_
   refine TK.reg ?_
   refine P1 (p_add rfl rfl) rfl rfl (M rfl rfl (TL.nil ?_))
   exact ⟨_,(some_in hX).symm,b9,rfl,(Nd.pick nd (is:=[0]) Dc),(HSub.pick nd (is:=[0]) Dc)⟩
 ·have hX:=ite_f hc hX
  refine TK.exit ?_
  obtain rfl:=hR8 _ (some_in hX).symm
  exact E8 there10 _ _ ⟨b9,rfl,(Nd.pick nd (is:=[0]) Dc),(HSub.pick nd (is:=[0]) Dc)⟩ hA8
theorem ok_mend_Block (l1:(List Tape_api)) (s2:Seal_api) (label3:Int) (n4:Int) (r:((List UInt8)×Int)) (hX:X.mend_Block l1 s2 label3 n4=some r):Fun Try.prog 35 [Enc.v (l1:(List Tape_api)),Enc.v (s2:Seal_api),Enc.v (label3:Int),Enc.v (n4:Int)] (·= .tup 2 (ofL [Enc.v r.1,Enc.v r.2])):=by
 refine Fun.of b35 (Nat.le_of_ble_eq_true rfl) (allVal.mem ⟨(by exact (v_val _)),(by exact (v_val _)),(by exact (v_val _)),(by exact (v_val _)),trivial⟩) ?_
 unfold k35
 have nd:Nd []:=Nd_nil
 unfold X.mend_Block at hX
 refine SR fun K5 hK5=>?_
 refine TLc.boxV (lu:=[Enc.v s2.Number,Enc.v s2.Index,Enc.v s2.Data,Enc.v s2.Parity,Enc.v s2.Labels]) nd rfl (Cells_v (s2:Seal_api)) rfl ?_
 refine M rfl rfl (M rfl rfl (TL.nil (hK5 _ _ (SR fun K6 hK6=>P1 (p_ldRa (l':=Enc.cl (s2:Seal_api)) ty50 rfl rfl rfl rfl rfl (Nat.le_of_ble_eq_true rfl)) rfl rfl (M rfl rfl ?_)))))
 obtain ⟨r7,hr7,hX⟩:=bind_some hX
 refine TL.cvX rfl rfl rfl (fun _=>⟨rfl,⟨rfl,⟨rfl,trivial⟩⟩⟩) (fun e=>ok_mend_place s2 label3 _ hr7) ?_
 refine M rfl rfl (P1 (p_ex rfl rfl Dc) rfl rfl (P1 (p_ex rfl rfl Dc) rfl rfl (M rfl rfl (M rfl rfl (TL.nil (hK6 _ _ ?_))))))
 refine TK.seq_k fun K8 hK8=>?_
 refine SR fun K9 hK9=>M rfl rfl (P1 (p_not rfl) rfl rfl (TL.nil (hK9 _ _ ?_)))
 refine TK.cond (b:=(!r7.2)) rfl (fun hc=>?_) (fun hc=>?_)
 ·have hX:=ite_t hc hX
  refine SR fun K10 hK10=>M rfl rfl (M rfl rfl (TL.nil (hK10 _ _ ?_)))
  refine TK.wk 8 (L ([]:(List UInt8))) rfl Wk_nil ?_
  refine TK.ret ?_
  try dsimp only[thenQ]
  exact retN (vs:=[Enc.v (([]:(List UInt8)):(List UInt8)),Enc.v ((1:Int):Int)]) ⟨rfl,rfl,trivial⟩ (by obtain rfl:=some_in hX;rfl) (allVal.mem ⟨v_val _,v_val _,trivial⟩)
 ·have hX:=ite_f hc hX
  refine TK.skip ?_
  refine hK8 _ _ (SR fun K11 hK11=>M rfl rfl (P1 (p_ldRa (l':=Enc.cl (s2:Seal_api)) ty50 rfl rfl rfl rfl rfl (Nat.le_of_ble_eq_true rfl)) rfl rfl ?_))
  obtain ⟨r12,hr12,hX⟩:=bind_some hX
  refine TL.cvX rfl rfl rfl (fun _=>⟨rfl,⟨rfl,⟨rfl,trivial⟩⟩⟩) (fun e=>ok_mend_rows l1 s2 _ hr12) ?_
  refine M rfl rfl (P1 (p_ex rfl rfl Dc) rfl rfl (P1 (p_ex rfl rfl Dc) rfl rfl (M rfl rfl (M rfl rfl (TL.nil (hK11 _ _ ?_))))))
  refine TK.seq_k fun K13 hK13=>?_
  refine TK.block ?_
  refine SR fun K14 hK14=>M rfl rfl (P1 (p_not rfl) rfl rfl (M rfl rfl (TL.nil (hK14 _ _ ?_))))
  refine TK.cond (b:=(!r12.2)) rfl (fun hc=>?_) (fun hc=>?_)
  ·have hX:=ite_t hc hX
   refine SR fun K15 hK15=>M rfl rfl (M rfl rfl (TL.nil (hK15 _ _ ?_)))
   refine TK.wk 8 (L ([]:(List UInt8))) rfl Wk_nil ?_
   refine TK.ret ?_
   try dsimp only[thenQ]
   exact retN (vs:=[Enc.v (([]:(List UInt8)):(List UInt8)),Enc.v ((10:Int):Int)]) ⟨rfl,rfl,trivial⟩ (by obtain rfl:=some_in hX;rfl) (allVal.mem ⟨v_val _,v_val _,trivial⟩)
  ·have hX:=ite_f hc hX
   refine SR fun K16 hK16=>M rfl rfl (P1 (p_lss rfl rfl) rfl rfl (M rfl rfl ?_))
   refine TLc.p (gc:=(!((decide (n4<(0:Int)))))) (p_mv rfl (hg:=fun e=>rfl)) (gcF1 rfl) rfl ?_
   refine TLc.p (gc:=(!((decide (n4<(0:Int)))))) (p_mv rfl (hg:=fun e=>rfl)) (gcF1 rfl) rfl ?_
   refine TLc.p (gc:=(!((decide (n4<(0:Int)))))) (p_geq rfl rfl (hg:=fun e=>⟨e,e⟩)) (gcF1 rfl) rfl ?_
   refine P1 (p_or rfl rfl (fun e=>⟨rfl,fun h=>(not_t h)⟩)) rfl rfl (M rfl rfl (TL.nil (hK16 _ _ ?_)))
   refine TK.cond (b:=((decide (n4<(0:Int)))||(decide (n4≥r12.1)))) rfl (fun hc=>?_) (fun hc=>?_)
   ·have hX:=ite_t hc hX
    refine SR fun K17 hK17=>M rfl rfl (M rfl rfl (TL.nil (hK17 _ _ ?_)))
    refine TK.wk 8 (L ([]:(List UInt8))) rfl Wk_nil ?_
    refine TK.ret ?_
    try dsimp only[thenQ]
    exact retN (vs:=[Enc.v (([]:(List UInt8)):(List UInt8)),Enc.v ((5:Int):Int)]) ⟨rfl,rfl,trivial⟩ (by obtain rfl:=some_in hX;rfl) (allVal.mem ⟨v_val _,v_val _,trivial⟩)
   ·have hX:=ite_f hc hX
    refine TK.skip ?_
    refine hK13 _ _ ?_
    refine TK.seq_k fun K18 hK18=>?_
    have ndS:Nd []:=Nd.pick nd (is:=[]) Dc
    refine TK.drwX (h:=[]) (hS:=[]) [(0,0),(0,1),(0,2),(0,3),(0,4),(0,5),(0,6),(0,7),(0,8),(0,9),(0,10),(0,11)] mixed (by kernel_rfl) (HSub_app nd) ?_
    refine DM rfl rfl rfl ?_
    refine D0 rfl (p_ldRa (l':=Enc.cl (s2:Seal_api)) ty50 rfl rfl rfl rfl rfl (Nat.le_of_ble_eq_true rfl)) rfl rfl ?_
    refine DM rfl rfl rfl ?_
    obtain ⟨r19,hr19,hX⟩:=bind_some hX
    refine DR0 (gc:=true) rfl (vok_c rfl (fun _=>⟨rfl,⟨rfl,⟨rfl,⟨rfl,trivial⟩⟩⟩⟩) (fun e=>ok_mend_row l1 s2 n4 _ hr19)) rfl rfl ?_
    refine D0 rfl (p_faR fs50_2 Dc rfl) rfl rfl ?_
    refine D0 rfl (p_ldR (v:=Enc.v s2.Data) ty3 rfl rfl rfl rfl rfl rfl) rfl rfl ?_
    obtain ⟨r20,hr20,hX⟩:=bind_some hX
    refine DR0 (gc:=true) rfl (vok_c rfl (fun _=>⟨rfl,⟨rfl,⟨rfl,trivial⟩⟩⟩) (fun e=>ok_erasure_Decode r19 s2.Data _ hr20)) rfl rfl ?_
    refine DM rfl rfl rfl ?_
    refine D0 rfl (p_ex rfl rfl Dc) rfl rfl ?_
    refine D0 rfl (p_ex rfl rfl Dc) rfl rfl ?_
    refine DM rfl rfl rfl ?_
    refine DM rfl rfl rfl ?_
    refine DRend ?_
    refine hK18 _ _ ?_
    refine TK.seq_k fun K21 hK21=>?_
    refine SR fun K22 hK22=>M rfl rfl (P1 (p_neq rfl rfl) rfl rfl (TL.nil (hK22 _ _ ?_)))
    refine TK.cond (b:=(r20.2 !=(0:Int))) rfl (fun hc=>?_) (fun hc=>?_)
    ·have hX:=ite_t hc hX
     refine SR fun K23 hK23=>M rfl rfl (M rfl rfl (TL.nil (hK23 _ _ ?_)))
     refine TK.wk 8 (L ([]:(List UInt8))) rfl Wk_nil ?_
     refine TK.ret ?_
     try dsimp only[thenQ]
     exact retN (vs:=[Enc.v (([]:(List UInt8)):(List UInt8)),Enc.v ((10:Int):Int)]) ⟨rfl,rfl,trivial⟩ (by obtain rfl:=some_in hX;rfl) (allVal.mem ⟨v_val _,v_val _,trivial⟩)
    ·have hX:=ite_f hc hX
     refine TK.skip ?_
     refine hK21 _ _ (SR fun K24 hK24=>M rfl rfl (M rfl rfl ?_))
     obtain ⟨e25,he25,hX⟩:=bind_some hX
     refine P1 (p_iaL (xs:=r20.1) kd22 ty25 rfl rfl rfl (fun _=>he25)) rfl rfl (P1 (p_ldE (xs:=r20.1) (a:=e25) (e25:(List UInt8)) ty25 rfl rfl (fun _=>he25) rfl rfl rfl) rfl rfl ?_)
     obtain ⟨r26,hr26,hX⟩:=bind_some hX
     refine TL.cvX rfl rfl rfl (fun _=>⟨rfl,⟨rfl,trivial⟩⟩) (fun e=>ok_slices_Clone_Lbyte_byte e25 _ hr26) ?_
     refine M rfl rfl (M rfl rfl (TL.nil (hK24 _ _ ?_)))
     refine TK.ret ?_
     try dsimp only[thenQ]
     exact retN (vs:=[Enc.v r26,Enc.v ((0:Int):Int)]) ⟨rfl,rfl,trivial⟩ (by obtain rfl:=some_in hX;rfl) (allVal.mem ⟨v_val _,v_val _,trivial⟩)
theorem ok_cartridgeref1_Writer_Byte (c4:UInt8) (B1:(List UInt8)) (b2:Nat) (b3:Nat) (nd:Nd [(b2,RV 102 [OL (α:=UInt8) b3 B1]),(b3,RL (α:=UInt8) 5 B1)]) (r:(List UInt8)) (hX:X.cartridgeref1_Writer_Byte c4 B1=some r):TCX Try.prog 62 [.ref b2 0 1,Enc.v (c4:UInt8)] [(b2,RV 102 [OL (α:=UInt8) b3 B1]),(b3,RL (α:=UInt8) 5 B1)] (fun rv h'=>∃b7,rv= .tup 0 (ofL [])∧h'=[(b2,RV 102 [OL (α:=UInt8) b7 r]),(b7,RL (α:=UInt8) 5 r)]):=by
 refine TCX.of b62 (Nat.le_of_ble_eq_true rfl) ?_
 unfold k62
 unfold X.cartridgeref1_Writer_Byte at hX
 refine TK.endK fun KE hKE=>?_
 refine TK.reg ?_
 refine M rfl rfl (M rfl rfl (P1 (p_ncR rfl (fun _=>refOK_of nd (j:=0) rfl rfl)) rfl rfl (P1 (p_faV fs102_0 Dc rfl nd (j:=0) rfl rfl) rfl rfl (P1 (p_ldV (v:=OL b3 B1) ty25 rfl rfl nd (j:=0) rfl rfl rfl rfl rfl) rfl rfl (M rfl rfl ?_)))))
 refine TLc.lit ([c4]:List UInt8) kd25 ty5 rfl ⟨⟨rfl,rfl⟩,trivial⟩ rfl rfl rfl ?_
 obtain ⟨u5,hu5,hX⟩:=bind_some hX
 refine TLc.appO nd kd25 bo25 ty5 rfl rfl (j:=1) rfl rfl (Src_L _) Dc (need_t hu5) rfl fun nd=>?_
 refine P1 (p_ncR rfl (fun _=>refOK_of nd (j:=0) rfl rfl)) rfl rfl (P1 (p_faV fs102_0 Dc rfl nd (j:=0) rfl rfl) rfl rfl ?_)
 refine TLc.stV (lu:=[OL (α:=UInt8) b3 (B1++([c4]:List UInt8))]) nd ty25 rfl (j:=0) rfl rfl rfl (Cells_rs (refOK_of nd (j:=1) rfl rfl)) rfl rfl [OL (α:=UInt8) b3 (B1++([c4]:List UInt8))] rfl fun nd=>?_
 refine TL.nil (hKE _ _ (TL.nil ?_))
 try dsimp only[thenQ]
 refine RetQ_end ?_
 exact retX (v:= .tup 0 (ofL [])) res0 (by obtain rfl:=some_in hX;exact ⟨b3,rfl,rfl⟩) nd (inH_tup (l:=[]) trivial) ⟨rowIn_RV ⟨inH_rs nd (j:=1) rfl,trivial⟩,rowIn_RL,trivial⟩
theorem ok_cartridgeref1_Writer_Int (n4:Int) (B1:(List UInt8)) (b2:Nat) (b3:Nat) (nd:Nd [(b2,RV 102 [OL (α:=UInt8) b3 B1]),(b3,RL (α:=UInt8) 5 B1)]) (r:(List UInt8)) (hX:X.cartridgeref1_Writer_Int n4 B1=some r):TCX Try.prog 63 [.ref b2 0 1,Enc.v (n4:Int)] [(b2,RV 102 [OL (α:=UInt8) b3 B1]),(b3,RL (α:=UInt8) 5 B1)] (fun rv h'=>∃b8,rv= .tup 0 (ofL [])∧h'=[(b2,RV 102 [OL (α:=UInt8) b8 r]),(b8,RL (α:=UInt8) 5 r)]):=by
 refine TCX.of b63 (Nat.le_of_ble_eq_true rfl) ?_
 unfold k63
 unfold X.cartridgeref1_Writer_Int at hX
 refine TK.endK fun KE hKE=>?_
 refine SR fun K5 hK5=>M rfl rfl (P1 (p_cvt src3 kd145 rfl (cv_u64 _)) rfl rfl (M rfl rfl (TL.nil (hK5 _ _ ?_))))
 refine TK.reg ?_
 refine M rfl rfl (M rfl rfl (P1 (p_ncR rfl (fun _=>refOK_of nd (j:=0) rfl rfl)) rfl rfl (P1 (p_faV fs102_0 Dc rfl nd (j:=0) rfl rfl) rfl rfl (P1 (p_ldV (v:=OL b3 B1) ty25 rfl rfl nd (j:=0) rfl rfl rfl rfl rfl) rfl rfl (M rfl rfl (P1 (pu64_shr (a:=(u64 n4)) (b:=24) rfl rfl) rfl rfl (P1 (pu64_and (a:=(shru64 (u64 n4) 24)) (b:=(255:UInt64)) rfl rfl) rfl rfl ?_)))))))
 refine P1 (p_cvt src145 kd5 rfl (cv_u8 _)) rfl rfl (M rfl rfl (P1 (pu64_shr (a:=(u64 n4)) (b:=16) rfl rfl) rfl rfl (P1 (pu64_and (a:=(shru64 (u64 n4) 16)) (b:=(255:UInt64)) rfl rfl) rfl rfl (P1 (p_cvt src145 kd5 rfl (cv_u8 _)) rfl rfl (M rfl rfl (P1 (pu64_shr (a:=(u64 n4)) (b:=8) rfl rfl) rfl rfl (P1 (pu64_and (a:=(shru64 (u64 n4) 8)) (b:=(255:UInt64)) rfl rfl) rfl rfl ?_)))))))
 refine P1 (p_cvt src145 kd5 rfl (cv_u8 _)) rfl rfl (M rfl rfl (P1 (pu64_and (a:=(u64 n4)) (b:=(255:UInt64)) rfl rfl) rfl rfl (P1 (p_cvt src145 kd5 rfl (cv_u8 _)) rfl rfl ?_)))
 refine TLc.lit ([(u8 (((shru64 (u64 n4) 24)&&&(255:UInt64)).toNat:Int)),(u8 (((shru64 (u64 n4) 16)&&&(255:UInt64)).toNat:Int)),(u8 (((shru64 (u64 n4) 8)&&&(255:UInt64)).toNat:Int)),(u8 (((u64 n4)&&&(255:UInt64)).toNat:Int))]:List UInt8) kd25 ty5 rfl ⟨⟨rfl,rfl⟩,⟨rfl,rfl⟩,⟨rfl,rfl⟩,⟨rfl,rfl⟩,trivial⟩ rfl rfl rfl ?_
 obtain ⟨u6,hu6,hX⟩:=bind_some hX
 refine TLc.appO nd kd25 bo25 ty5 rfl rfl (j:=1) rfl rfl (Src_L _) Dc (need_t hu6) rfl fun nd=>?_
 refine P1 (p_ncR rfl (fun _=>refOK_of nd (j:=0) rfl rfl)) rfl rfl (P1 (p_faV fs102_0 Dc rfl nd (j:=0) rfl rfl) rfl rfl ?_)
 refine TLc.stV (lu:=[OL (α:=UInt8) b3 (B1++([(u8 (((shru64 (u64 n4) 24)&&&(255:UInt64)).toNat:Int)),(u8 (((shru64 (u64 n4) 16)&&&(255:UInt64)).toNat:Int)),(u8 (((shru64 (u64 n4) 8)&&&(255:UInt64)).toNat:Int)),(u8 (((u64 n4)&&&(255:UInt64)).toNat:Int))]:List UInt8))]) nd ty25 rfl (j:=0) rfl rfl rfl (Cells_rs (refOK_of nd (j:=1) rfl rfl)) rfl rfl [OL (α:=UInt8) b3 (B1++([(u8 (((shru64 (u64 n4) 24)&&&(255:UInt64)).toNat:Int)),(u8 (((shru64 (u64 n4) 16)&&&(255:UInt64)).toNat:Int)),(u8 (((shru64 (u64 n4) 8)&&&(255:UInt64)).toNat:Int)),(u8 (((u64 n4)&&&(255:UInt64)).toNat:Int))]:List UInt8))] rfl fun nd=>?_
 refine TL.nil (hKE _ _ (TL.nil ?_))
 try dsimp only[thenQ]
 refine RetQ_end ?_
 exact retX (v:= .tup 0 (ofL [])) res0 (by obtain rfl:=some_in hX;exact ⟨b3,rfl,rfl⟩) nd (inH_tup (l:=[]) trivial) ⟨rowIn_RV ⟨inH_rs nd (j:=1) rfl,trivial⟩,rowIn_RL,trivial⟩
theorem ok_cartridgeref1_More (sum1:UInt32) (b2:(List UInt8)) (r:UInt32) (hX:X.cartridgeref1_More sum1 b2=some r):Fun Try.prog 102 [Enc.v (sum1:UInt32),Enc.v (b2:(List UInt8))] (·=Enc.v (r:UInt32)):=by
 refine Fun.of b102 (Nat.le_of_ble_eq_true rfl) (allVal.mem ⟨(by exact (v_val _)),(by exact (v_val _)),trivial⟩) ?_
 unfold k102
 have nd:Nd []:=Nd_nil
 unfold X.cartridgeref1_More at hX
 refine SR fun K3 hK3=>M rfl rfl (TL.nil (hK3 _ _ (SR fun K4 hK4=>M rfl rfl (P1 (p32_xor (a:=sum1) (b:=(4294967295:UInt32)) rfl rfl) rfl rfl (M rfl rfl (TL.nil (hK4 _ _ ?_)))))))
 refine TK.seq_k fun K5 hK5=>?_
 refine SR fun K6 hK6=>M rfl rfl (TL.nil (hK6 _ _ ?_))
 refine TK.block ?_
 obtain ⟨o7,hO7,hA7⟩:=bind_some hX
 have E7:∀(c10:UInt32) (env:Env) (h:Hp),(∃_u:Unit,keepE [5] env=[(5,true,Enc.v c10)]∧Nd []∧HSub [] h)→X.cartridgeref1_More_e7 c10=some r→K5 env h:=by
  intro c10 env h hE hX
  obtain ⟨_u,henv,nd,hs⟩:=hE
  unfold X.cartridgeref1_More_e7 at hX
  refine hK5 _ _ (TK.keep [5] ?_)
  rw[henv]
  refine TK.subH hs ?_
  refine SR fun K11 hK11=>M rfl rfl (P1 (p32_xor (a:=c10) (b:=(4294967295:UInt32)) rfl rfl) rfl rfl (M rfl rfl (TL.nil (hK11 _ _ ?_))))
  refine TK.ret ?_
  try dsimp only[thenQ]
  exact R1 rfl hX
 refine TK.iter [1,5,6] (fun s env h=>match s with|(c8,i9)=>∃_u:Unit,env=[(1,true,Enc.v b2),(5,true,Enc.v c8),(6,true,Enc.v i9)]∧Nd []∧HSub [] h) hO7 ⟨(),rfl,Nd_nil,HSub.refl _⟩ ?_
 rintro ⟨c8,i9⟩ env h x7x ⟨_u,rfl,nd,hs⟩ hX hR7
 refine TK.subH hs ?_
 unfold X.cartridgeref1_More_s7 at hX
 try dsimp only at hX
 refine TK.seq_k fun K12 hK12=>?_
 refine SR fun K13 hK13=>M rfl rfl (M rfl rfl (P1 (p_lenL (xs:=b2) kd25 rfl) rfl rfl (P1 (p_lss rfl rfl) rfl rfl (TL.nil (hK13 _ _ ?_)))))
 refine TK.cond (b:=(decide (i9<(b2.length:Int)))) rfl (fun hc=>?_) (fun hc=>?_)
 ·have hX:=ite_t hc hX
  refine TK.skip ?_
  refine hK12 _ _ ?_
  refine TK.seq_k fun K14 hK14=>?_
  refine TK.block ?_
  refine SR fun K15 hK15=>M rfl rfl (M rfl rfl (M rfl rfl ?_))
  obtain ⟨e16,he16,hX⟩:=bind_some hX
  refine P1 (p_iaL (xs:=b2) kd25 ty5 rfl rfl rfl (fun _=>he16)) rfl rfl (P1 (p_ldE (xs:=b2) (a:=e16) (e16:UInt8) ty5 rfl rfl (fun _=>he16) rfl rfl rfl) rfl rfl (P1 (p_cvt src5 kd106 rfl (cv_u32 _)) rfl rfl (P1 (p32_xor (a:=c8) (b:=(u32 (e16.toNat:Int))) rfl rfl) rfl rfl (M rfl rfl (TL.nil (hK15 _ _ (SR fun K17 hK17=>M rfl rfl (TL.nil (hK17 _ _ ?_)))))))))
  refine TK.block ?_
  obtain ⟨o18,hO18,hA18⟩:=bind_some hX
  have E18:∀(c21:UInt32) (env:Env) (h:Hp),(∃_u:Unit,keepE [1,5,6] env=[(1,true,Enc.v b2),(5,true,Enc.v c21),(6,true,Enc.v i9)]∧Nd []∧HSub [] h)→X.cartridgeref1_More_e18 i9 c21=some x7x→K14 env h:=by
   intro c21 env h hE hX
   obtain ⟨_u,henv,nd,hs⟩:=hE
   unfold X.cartridgeref1_More_e18 at hX
   refine hK14 _ _ (TK.keep [1,5,6] ?_)
   rw[henv]
   refine TK.subH hs ?_
   refine TK.reg ?_
   refine M rfl rfl (P1 (p_add rfl rfl) rfl rfl (M rfl rfl (TL.nil ?_)))
   exact ⟨_,(some_in hX).symm,(),rfl,Nd_nil,HSub.refl _⟩
  refine TK.iter [1,5,6,7] (fun s env h=>match s with|(c19,k20)=>∃_u:Unit,env=[(1,true,Enc.v b2),(5,true,Enc.v c19),(6,true,Enc.v i9),(7,true,Enc.v k20)]∧Nd []∧HSub [] h) hO18 ⟨(),rfl,Nd_nil,HSub.refl _⟩ ?_
  rintro ⟨c19,k20⟩ env h x18x ⟨_u,rfl,nd,hs⟩ hX hR18
  refine TK.subH hs ?_
  unfold X.cartridgeref1_More_s18 at hX
  try dsimp only at hX
  refine TK.seq_k fun K22 hK22=>?_
  refine SR fun K23 hK23=>M rfl rfl (P1 (p_lss rfl rfl) rfl rfl (TL.nil (hK23 _ _ ?_)))
  refine TK.cond (b:=(decide (k20<(8:Int)))) rfl (fun hc=>?_) (fun hc=>?_)
  ·have hX:=ite_t hc hX
   refine TK.skip ?_
   refine hK22 _ _ ?_
   refine TK.seq_k fun K24 hK24=>?_
   have J24:∀(c25:UInt32) (env:Env) (h:Hp),(∃_u:Unit,keepE [1,5,6,7] env=[(1,true,Enc.v b2),(5,true,Enc.v c25),(6,true,Enc.v i9),(7,true,Enc.v k20)]∧Nd []∧HSub [] h)→X.cartridgeref1_More_j24 k20 c25=some x18x→K24 env h:=by
    intro c25 env h hE hX
    obtain ⟨_u,henv,nd,hs⟩:=hE
    unfold X.cartridgeref1_More_j24 at hX
    refine hK24 _ _ (TK.keep [1,5,6,7] ?_)
    rw[henv]
    refine TK.subH hs ?_
    refine TK.reg ?_
    refine M rfl rfl (P1 (p_add rfl rfl) rfl rfl (M rfl rfl (TL.nil ?_)))
    exact ⟨_,(some_in hX).symm,(),rfl,Nd_nil,HSub.refl _⟩
   refine TK.block ?_
   refine SR fun K26 hK26=>M rfl rfl (P1 (p32_and (a:=c19) (b:=(1:UInt32)) rfl rfl) rfl rfl (P1 (p32_eql (a:=(c19&&&(1:UInt32))) (b:=(1:UInt32)) rfl rfl) rfl rfl (TL.nil (hK26 _ _ ?_))))
   refine TK.cond (b:=((c19&&&(1:UInt32))==(1:UInt32))) rfl (fun hc=>?_) (fun hc=>?_)
   ·have hX:=ite_t hc hX
    refine TK.reg ?_
    refine M rfl rfl (P1 (p32_shr (a:=c19) (b:=1) rfl rfl) rfl rfl (P1 (p32_xor (a:=(shr32 c19 1)) (b:=(2197175160:UInt32)) rfl rfl) rfl rfl (M rfl rfl (TL.nil ?_))))
    exact J24 ((shr32 c19 1)^^^(2197175160:UInt32)) _ _ ⟨(),rfl,Nd_nil,HSub.refl _⟩ hX
   ·have hX:=ite_f hc hX
    refine TK.reg ?_
    refine M rfl rfl (P1 (p32_shr (a:=c19) (b:=1) rfl rfl) rfl rfl (M rfl rfl (TL.nil ?_)))
    exact J24 (shr32 c19 1) _ _ ⟨(),rfl,Nd_nil,HSub.refl _⟩ hX
  ·have hX:=ite_f hc hX
   refine TK.exit ?_
   obtain rfl:=hR18 _ (some_in hX).symm
   exact E18 c19 _ _ ⟨(),rfl,Nd_nil,HSub.refl _⟩ hA18
 ·have hX:=ite_f hc hX
  refine TK.exit ?_
  obtain rfl:=hR7 _ (some_in hX).symm
  exact E7 c8 _ _ ⟨(),rfl,Nd_nil,HSub.refl _⟩ hA7
theorem ok_cartridgeref1_Crc (b1:(List UInt8)) (r:UInt32) (hX:X.cartridgeref1_Crc b1=some r):Fun Try.prog 64 [Enc.v (b1:(List UInt8))] (·=Enc.v (r:UInt32)):=by
 refine Fun.of b64 (Nat.le_of_ble_eq_true rfl) (allVal.mem ⟨(by exact (v_val _)),trivial⟩) ?_
 unfold k64
 have nd:Nd []:=Nd_nil
 unfold X.cartridgeref1_Crc at hX
 refine SR fun K2 hK2=>M rfl rfl (TL.nil (hK2 _ _ (SR fun K3 hK3=>M rfl rfl ?_)))
 obtain ⟨r4,hr4,hX⟩:=bind_some hX
 refine TL.cvX rfl rfl rfl (fun _=>⟨rfl,⟨rfl,⟨rfl,trivial⟩⟩⟩) (fun e=>ok_cartridgeref1_More (0:UInt32) b1 _ hr4) ?_
 refine M rfl rfl (TL.nil (hK3 _ _ ?_))
 refine TK.ret ?_
 try dsimp only[thenQ]
 exact R1 rfl hX
theorem ok_cartridgeref1_PutFrame (u1:Unit_api) (r:((List UInt8)×Int)) (hX:X.cartridgeref1_PutFrame u1=some r):Fun Try.prog 37 [Enc.v (u1:Unit_api)] (·= .tup 2 (ofL [Enc.v r.1,Enc.v r.2])):=by
 refine Fun.of b37 (Nat.le_of_ble_eq_true rfl) (allVal.mem ⟨(by exact (v_val _)),trivial⟩) ?_
 unfold k37
 have nd:Nd []:=Nd_nil
 unfold X.cartridgeref1_PutFrame at hX
 refine SR fun K2 hK2=>?_
 refine TLc.boxV (lu:=[Enc.v u1.Kind,Enc.v u1.Label,Enc.v u1.Number,Enc.v u1.Load]) nd rfl (Cells_v (u1:Unit_api)) rfl ?_
 refine M rfl rfl (M rfl rfl (TL.nil (hK2 _ _ (SR fun K3 hK3=>M rfl rfl (TL.nil (hK3 _ _ ?_))))))
 refine TK.seq_k fun K4 hK4=>?_
 have J4:∀(most5:Int) (env:Env) (h:Hp),(∃_u:Unit,keepE [1,4] env=[(1,true,.vref (ofL [Enc.v u1.Kind,Enc.v u1.Label,Enc.v u1.Number,Enc.v u1.Load]) 4 0),(4,true,Enc.v most5)]∧Nd []∧HSub [] h)→X.cartridgeref1_PutFrame_j4 u1 most5=some r→K4 env h:=by
  intro most5 env h hE hX
  obtain ⟨_u,henv,nd,hs⟩:=hE
  unfold X.cartridgeref1_PutFrame_j4 at hX
  refine hK4 _ _ (TK.keep [1,4] ?_)
  rw[henv]
  refine TK.subH hs ?_
  refine TK.seq_k fun K6 hK6=>?_
  refine TK.block ?_
  refine SR fun K7 hK7=>P1 (p_faR fs68_0 Dc rfl) rfl rfl (P1 (p_ldR (v:=Enc.v u1.Kind) ty3 rfl rfl rfl rfl rfl rfl) rfl rfl (P1 (p_lss rfl rfl) rfl rfl (M rfl rfl ?_)))
  refine TLc.p (gc:=(!((decide (u1.Kind<(1:Int)))))) (p_faR fs68_0 Dc rfl (hg:=fun e=>rfl)) (gcF1 rfl) rfl ?_
  refine TLc.p (gc:=(!((decide (u1.Kind<(1:Int)))))) (p_ldR (v:=Enc.v u1.Kind) ty3 rfl rfl rfl rfl rfl rfl (hg:=fun e=>e)) (gcF1 rfl) rfl ?_
  refine TLc.p (gc:=(!((decide (u1.Kind<(1:Int)))))) (p_gtr rfl rfl (hg:=fun e=>⟨e,rfl⟩)) (gcF1 rfl) rfl ?_
  refine P1 (p_or rfl rfl (fun e=>⟨rfl,fun h=>(not_t h)⟩)) rfl rfl (M rfl rfl ?_)
  refine TLc.p (gc:=(!(((decide (u1.Kind<(1:Int)))||(decide (u1.Kind>(6:Int))))))) (p_faR fs68_1 Dc rfl (hg:=fun e=>rfl)) (gcF1 rfl) rfl ?_
  refine TLc.p (gc:=(!(((decide (u1.Kind<(1:Int)))||(decide (u1.Kind>(6:Int))))))) (p_ldR (v:=Enc.v u1.Label) ty3 rfl rfl rfl rfl rfl rfl (hg:=fun e=>e)) (gcF1 rfl) rfl ?_
  refine TLc.p (gc:=(!(((decide (u1.Kind<(1:Int)))||(decide (u1.Kind>(6:Int))))))) (p_lss rfl rfl (hg:=fun e=>⟨e,rfl⟩)) (gcF1 rfl) rfl ?_
  refine P1 (p_or rfl rfl (fun e=>⟨rfl,fun h=>(not_t h)⟩)) rfl rfl (M rfl rfl ?_)
  refine TLc.p (gc:=(!((((decide (u1.Kind<(1:Int)))||(decide (u1.Kind>(6:Int))))||(decide (u1.Label<(1:Int))))))) (p_faR fs68_1 Dc rfl (hg:=fun e=>rfl)) (gcF1 rfl) rfl ?_
  refine TLc.p (gc:=(!((((decide (u1.Kind<(1:Int)))||(decide (u1.Kind>(6:Int))))||(decide (u1.Label<(1:Int))))))) (p_ldR (v:=Enc.v u1.Label) ty3 rfl rfl rfl rfl rfl rfl (hg:=fun e=>e)) (gcF1 rfl) rfl ?_
  refine TLc.p (gc:=(!((((decide (u1.Kind<(1:Int)))||(decide (u1.Kind>(6:Int))))||(decide (u1.Label<(1:Int))))))) (p_gtr rfl rfl (hg:=fun e=>⟨e,rfl⟩)) (gcF1 rfl) rfl ?_
  refine P1 (p_or rfl rfl (fun e=>⟨rfl,fun h=>(not_t h)⟩)) rfl rfl (M rfl rfl ?_)
  refine TLc.p (gc:=(!(((((decide (u1.Kind<(1:Int)))||(decide (u1.Kind>(6:Int))))||(decide (u1.Label<(1:Int))))||(decide (u1.Label>(2147483647:Int))))))) (p_faR fs68_2 Dc rfl (hg:=fun e=>rfl)) (gcF1 rfl) rfl ?_
  refine TLc.p (gc:=(!(((((decide (u1.Kind<(1:Int)))||(decide (u1.Kind>(6:Int))))||(decide (u1.Label<(1:Int))))||(decide (u1.Label>(2147483647:Int))))))) (p_ldR (v:=Enc.v u1.Number) ty3 rfl rfl rfl rfl rfl rfl (hg:=fun e=>e)) (gcF1 rfl) rfl ?_
  refine TLc.p (gc:=(!(((((decide (u1.Kind<(1:Int)))||(decide (u1.Kind>(6:Int))))||(decide (u1.Label<(1:Int))))||(decide (u1.Label>(2147483647:Int))))))) (p_lss rfl rfl (hg:=fun e=>⟨e,rfl⟩)) (gcF1 rfl) rfl ?_
  refine P1 (p_or rfl rfl (fun e=>⟨rfl,fun h=>(not_t h)⟩)) rfl rfl (M rfl rfl ?_)
  refine TLc.p (gc:=(!((((((decide (u1.Kind<(1:Int)))||(decide (u1.Kind>(6:Int))))||(decide (u1.Label<(1:Int))))||(decide (u1.Label>(2147483647:Int))))||(decide (u1.Number<(0:Int))))))) (p_faR fs68_2 Dc rfl (hg:=fun e=>rfl)) (gcF1 rfl) rfl ?_
  refine TLc.p (gc:=(!((((((decide (u1.Kind<(1:Int)))||(decide (u1.Kind>(6:Int))))||(decide (u1.Label<(1:Int))))||(decide (u1.Label>(2147483647:Int))))||(decide (u1.Number<(0:Int))))))) (p_ldR (v:=Enc.v u1.Number) ty3 rfl rfl rfl rfl rfl rfl (hg:=fun e=>e)) (gcF1 rfl) rfl ?_
  refine TLc.p (gc:=(!((((((decide (u1.Kind<(1:Int)))||(decide (u1.Kind>(6:Int))))||(decide (u1.Label<(1:Int))))||(decide (u1.Label>(2147483647:Int))))||(decide (u1.Number<(0:Int))))))) (p_gtr rfl rfl (hg:=fun e=>⟨e,rfl⟩)) (gcF1 rfl) rfl ?_
  refine P1 (p_or rfl rfl (fun e=>⟨rfl,fun h=>(not_t h)⟩)) rfl rfl (M rfl rfl (TL.nil (hK7 _ _ ?_)))
  refine TK.cond (b:=((((((decide (u1.Kind<(1:Int)))||(decide (u1.Kind>(6:Int))))||(decide (u1.Label<(1:Int))))||(decide (u1.Label>(2147483647:Int))))||(decide (u1.Number<(0:Int))))||(decide (u1.Number>(2147483647:Int))))) rfl (fun hc=>?_) (fun hc=>?_)
  ·have hX:=ite_t hc hX
   refine SR fun K8 hK8=>M rfl rfl (M rfl rfl (TL.nil (hK8 _ _ ?_)))
   refine TK.wk 2 (L ([]:(List UInt8))) rfl Wk_nil ?_
   refine TK.ret ?_
   try dsimp only[thenQ]
   exact retN (vs:=[Enc.v (([]:(List UInt8)):(List UInt8)),Enc.v ((1:Int):Int)]) ⟨rfl,rfl,trivial⟩ (by obtain rfl:=some_in hX;rfl) (allVal.mem ⟨v_val _,v_val _,trivial⟩)
  ·have hX:=ite_f hc hX
   refine SR fun K9 hK9=>P1 (p_faR fs68_3 Dc rfl) rfl rfl (P1 (p_ldR (v:=Enc.v u1.Load) ty25 rfl rfl rfl rfl rfl rfl) rfl rfl (P1 (p_lenL (xs:=u1.Load) kd25 rfl) rfl rfl (M rfl rfl (P1 (p_gtr rfl rfl) rfl rfl (M rfl rfl (TL.nil (hK9 _ _ ?_)))))))
   refine TK.cond (b:=(decide ((u1.Load.length:Int)>most5))) rfl (fun hc=>?_) (fun hc=>?_)
   ·have hX:=ite_t hc hX
    refine SR fun K10 hK10=>M rfl rfl (M rfl rfl (TL.nil (hK10 _ _ ?_)))
    refine TK.wk 2 (L ([]:(List UInt8))) rfl Wk_nil ?_
    refine TK.ret ?_
    try dsimp only[thenQ]
    exact retN (vs:=[Enc.v (([]:(List UInt8)):(List UInt8)),Enc.v ((4:Int):Int)]) ⟨rfl,rfl,trivial⟩ (by obtain rfl:=some_in hX;rfl) (allVal.mem ⟨v_val _,v_val _,trivial⟩)
   ·have hX:=ite_f hc hX
    refine TK.skip ?_
    refine hK6 _ _ (SR fun K11 hK11=>P1 (p_bld (l:=[.nils]) ty102 rfl all102 rfl (fun _=>trivial)) rfl rfl ?_)
    refine TLc.boxO (lu:=[.nils]) nd rfl (Cells_agg rfl (allA.mem ⟨trivial,trivial⟩)) rfl fun b12 nd=>?_
    refine M rfl rfl (TL.nil (hK11 _ _ ?_))
    refine TK.ownC (α:=UInt8) nd (j:=0) rfl 0 5 (.inl rfl) fun b13 nd=>?_
    refine SR fun K14 hK14=>M rfl rfl (P1 (p_faR fs68_0 Dc rfl) rfl rfl (P1 (p_ldR (v:=Enc.v u1.Kind) ty3 rfl rfl rfl rfl rfl rfl) rfl rfl (P1 (p_cvt src3 kd5 rfl (cv_u8 _)) rfl rfl ?_)))
    obtain ⟨r15,hr15,hX⟩:=bind_some hX
    refine TL.pick [1,0] nd Dc fun nd=>?_
    refine TL.tcX [(b12,RV 102 [OL (α:=UInt8) b13 ([]:List UInt8)]),(b13,RL (α:=UInt8) 5 ([]:List UInt8))] [] rfl nd (dlt rfl) rfl ⟨rfl,⟨rfl,⟨rfl,trivial⟩⟩⟩ (ok_cartridgeref1_Writer_Byte (u8 u1.Kind) ([]:List UInt8) b12 b13 (Nd.take nd 2 rfl) _ hr15) ?_
    rintro _ _ hQ nd
    obtain ⟨b17,rfl,rfl⟩:=hQ
    refine TL.nil (hK14 _ _ (SR fun K18 hK18=>M rfl rfl (P1 (p_faR fs68_1 Dc rfl) rfl rfl (P1 (p_ldR (v:=Enc.v u1.Label) ty3 rfl rfl rfl rfl rfl rfl) rfl rfl ?_))))
    obtain ⟨r19,hr19,hX⟩:=bind_some hX
    refine TL.tcX [(b12,RV 102 [OL b17 r15]),(b17,RL (α:=UInt8) 5 r15)] [] rfl nd (dlt rfl) rfl ⟨rfl,⟨rfl,⟨rfl,trivial⟩⟩⟩ (ok_cartridgeref1_Writer_Int u1.Label r15 b12 b17 (Nd.take nd 2 rfl) _ hr19) ?_
    rintro _ _ hQ nd
    obtain ⟨b21,rfl,rfl⟩:=hQ
    refine TL.nil (hK18 _ _ (SR fun K22 hK22=>M rfl rfl (P1 (p_faR fs68_2 Dc rfl) rfl rfl (P1 (p_ldR (v:=Enc.v u1.Number) ty3 rfl rfl rfl rfl rfl rfl) rfl rfl ?_))))
    obtain ⟨r23,hr23,hX⟩:=bind_some hX
    refine TL.tcX [(b12,RV 102 [OL b21 r19]),(b21,RL (α:=UInt8) 5 r19)] [] rfl nd (dlt rfl) rfl ⟨rfl,⟨rfl,⟨rfl,trivial⟩⟩⟩ (ok_cartridgeref1_Writer_Int u1.Number r19 b12 b21 (Nd.take nd 2 rfl) _ hr23) ?_
    rintro _ _ hQ nd
    obtain ⟨b25,rfl,rfl⟩:=hQ
    refine TL.nil (hK22 _ _ ?_)
    refine TK.seq_k fun K26 hK26=>?_
    have ndS:Nd []:=Nd.pick nd (is:=[]) Dc
    refine TK.drwX (h:=[(b12,RV 102 [OL b25 r23]),(b25,RL (α:=UInt8) 5 r23)]) (hS:=[]) [(0,0),(0,1),(1,2),(1,3),(1,4),(0,5),(0,6),(0,7),(0,8),(0,9),(0,10),(0,11),(0,12),(0,13),(0,14),(0,15),(2,16),(1,17),(1,18),(2,19)] mixed (by kernel_rfl) (HSub_app nd) ?_
    refine DM rfl rfl rfl ?_
    refine DM rfl rfl rfl ?_
    refine DR1 (gc:=true) rfl (vok_p (C:=cx) (p_ncR rfl (fun _=>refOK_of nd (j:=0) rfl rfl))) rfl rfl ?_
    refine DR1 (gc:=true) rfl (vok_p (C:=cx) (p_faV fs102_0 Dc rfl nd (j:=0) rfl rfl)) rfl rfl ?_
    refine DR1 (gc:=true) rfl (vok_p (C:=cx) (p_ldV (v:=OL b25 r23) ty25 rfl rfl nd (j:=0) rfl rfl rfl rfl rfl)) rfl rfl ?_
    refine D0 rfl (p_faR fs68_3 Dc rfl) rfl rfl ?_
    refine D0 rfl (p_ldR (v:=Enc.v u1.Load) ty25 rfl rfl rfl rfl rfl rfl) rfl rfl ?_
    refine D0 rfl (p_lenL (xs:=u1.Load) kd25 rfl) rfl rfl ?_
    refine D0 rfl (p_shr rfl rfl (fun _=>by omega)) rfl rfl ?_
    refine D0 rfl (p_cvt src3 kd5 rfl (cv_u8 _)) rfl rfl ?_
    refine D0 rfl (p_faR fs68_3 Dc rfl) rfl rfl ?_
    refine D0 rfl (p_ldR (v:=Enc.v u1.Load) ty25 rfl rfl rfl rfl rfl rfl) rfl rfl ?_
    refine D0 rfl (p_lenL (xs:=u1.Load) kd25 rfl) rfl rfl ?_
    refine D0 rfl (p_and64 rfl rfl) rfl rfl ?_
    refine D0 rfl (p_cvt src3 kd5 rfl (cv_u8 _)) rfl rfl ?_
    refine DR0 (gc:=true) rfl (vok_lit (C:=cx) ([(u8 (shr64 (u1.Load.length:Int) ((8:UInt64).toNat:Int))),(u8 (and64 (u1.Load.length:Int) (255:Int)))]:List UInt8) kd25 ty5 rfl ⟨⟨rfl,rfl⟩,⟨rfl,rfl⟩,trivial⟩ rfl rfl) rfl rfl ?_
    obtain ⟨u27,hu27,hX⟩:=bind_some hX
    refine DR2 rfl rfl ?_
    refine TLc.appO nd kd25 bo25 ty5 rfl rfl (j:=1) rfl rfl (Src_L _) Dc (need_t hu27) rfl fun nd=>?_
    refine TL.nil ⟨_,[(b12,RV 102 [OL b25 r23]),(b25,RL (α:=UInt8) 5 (r23++([(u8 (shr64 (u1.Load.length:Int) ((8:UInt64).toNat:Int))),(u8 (and64 (u1.Load.length:Int) (255:Int)))]:List UInt8)))],rfl,rfl,HSub_app nd,?_⟩
    refine DR1 (gc:=true) rfl (vok_p (C:=cx) (p_ncR rfl (fun _=>refOK_of nd (j:=0) rfl rfl))) rfl rfl ?_
    refine DR1 (gc:=true) rfl (vok_p (C:=cx) (p_faV fs102_0 Dc rfl nd (j:=0) rfl rfl)) rfl rfl ?_
    refine DR2n rfl ?_
    refine TLc.stV (lu:=[OL (α:=UInt8) b25 (r23++([(u8 (shr64 (u1.Load.length:Int) ((8:UInt64).toNat:Int))),(u8 (and64 (u1.Load.length:Int) (255:Int)))]:List UInt8))]) nd ty25 rfl (j:=0) rfl rfl rfl (Cells_rs (refOK_of nd (j:=1) rfl rfl)) rfl rfl [OL (α:=UInt8) b25 (r23++([(u8 (shr64 (u1.Load.length:Int) ((8:UInt64).toNat:Int))),(u8 (and64 (u1.Load.length:Int) (255:Int)))]:List UInt8))] rfl fun nd=>?_
    refine TL.nil ⟨.nilp,[(b12,RV 102 [OL (α:=UInt8) b25 (r23++([(u8 (shr64 (u1.Load.length:Int) ((8:UInt64).toNat:Int))),(u8 (and64 (u1.Load.length:Int) (255:Int)))]:List UInt8))]),(b25,RL (α:=UInt8) 5 (r23++([(u8 (shr64 (u1.Load.length:Int) ((8:UInt64).toNat:Int))),(u8 (and64 (u1.Load.length:Int) (255:Int)))]:List UInt8)))],rfl,rfl,HSub_app nd,?_⟩
    refine DRend ?_
    refine hK26 _ _ ?_
    refine TK.seq_k fun K28 hK28=>?_
    have ndS:Nd []:=Nd.pick nd (is:=[]) Dc
    refine TK.drwX (h:=[(b12,RV 102 [OL (α:=UInt8) b25 (r23++([(u8 (shr64 (u1.Load.length:Int) ((8:UInt64).toNat:Int))),(u8 (and64 (u1.Load.length:Int) (255:Int)))]:List UInt8))]),(b25,RL (α:=UInt8) 5 (r23++([(u8 (shr64 (u1.Load.length:Int) ((8:UInt64).toNat:Int))),(u8 (and64 (u1.Load.length:Int) (255:Int)))]:List UInt8)))]) (hS:=[]) [(0,0),(0,1),(1,2),(1,3),(1,4),(0,5),(0,6),(2,7),(1,8),(1,9),(2,10)] mixed (by kernel_rfl) (HSub_app nd) ?_
    refine DM rfl rfl rfl ?_
    refine DM rfl rfl rfl ?_
    refine DR1 (gc:=true) rfl (vok_p (C:=cx) (p_ncR rfl (fun _=>refOK_of nd (j:=0) rfl rfl))) rfl rfl ?_
    refine DR1 (gc:=true) rfl (vok_p (C:=cx) (p_faV fs102_0 Dc rfl nd (j:=0) rfl rfl)) rfl rfl ?_
    refine DR1 (gc:=true) rfl (vok_p (C:=cx) (p_ldV (v:=OL (α:=UInt8) b25 (r23++([(u8 (shr64 (u1.Load.length:Int) ((8:UInt64).toNat:Int))),(u8 (and64 (u1.Load.length:Int) (255:Int)))]:List UInt8))) ty25 rfl rfl nd (j:=0) rfl rfl rfl rfl rfl)) rfl rfl ?_
    refine D0 rfl (p_faR fs68_3 Dc rfl) rfl rfl ?_
    refine D0 rfl (p_ldR (v:=Enc.v u1.Load) ty25 rfl rfl rfl rfl rfl rfl) rfl rfl ?_
    obtain ⟨u29,hu29,hX⟩:=bind_some hX
    refine DR2 rfl rfl ?_
    refine TLc.appO nd kd25 bo25 ty5 rfl rfl (j:=1) rfl rfl (Src_L _) Dc (need_t hu29) rfl fun nd=>?_
    refine TL.nil ⟨_,[(b12,RV 102 [OL (α:=UInt8) b25 (r23++([(u8 (shr64 (u1.Load.length:Int) ((8:UInt64).toNat:Int))),(u8 (and64 (u1.Load.length:Int) (255:Int)))]:List UInt8))]),(b25,RL (α:=UInt8) 5 ((r23++([(u8 (shr64 (u1.Load.length:Int) ((8:UInt64).toNat:Int))),(u8 (and64 (u1.Load.length:Int) (255:Int)))]:List UInt8))++u1.Load))],rfl,rfl,HSub_app nd,?_⟩
    refine DR1 (gc:=true) rfl (vok_p (C:=cx) (p_ncR rfl (fun _=>refOK_of nd (j:=0) rfl rfl))) rfl rfl ?_
    refine DR1 (gc:=true) rfl (vok_p (C:=cx) (p_faV fs102_0 Dc rfl nd (j:=0) rfl rfl)) rfl rfl ?_
    refine DR2n rfl ?_
    refine TLc.stV (lu:=[OL (α:=UInt8) b25 ((r23++([(u8 (shr64 (u1.Load.length:Int) ((8:UInt64).toNat:Int))),(u8 (and64 (u1.Load.length:Int) (255:Int)))]:List UInt8))++u1.Load)]) nd ty25 rfl (j:=0) rfl rfl rfl (Cells_rs (refOK_of nd (j:=1) rfl rfl)) rfl rfl [OL (α:=UInt8) b25 ((r23++([(u8 (shr64 (u1.Load.length:Int) ((8:UInt64).toNat:Int))),(u8 (and64 (u1.Load.length:Int) (255:Int)))]:List UInt8))++u1.Load)] rfl fun nd=>?_
    refine TL.nil ⟨.nilp,[(b12,RV 102 [OL (α:=UInt8) b25 ((r23++([(u8 (shr64 (u1.Load.length:Int) ((8:UInt64).toNat:Int))),(u8 (and64 (u1.Load.length:Int) (255:Int)))]:List UInt8))++u1.Load)]),(b25,RL (α:=UInt8) 5 ((r23++([(u8 (shr64 (u1.Load.length:Int) ((8:UInt64).toNat:Int))),(u8 (and64 (u1.Load.length:Int) (255:Int)))]:List UInt8))++u1.Load))],rfl,rfl,HSub_app nd,?_⟩
    refine DRend ?_
    refine hK28 _ _ ?_
    refine TK.seq_k fun K30 hK30=>?_
    have ndS:Nd []:=Nd.pick nd (is:=[]) Dc
    refine TK.drwX (h:=[(b12,RV 102 [OL (α:=UInt8) b25 ((r23++([(u8 (shr64 (u1.Load.length:Int) ((8:UInt64).toNat:Int))),(u8 (and64 (u1.Load.length:Int) (255:Int)))]:List UInt8))++u1.Load)]),(b25,RL (α:=UInt8) 5 ((r23++([(u8 (shr64 (u1.Load.length:Int) ((8:UInt64).toNat:Int))),(u8 (and64 (u1.Load.length:Int) (255:Int)))]:List UInt8))++u1.Load))]) (hS:=[]) [(0,0),(0,1),(1,2),(1,3),(1,4),(0,5),(0,6),(0,7),(0,8),(0,9),(2,10),(1,11),(1,12),(2,13)] mixed (by kernel_rfl) (HSub_app nd) ?_
    refine DM rfl rfl rfl ?_
    refine DM rfl rfl rfl ?_
    refine DR1 (gc:=true) rfl (vok_p (C:=cx) (p_ncR rfl (fun _=>refOK_of nd (j:=0) rfl rfl))) rfl rfl ?_
    refine DR1 (gc:=true) rfl (vok_p (C:=cx) (p_faV fs102_0 Dc rfl nd (j:=0) rfl rfl)) rfl rfl ?_
    refine DR1 (gc:=true) rfl (vok_p (C:=cx) (p_ldV (v:=OL (α:=UInt8) b25 ((r23++([(u8 (shr64 (u1.Load.length:Int) ((8:UInt64).toNat:Int))),(u8 (and64 (u1.Load.length:Int) (255:Int)))]:List UInt8))++u1.Load)) ty25 rfl rfl nd (j:=0) rfl rfl rfl rfl rfl)) rfl rfl ?_
    refine DM rfl rfl rfl ?_
    refine D0 rfl (p_faR fs68_3 Dc rfl) rfl rfl ?_
    refine D0 rfl (p_ldR (v:=Enc.v u1.Load) ty25 rfl rfl rfl rfl rfl rfl) rfl rfl ?_
    refine D0 rfl (p_lenL (xs:=u1.Load) kd25 rfl) rfl rfl ?_
    refine D0 rfl (p_sub rfl rfl) rfl rfl ?_
    obtain ⟨u31,hu31,hX⟩:=bind_some hX
    refine DR2 rfl rfl ?_
    refine TLc.appOZ nd (0:UInt8) kd25 kd3 ty5 rfl (fun j hj=>by (have:j=0:=by simpa[Enc.sz] using hj);subst this;rfl) rfl (j:=1) rfl rfl (need_t hu31).1 Dc (need_t hu31).2 rfl fun nd=>?_
    refine TL.nil ⟨_,[(b12,RV 102 [OL (α:=UInt8) b25 ((r23++([(u8 (shr64 (u1.Load.length:Int) ((8:UInt64).toNat:Int))),(u8 (and64 (u1.Load.length:Int) (255:Int)))]:List UInt8))++u1.Load)]),(b25,RL (α:=UInt8) 5 (((r23++([(u8 (shr64 (u1.Load.length:Int) ((8:UInt64).toNat:Int))),(u8 (and64 (u1.Load.length:Int) (255:Int)))]:List UInt8))++u1.Load)++(List.replicate (wr (most5-(u1.Load.length:Int))).toNat (0:UInt8))))],rfl,rfl,HSub_app nd,?_⟩
    refine DR1 (gc:=true) rfl (vok_p (C:=cx) (p_ncR rfl (fun _=>refOK_of nd (j:=0) rfl rfl))) rfl rfl ?_
    refine DR1 (gc:=true) rfl (vok_p (C:=cx) (p_faV fs102_0 Dc rfl nd (j:=0) rfl rfl)) rfl rfl ?_
    refine DR2n rfl ?_
    refine TLc.stV (lu:=[OL (α:=UInt8) b25 (((r23++([(u8 (shr64 (u1.Load.length:Int) ((8:UInt64).toNat:Int))),(u8 (and64 (u1.Load.length:Int) (255:Int)))]:List UInt8))++u1.Load)++(List.replicate (wr (most5-(u1.Load.length:Int))).toNat (0:UInt8)))]) nd ty25 rfl (j:=0) rfl rfl rfl (Cells_rs (refOK_of nd (j:=1) rfl rfl)) rfl rfl [OL (α:=UInt8) b25 (((r23++([(u8 (shr64 (u1.Load.length:Int) ((8:UInt64).toNat:Int))),(u8 (and64 (u1.Load.length:Int) (255:Int)))]:List UInt8))++u1.Load)++(List.replicate (wr (most5-(u1.Load.length:Int))).toNat (0:UInt8)))] rfl fun nd=>?_
    refine TL.nil ⟨.nilp,[(b12,RV 102 [OL (α:=UInt8) b25 (((r23++([(u8 (shr64 (u1.Load.length:Int) ((8:UInt64).toNat:Int))),(u8 (and64 (u1.Load.length:Int) (255:Int)))]:List UInt8))++u1.Load)++(List.replicate (wr (most5-(u1.Load.length:Int))).toNat (0:UInt8)))]),(b25,RL (α:=UInt8) 5 (((r23++([(u8 (shr64 (u1.Load.length:Int) ((8:UInt64).toNat:Int))),(u8 (and64 (u1.Load.length:Int) (255:Int)))]:List UInt8))++u1.Load)++(List.replicate (wr (most5-(u1.Load.length:Int))).toNat (0:UInt8))))],rfl,rfl,HSub_app nd,?_⟩
    refine DRend ?_
    refine hK30 _ _ (SR fun K32 hK32=>M rfl rfl (M rfl rfl (P1 (p_ncR rfl (fun _=>refOK_of nd (j:=0) rfl rfl)) rfl rfl (P1 (p_faV fs102_0 Dc rfl nd (j:=0) rfl rfl) rfl rfl ?_))))
    refine P1 (p_ldV (v:=OL (α:=UInt8) b25 (((r23++([(u8 (shr64 (u1.Load.length:Int) ((8:UInt64).toNat:Int))),(u8 (and64 (u1.Load.length:Int) (255:Int)))]:List UInt8))++u1.Load)++(List.replicate (wr (most5-(u1.Load.length:Int))).toNat (0:UInt8)))) ty25 rfl rfl nd (j:=0) rfl rfl rfl rfl rfl) rfl rfl ?_
    obtain ⟨r33,hr33,hX⟩:=bind_some hX
    refine TL.lookX [L (((r23++([(u8 (shr64 (u1.Load.length:Int) ((8:UInt64).toNat:Int))),(u8 (and64 (u1.Load.length:Int) (255:Int)))]:List UInt8))++u1.Load)++(List.replicate (wr (most5-(u1.Load.length:Int))).toNat (0:UInt8)))] rfl rfl rfl (fun _=>⟨rfl,⟨rfl,trivial⟩⟩) ⟨look_OL nd (j:=1) rfl,trivial⟩ (fun e=>ok_cartridgeref1_Crc (((r23++([(u8 (shr64 (u1.Load.length:Int) ((8:UInt64).toNat:Int))),(u8 (and64 (u1.Load.length:Int) (255:Int)))]:List UInt8))++u1.Load)++(List.replicate (wr (most5-(u1.Load.length:Int))).toNat (0:UInt8))) _ hr33) (trivial) ?_
    refine P1 (p_cvt src106 kd3 rfl (cv_32 r33)) rfl rfl ?_
    obtain ⟨r34,hr34,hX⟩:=bind_some hX
    refine TL.tcX [(b12,RV 102 [OL (α:=UInt8) b25 (((r23++([(u8 (shr64 (u1.Load.length:Int) ((8:UInt64).toNat:Int))),(u8 (and64 (u1.Load.length:Int) (255:Int)))]:List UInt8))++u1.Load)++(List.replicate (wr (most5-(u1.Load.length:Int))).toNat (0:UInt8)))]),(b25,RL (α:=UInt8) 5 (((r23++([(u8 (shr64 (u1.Load.length:Int) ((8:UInt64).toNat:Int))),(u8 (and64 (u1.Load.length:Int) (255:Int)))]:List UInt8))++u1.Load)++(List.replicate (wr (most5-(u1.Load.length:Int))).toNat (0:UInt8))))] [] rfl nd (dlt rfl) rfl ⟨rfl,⟨rfl,⟨rfl,trivial⟩⟩⟩ (ok_cartridgeref1_Writer_Int (r33.toNat:Int) (((r23++([(u8 (shr64 (u1.Load.length:Int) ((8:UInt64).toNat:Int))),(u8 (and64 (u1.Load.length:Int) (255:Int)))]:List UInt8))++u1.Load)++(List.replicate (wr (most5-(u1.Load.length:Int))).toNat (0:UInt8))) b12 b25 (Nd.take nd 2 rfl) _ hr34) ?_
    rintro _ _ hQ nd
    obtain ⟨b36,rfl,rfl⟩:=hQ
    refine TL.nil (hK32 _ _ (SR fun K37 hK37=>M rfl rfl (P1 (p_ncR rfl (fun _=>refOK_of nd (j:=0) rfl rfl)) rfl rfl (P1 (p_faV fs102_0 Dc rfl nd (j:=0) rfl rfl) rfl rfl (P1 (p_ldV (v:=OL b36 r34) ty25 rfl rfl nd (j:=0) rfl rfl rfl rfl rfl) rfl rfl (M rfl rfl (M rfl rfl (TL.nil (hK37 _ _ ?_)))))))))
    refine TK.layR (l2':=[Enc.v r34]) [(2,L r34)] nd (j:=1) rfl 0 rfl rfl ⟨fix_OL nd (j:=1) rfl,trivial⟩ ⟨⟨_,rfl,fix_OL nd (j:=1) rfl,rfl⟩,trivial⟩ fun nd=>?_
    refine TK.ret ?_
    try dsimp only[thenQ]
    exact retN (vs:=[Enc.v r34,Enc.v ((0:Int):Int)]) ⟨rfl,rfl,trivial⟩ (by obtain rfl:=some_in hX;rfl) (allVal.mem ⟨v_val _,v_val _,trivial⟩)
 refine SR fun K38 hK38=>P1 (p_faR fs68_0 Dc rfl) rfl rfl (P1 (p_ldR (v:=Enc.v u1.Kind) ty3 rfl rfl rfl rfl rfl rfl) rfl rfl (P1 (p_eql rfl rfl) rfl rfl (TL.nil (hK38 _ _ ?_))))
 refine TK.cond (b:=(u1.Kind==(6:Int))) rfl (fun hc=>?_) (fun hc=>?_)
 ·have hX:=ite_t hc hX
  refine TK.reg ?_
  refine M rfl rfl (TL.nil ?_)
  exact J4 (79:Int) _ _ ⟨(),rfl,Nd_nil,HSub.refl _⟩ hX
 ·have hX:=ite_f hc hX
  refine TK.skip ?_
  exact J4 (64:Int) _ _ ⟨(),rfl,Nd_nil,HSub.refl _⟩ hX
theorem ok_cartridgeref10_StripeLen (l1:(List Tape_api)) (r:Int) (hX:X.cartridgeref10_StripeLen l1=some r):Fun Try.prog 88 [Enc.v (l1:(List Tape_api))] (·=Enc.v (r:Int)):=by
 refine Fun.of b88 (Nat.le_of_ble_eq_true rfl) (allVal.mem ⟨(by exact (v_val _)),trivial⟩) ?_
 unfold k88
 have nd:Nd []:=Nd_nil
 unfold X.cartridgeref10_StripeLen at hX
 refine SR fun K2 hK2=>M rfl rfl (TL.nil (hK2 _ _ (SR fun K3 hK3=>M rfl rfl (TL.nil (hK3 _ _ ?_)))))
 refine TK.seq_k fun K4 hK4=>?_
 refine SR fun K5 hK5=>M rfl rfl (TL.nil (hK5 _ _ ?_))
 refine TK.block ?_
 obtain ⟨o6,hO6,hA6⟩:=bind_some hX
 have E6:∀(n9:Int) (env:Env) (h:Hp),(∃_u:Unit,keepE [3] env=[(3,true,Enc.v n9)]∧Nd []∧HSub [] h)→X.cartridgeref10_StripeLen_e6 n9=some r→K4 env h:=by
  intro n9 env h hE hX
  obtain ⟨_u,henv,nd,hs⟩:=hE
  unfold X.cartridgeref10_StripeLen_e6 at hX
  refine hK4 _ _ (TK.keep [3] ?_)
  rw[henv]
  refine TK.subH hs ?_
  refine SR fun K10 hK10=>M rfl rfl (M rfl rfl (TL.nil (hK10 _ _ ?_)))
  refine TK.ret ?_
  try dsimp only[thenQ]
  exact R1 rfl hX
 refine TK.iter [0,3,4] (fun s env h=>match s with|(n7,i8)=>∃_u:Unit,env=[(0,true,Enc.v l1),(3,true,Enc.v n7),(4,true,Enc.v i8)]∧Nd []∧HSub [] h) hO6 ⟨(),rfl,Nd_nil,HSub.refl _⟩ ?_
 rintro ⟨n7,i8⟩ env h x6x ⟨_u,rfl,nd,hs⟩ hX hR6
 refine TK.subH hs ?_
 unfold X.cartridgeref10_StripeLen_s6 at hX
 try dsimp only at hX
 refine TK.seq_k fun K11 hK11=>?_
 refine SR fun K12 hK12=>M rfl rfl (M rfl rfl (P1 (p_lenL (xs:=l1) kd48 rfl) rfl rfl (P1 (p_lss rfl rfl) rfl rfl (TL.nil (hK12 _ _ ?_)))))
 refine TK.cond (b:=(decide (i8<(l1.length:Int)))) rfl (fun hc=>?_) (fun hc=>?_)
 ·have hX:=ite_t hc hX
  refine TK.skip ?_
  refine hK11 _ _ ?_
  refine TK.seq_k fun K13 hK13=>?_
  have J13:∀(n14:Int) (env:Env) (h:Hp),(∃_u:Unit,keepE [0,3,4] env=[(0,true,Enc.v l1),(3,true,Enc.v n14),(4,true,Enc.v i8)]∧Nd []∧HSub [] h)→X.cartridgeref10_StripeLen_j13 i8 n14=some x6x→K13 env h:=by
   intro n14 env h hE hX
   obtain ⟨_u,henv,nd,hs⟩:=hE
   unfold X.cartridgeref10_StripeLen_j13 at hX
   refine hK13 _ _ (TK.keep [0,3,4] ?_)
   rw[henv]
   refine TK.subH hs ?_
   refine TK.reg ?_
   refine M rfl rfl (P1 (p_add rfl rfl) rfl rfl (M rfl rfl (TL.nil ?_)))
   exact ⟨_,(some_in hX).symm,(),rfl,Nd_nil,HSub.refl _⟩
  refine TK.block ?_
  refine SR fun K15 hK15=>M rfl rfl (M rfl rfl ?_)
  obtain ⟨e16,he16,hX⟩:=bind_some hX
  refine P1 (p_iaL (xs:=l1) kd48 ty54 rfl rfl rfl (fun _=>he16)) rfl rfl (P1 (p_faE fs54_3 Dc rfl) rfl rfl (P1 (p_ldE (xs:=l1) (a:=e16) (e16.Lost:Bool) ty4 rfl rfl (fun _=>he16) rfl rfl rfl) rfl rfl (P1 (p_not rfl) rfl rfl (M rfl rfl ?_))))
  refine TLc.p (gc:=((!e16.Lost))) (p_mv rfl (hg:=fun e=>rfl)) (gcT1 rfl) rfl ?_
  refine TLc.p (gc:=((!e16.Lost))) (p_mv rfl (hg:=fun e=>rfl)) (gcT1 rfl) rfl ?_
  obtain ⟨e17,he17,hX⟩:=bind_some hX
  refine TLc.p (gc:=((!e16.Lost))) (p_iaL (xs:=l1) kd48 ty54 rfl rfl rfl (fun e=>optG_t he17 e) (hg:=fun e=>⟨e,e⟩)) (gcT1 rfl) rfl ?_
  refine TLc.p (gc:=((!e16.Lost))) (p_faE fs54_2 Dc rfl (hg:=fun e=>e)) (gcT1 rfl) rfl ?_
  refine TLc.p (gc:=((!e16.Lost))) (p_ldE (xs:=l1) (a:=e17) (e17.Blocks:(List (List UInt8))) ty22 rfl rfl (fun e=>optG_t he17 e) rfl rfl rfl (hg:=fun e=>e)) (gcT1 rfl) rfl ?_
  refine TLc.p (gc:=((!e16.Lost))) (p_lenL (xs:=e17.Blocks) kd22 rfl (hg:=fun e=>e)) (gcT1 rfl) rfl ?_
  refine TLc.p (gc:=((!e16.Lost))) (p_mv rfl (hg:=fun e=>rfl)) (gcT1 rfl) rfl ?_
  refine TLc.p (gc:=((!e16.Lost))) (p_gtr rfl rfl (hg:=fun e=>⟨e,e⟩)) (gcT1 rfl) rfl ?_
  refine P1 (p_and rfl rfl (fun e=>⟨rfl,fun h=>h⟩)) rfl rfl (TL.nil (hK15 _ _ ?_))
  refine TK.cond (b:=((!e16.Lost)&&(decide ((e17.Blocks.length:Int)>n7)))) rfl (fun hc=>?_) (fun hc=>?_)
  ·have hX:=ite_t hc hX
   refine TK.reg ?_
   refine M rfl rfl (M rfl rfl ?_)
   obtain ⟨e18,he18,hX⟩:=bind_some hX
   refine P1 (p_iaL (xs:=l1) kd48 ty54 rfl rfl rfl (fun _=>he18)) rfl rfl (P1 (p_faE fs54_2 Dc rfl) rfl rfl (P1 (p_ldE (xs:=l1) (a:=e18) (e18.Blocks:(List (List UInt8))) ty22 rfl rfl (fun _=>he18) rfl rfl rfl) rfl rfl (P1 (p_lenL (xs:=e18.Blocks) kd22 rfl) rfl rfl (M rfl rfl (TL.nil ?_)))))
   exact J13 (e18.Blocks.length:Int) _ _ ⟨(),rfl,Nd_nil,HSub.refl _⟩ hX
  ·have hX:=ite_f hc hX
   refine TK.skip ?_
   exact J13 n7 _ _ ⟨(),rfl,Nd_nil,HSub.refl _⟩ hX
 ·have hX:=ite_f hc hX
  refine TK.exit ?_
  obtain rfl:=hR6 _ (some_in hX).symm
  exact E6 n7 _ _ ⟨(),rfl,Nd_nil,HSub.refl _⟩ hA6
theorem ok_cartridgeref1_NewReader (b1:(List UInt8)) (nd:Nd []) (r:((List UInt8)×Bool)) (hX:X.cartridgeref1_NewReader b1=some r):TCX Try.prog 143 [Enc.v (b1:(List UInt8))] [] (fun rv h'=>∃b5,rv= .ref b5 0 2∧h'=[(b5,RV 211 [Enc.v (r.1:(List UInt8)),Enc.v (r.2:Bool)])]):=by
 refine TCX.of b143 (Nat.le_of_ble_eq_true rfl) ?_
 unfold k143
 unfold X.cartridgeref1_NewReader at hX
 refine SR fun K2 hK2=>M rfl rfl (TL.nil (hK2 _ _ (SR fun K3 hK3=>M rfl rfl (P1 (p_bld (l:=Enc.cl ((Reader_ref1.mk b1 false):Reader_ref1)) ty211 rfl all211 rfl (fun _=>⟨⟨rfl,trivial,rfl⟩,trivial⟩)) rfl rfl ?_))))
 refine TLc.boxO (lu:=[Enc.v ((Reader_ref1.mk b1 false).b_:(List UInt8)),Enc.v ((Reader_ref1.mk b1 false).bad_:Bool)]) nd rfl (Cells_v ((Reader_ref1.mk b1 false):Reader_ref1)) rfl fun b4 nd=>?_
 refine M rfl rfl (TL.nil (hK3 _ _ ?_))
 refine TK.ret ?_
 try dsimp only[thenQ]
 exact retX (v:= .ref b4 0 2) (res1 rfl) (by obtain rfl:=some_in hX;exact ⟨b4,rfl,rfl⟩) nd (inH_ref nd (j:=0) rfl) ⟨rowIn_RV ⟨inH_val (v_val _),inH_val (v_val _),trivial⟩,trivial⟩
theorem ok_cartridgeref1_Reader_take (n4:Int) (b1:(List UInt8)) (bad2:Bool) (b3:Nat) (nd:Nd [(b3,RV 211 [Enc.v (b1:(List UInt8)),Enc.v (bad2:Bool)])]) (r:((List UInt8)×((List UInt8)×Bool))) (hX:X.cartridgeref1_Reader_take n4 b1 bad2=some r):TCX Try.prog 180 [.ref b3 0 2,Enc.v (n4:Int)] [(b3,RV 211 [Enc.v (b1:(List UInt8)),Enc.v (bad2:Bool)])] (fun rv h'=>rv=Enc.v (r.1:(List UInt8))∧h'=[(b3,RV 211 [Enc.v (r.2.1:(List UInt8)),Enc.v (r.2.2:Bool)])]):=by
 refine TCX.of b180 (Nat.le_of_ble_eq_true rfl) ?_
 unfold k180
 unfold X.cartridgeref1_Reader_take at hX
 refine SR fun K5 hK5=>M rfl rfl (TL.nil (hK5 _ _ ?_))
 refine TK.seq_k fun K6 hK6=>?_
 refine SR fun K7 hK7=>M rfl rfl (P1 (p_ncR rfl (fun _=>refOK_of nd (j:=0) rfl rfl)) rfl rfl (P1 (p_faV fs211_1 Dc rfl nd (j:=0) rfl rfl) rfl rfl (P1 (p_ldV (v:=Enc.v bad2) ty4 rfl rfl nd (j:=0) rfl rfl rfl rfl rfl) rfl rfl (M rfl rfl ?_))))
 refine TLc.p (gc:=(!bad2)) (p_mv rfl (hg:=fun e=>rfl)) (gcF1 rfl) rfl ?_
 refine TLc.p (gc:=(!bad2)) (p_ncR rfl (fun _=>refOK_of nd (j:=0) rfl rfl) (hg:=fun e=>e)) (gcF1 rfl) rfl ?_
 refine TLc.p (gc:=(!bad2)) (p_faV fs211_0 Dc rfl nd (j:=0) rfl rfl (hg:=fun e=>e)) (gcF1 rfl) rfl ?_
 refine TLc.p (gc:=(!bad2)) (p_ldV (v:=Enc.v b1) ty25 rfl rfl nd (j:=0) rfl rfl rfl rfl rfl (hg:=fun e=>e)) (gcF1 rfl) rfl ?_
 refine TLc.p (gc:=(!bad2)) (p_lenL (xs:=b1) kd25 rfl (hg:=fun e=>e)) (gcF1 rfl) rfl ?_
 refine TLc.p (gc:=(!bad2)) (p_mv rfl (hg:=fun e=>rfl)) (gcF1 rfl) rfl ?_
 refine TLc.p (gc:=(!bad2)) (p_lss rfl rfl (hg:=fun e=>⟨e,e⟩)) (gcF1 rfl) rfl ?_
 refine P1 (p_or rfl rfl (fun e=>⟨rfl,fun h=>(not_t h)⟩)) rfl rfl (TL.nil (hK7 _ _ ?_))
 refine TK.cond (b:=(bad2||(decide ((b1.length:Int)<n4)))) rfl (fun hc=>?_) (fun hc=>?_)
 ·have hX:=ite_t hc hX
  refine SR fun K8 hK8=>M rfl rfl (P1 (p_ncR rfl (fun _=>refOK_of nd (j:=0) rfl rfl)) rfl rfl (P1 (p_faV fs211_1 Dc rfl nd (j:=0) rfl rfl) rfl rfl ?_))
  refine TLc.stV (lu:=Enc.cl (true:Bool)) nd ty4 rfl (j:=0) rfl rfl rfl (Cells_v (true:Bool)) rfl rfl [Enc.v b1,Enc.v true] rfl fun nd=>?_
  refine TL.nil (hK8 _ _ (SR fun K9 hK9=>M rfl rfl (TL.nil (hK9 _ _ ?_))))
  refine TK.wk 4 (L ([]:(List UInt8))) rfl Wk_nil ?_
  refine TK.ret ?_
  try dsimp only[thenQ]
  exact retX (v:=Enc.v (([]:(List UInt8)):(List UInt8))) (res1 rfl) (by obtain rfl:=some_in hX;exact ⟨rfl,rfl⟩) nd (inH_val (v_val _)) ⟨rowIn_RV ⟨inH_val (v_val _),inH_val (v_val _),trivial⟩,trivial⟩
 ·have hX:=ite_f hc hX
  refine TK.skip ?_
  refine hK6 _ _ (SR fun K10 hK10=>M rfl rfl (P1 (p_ncR rfl (fun _=>refOK_of nd (j:=0) rfl rfl)) rfl rfl (P1 (p_faV fs211_0 Dc rfl nd (j:=0) rfl rfl) rfl rfl (P1 (p_ldV (v:=Enc.v b1) ty25 rfl rfl nd (j:=0) rfl rfl rfl rfl rfl) rfl rfl (M rfl rfl ?_)))))
  obtain ⟨u11,hu11,hX⟩:=bind_some hX
  refine P1 (p_sliL (xs:=b1) (l:=(0:Int)) (k:=n4) kd25 ty5 rfl rfl rfl rfl (fun e=>need_t hu11)) rfl rfl (M rfl rfl (TL.nil (hK10 _ _ (SR fun K12 hK12=>M rfl rfl (M rfl rfl (P1 (p_ncR rfl (fun _=>refOK_of nd (j:=0) rfl rfl)) rfl rfl (P1 (p_faV fs211_0 Dc rfl nd (j:=0) rfl rfl) rfl rfl (P1 (p_ldV (v:=Enc.v b1) ty25 rfl rfl nd (j:=0) rfl rfl rfl rfl rfl) rfl rfl (M rfl rfl ?_)))))))))
  obtain ⟨u13,hu13,hX⟩:=bind_some hX
  refine P1 (p_sliL (xs:=b1) (l:=n4) (k:=(b1.length:Int)) kd25 ty5 rfl rfl rfl rfl (fun e=>need_t hu13)) rfl rfl (P1 (p_ncR rfl (fun _=>refOK_of nd (j:=0) rfl rfl)) rfl rfl (P1 (p_faV fs211_0 Dc rfl nd (j:=0) rfl rfl) rfl rfl ?_))
  refine TLc.stV (lu:=Enc.cl ((slc b1 n4 (b1.length:Int)):(List UInt8))) nd ty25 rfl (j:=0) rfl rfl rfl (Cells_v ((slc b1 n4 (b1.length:Int)):(List UInt8))) rfl rfl [Enc.v ((slc b1 n4 (b1.length:Int)):(List UInt8)),Enc.v bad2] rfl fun nd=>?_
  refine TL.nil (hK12 _ _ (SR fun K14 hK14=>M rfl rfl (M rfl rfl (TL.nil (hK14 _ _ ?_)))))
  refine TK.ret ?_
  try dsimp only[thenQ]
  exact retX (v:=Enc.v ((slc b1 (0:Int) n4):(List UInt8))) (res1 rfl) (by obtain rfl:=some_in hX;exact ⟨rfl,rfl⟩) nd (inH_val (v_val _)) ⟨rowIn_RV ⟨inH_val (v_val _),inH_val (v_val _),trivial⟩,trivial⟩
theorem ok_cartridgeref1_Reader_Byte (b1:(List UInt8)) (bad2:Bool) (b3:Nat) (nd:Nd [(b3,RV 211 [Enc.v (b1:(List UInt8)),Enc.v (bad2:Bool)])]) (r:(UInt8×((List UInt8)×Bool))) (hX:X.cartridgeref1_Reader_Byte b1 bad2=some r):TCX Try.prog 145 [.ref b3 0 2] [(b3,RV 211 [Enc.v (b1:(List UInt8)),Enc.v (bad2:Bool)])] (fun rv h'=>rv=Enc.v (r.1:UInt8)∧h'=[(b3,RV 211 [Enc.v (r.2.1:(List UInt8)),Enc.v (r.2.2:Bool)])]):=by
 refine TCX.of b145 (Nat.le_of_ble_eq_true rfl) ?_
 unfold k145
 unfold X.cartridgeref1_Reader_Byte at hX
 refine SR fun K4 hK4=>M rfl rfl (TL.nil (hK4 _ _ (SR fun K5 hK5=>M rfl rfl ?_)))
 obtain ⟨r6,hr6,hX⟩:=bind_some hX
 refine TL.tcX [(b3,RV 211 [Enc.v b1,Enc.v bad2])] [] rfl nd (dlt rfl) rfl ⟨rfl,⟨rfl,⟨rfl,trivial⟩⟩⟩ (ok_cartridgeref1_Reader_take (1:Int) b1 bad2 b3 (Nd.take nd 1 rfl) _ hr6) ?_
 rintro _ _ hQ nd
 obtain ⟨rfl,rfl⟩:=hQ
 refine M rfl rfl (TL.nil (hK5 _ _ ?_))
 refine TK.seq_k fun K8 hK8=>?_
 refine SR fun K9 hK9=>M rfl rfl (P1 (p_lenL (xs:=r6.1) kd25 rfl) rfl rfl (P1 (p_eql rfl rfl) rfl rfl (TL.nil (hK9 _ _ ?_))))
 refine TK.cond (b:=((r6.1.length:Int)==(0:Int))) rfl (fun hc=>?_) (fun hc=>?_)
 ·have hX:=ite_t hc hX
  refine SR fun K10 hK10=>M rfl rfl (TL.nil (hK10 _ _ ?_))
  refine TK.ret ?_
  try dsimp only[thenQ]
  exact retX (v:=Enc.v ((0:UInt8):UInt8)) (res1 rfl) (by obtain rfl:=some_in hX;exact ⟨rfl,rfl⟩) nd (inH_val (v_val _)) ⟨rowIn_RV ⟨inH_val (v_val _),inH_val (v_val _),trivial⟩,trivial⟩
 ·have hX:=ite_f hc hX
  refine TK.skip ?_
  refine hK8 _ _ (SR fun K11 hK11=>M rfl rfl ?_)
  obtain ⟨e12,he12,hX⟩:=bind_some hX
  refine P1 (p_iaL (xs:=r6.1) kd25 ty5 rfl rfl rfl (fun _=>he12)) rfl rfl (P1 (p_ldE (xs:=r6.1) (a:=e12) (e12:UInt8) ty5 rfl rfl (fun _=>he12) rfl rfl rfl) rfl rfl (M rfl rfl (TL.nil (hK11 _ _ ?_))))
  refine TK.ret ?_
  try dsimp only[thenQ]
  exact retX (v:=Enc.v e12) (res1 rfl) (by obtain rfl:=some_in hX;exact ⟨rfl,rfl⟩) nd (inH_val (v_val _)) ⟨rowIn_RV ⟨inH_val (v_val _),inH_val (v_val _),trivial⟩,trivial⟩
theorem ok_cartridgeref1_Reader_Int (b1:(List UInt8)) (bad2:Bool) (b3:Nat) (nd:Nd [(b3,RV 211 [Enc.v (b1:(List UInt8)),Enc.v (bad2:Bool)])]) (r:(Int×((List UInt8)×Bool))) (hX:X.cartridgeref1_Reader_Int b1 bad2=some r):TCX Try.prog 144 [.ref b3 0 2] [(b3,RV 211 [Enc.v (b1:(List UInt8)),Enc.v (bad2:Bool)])] (fun rv h'=>rv=Enc.v (r.1:Int)∧h'=[(b3,RV 211 [Enc.v (r.2.1:(List UInt8)),Enc.v (r.2.2:Bool)])]):=by
 refine TCX.of b144 (Nat.le_of_ble_eq_true rfl) ?_
 unfold k144
 unfold X.cartridgeref1_Reader_Int at hX
 refine SR fun K4 hK4=>M rfl rfl (TL.nil (hK4 _ _ (SR fun K5 hK5=>M rfl rfl ?_)))
 obtain ⟨r6,hr6,hX⟩:=bind_some hX
 refine TL.tcX [(b3,RV 211 [Enc.v b1,Enc.v bad2])] [] rfl nd (dlt rfl) rfl ⟨rfl,⟨rfl,⟨rfl,trivial⟩⟩⟩ (ok_cartridgeref1_Reader_take (4:Int) b1 bad2 b3 (Nd.take nd 1 rfl) _ hr6) ?_
 rintro _ _ hQ nd
 obtain ⟨rfl,rfl⟩:=hQ
 refine M rfl rfl (TL.nil (hK5 _ _ (SR fun K8 hK8=>M rfl rfl (TL.nil (hK8 _ _ ?_)))))
 refine TK.seq_k fun K9 hK9=>?_
 refine SR fun K10 hK10=>M rfl rfl (TL.nil (hK10 _ _ ?_))
 refine TK.block ?_
 obtain ⟨o11,hO11,hA11⟩:=bind_some hX
 have E11:∀(n16:Int) (env:Env) (h:Hp),(∃_u:Unit,keepE [0,4] env=[(0,true,.ref b3 0 2),(4,true,Enc.v n16)]∧Nd [(b3,RV 211 [Enc.v r6.2.1,Enc.v r6.2.2])]∧HSub [(b3,RV 211 [Enc.v r6.2.1,Enc.v r6.2.2])] h)→X.cartridgeref1_Reader_Int_e11 r6 n16=some r→K9 env h:=by
  intro n16 env h hE hX
  obtain ⟨_u,henv,nd,hs⟩:=hE
  unfold X.cartridgeref1_Reader_Int_e11 at hX
  refine hK9 _ _ (TK.keep [0,4] ?_)
  rw[henv]
  refine TK.subH hs ?_
  refine SR fun K17 hK17=>M rfl rfl (M rfl rfl (TL.nil (hK17 _ _ ?_)))
  refine TK.ret ?_
  try dsimp only[thenQ]
  exact retX (v:=Enc.v n16) (res1 rfl) (by obtain rfl:=some_in hX;exact ⟨rfl,rfl⟩) nd (inH_val (v_val _)) ⟨rowIn_RV ⟨inH_val (v_val _),inH_val (v_val _),trivial⟩,trivial⟩
 refine TK.iter [0,3,4,5] (fun s env h=>match s with|(n13,i14)=>∃_u:Unit,env=[(0,true,.ref b3 0 2),(3,true,Enc.v r6.1),(4,true,Enc.v n13),(5,true,Enc.v i14)]∧Nd [(b3,RV 211 [Enc.v r6.2.1,Enc.v r6.2.2])]∧HSub [(b3,RV 211 [Enc.v r6.2.1,Enc.v r6.2.2])] h) hO11 ⟨(),rfl,(Nd.pick nd (is:=[0]) Dc),(HSub.pick nd (is:=[0]) Dc)⟩ ?_
 rintro ⟨n13,i14⟩ env h x11x ⟨_u,rfl,nd,hs⟩ hX hR11
 refine TK.subH hs ?_
 unfold X.cartridgeref1_Reader_Int_s11 at hX
 try dsimp only at hX
 refine TK.seq_k fun K18 hK18=>?_
 refine SR fun K19 hK19=>M rfl rfl (M rfl rfl (P1 (p_lenL (xs:=r6.1) kd25 rfl) rfl rfl (P1 (p_lss rfl rfl) rfl rfl (TL.nil (hK19 _ _ ?_)))))
 refine TK.cond (b:=(decide (i14<(r6.1.length:Int)))) rfl (fun hc=>?_) (fun hc=>?_)
 ·have hX:=ite_t hc hX
  refine TK.skip ?_
  refine hK18 _ _ ?_
  refine TK.seq_k fun K20 hK20=>?_
  refine TK.block ?_
  refine TK.reg ?_
  refine M rfl rfl (P1 (p_shl rfl rfl (fun _=>by omega)) rfl rfl (M rfl rfl (M rfl rfl ?_)))
  obtain ⟨e21,he21,hX⟩:=bind_some hX
  refine P1 (p_iaL (xs:=r6.1) kd25 ty5 rfl rfl rfl (fun _=>he21)) rfl rfl (P1 (p_ldE (xs:=r6.1) (a:=e21) (e21:UInt8) ty5 rfl rfl (fun _=>he21) rfl rfl rfl) rfl rfl (P1 (p_cvt src5 kd3 rfl (cv_8 e21)) rfl rfl (P1 (p_or64 rfl rfl) rfl rfl (M rfl rfl (TL.nil (hK20 _ _ ?_))))))
  refine TK.reg ?_
  refine M rfl rfl (P1 (p_add rfl rfl) rfl rfl (M rfl rfl (TL.nil ?_)))
  exact ⟨_,(some_in hX).symm,(),rfl,(Nd.pick nd (is:=[0]) Dc),(HSub.pick nd (is:=[0]) Dc)⟩
 ·have hX:=ite_f hc hX
  refine TK.exit ?_
  obtain rfl:=hR11 _ (some_in hX).symm
  exact E11 n13 _ _ ⟨(),rfl,(Nd.pick nd (is:=[0]) Dc),(HSub.pick nd (is:=[0]) Dc)⟩ hA11
theorem ok_cartridgeref1_Reader_Bad (b1:(List UInt8)) (bad2:Bool) (r:Bool) (hX:X.cartridgeref1_Reader_Bad b1 bad2=some r):Fun Try.prog 179 [.vref (ofL [Enc.v (b1:(List UInt8)),Enc.v (bad2:Bool)]) 2 0] (·=Enc.v (r:Bool)):=by
 refine Fun.of b179 (Nat.le_of_ble_eq_true rfl) (allVal.mem ⟨(by exact (vref_val (l:=[Enc.v (b1:(List UInt8)),Enc.v (bad2:Bool)]) rfl ⟨(v_val _),(v_val _),trivial⟩)),trivial⟩) ?_
 unfold k179
 have nd:Nd []:=Nd_nil
 unfold X.cartridgeref1_Reader_Bad at hX
 refine SR fun K3 hK3=>M rfl rfl (TL.nil (hK3 _ _ (SR fun K4 hK4=>M rfl rfl (P1 (p_ncV rfl) rfl rfl (P1 (p_faR fs211_1 Dc rfl) rfl rfl (P1 (p_ldR (v:=Enc.v bad2) ty4 rfl rfl rfl rfl rfl rfl) rfl rfl (M rfl rfl (TL.nil (hK4 _ _ ?_)))))))))
 refine TK.ret ?_
 try dsimp only[thenQ]
 exact R1 rfl hX
theorem ok_cartridgeref1_Reader_Left (b1:(List UInt8)) (bad2:Bool) (r:Int) (hX:X.cartridgeref1_Reader_Left b1 bad2=some r):Fun Try.prog 146 [.vref (ofL [Enc.v (b1:(List UInt8)),Enc.v (bad2:Bool)]) 2 0] (·=Enc.v (r:Int)):=by
 refine Fun.of b146 (Nat.le_of_ble_eq_true rfl) (allVal.mem ⟨(by exact (vref_val (l:=[Enc.v (b1:(List UInt8)),Enc.v (bad2:Bool)]) rfl ⟨(v_val _),(v_val _),trivial⟩)),trivial⟩) ?_
 unfold k146
 have nd:Nd []:=Nd_nil
 unfold X.cartridgeref1_Reader_Left at hX
 refine SR fun K3 hK3=>M rfl rfl (TL.nil (hK3 _ _ ?_))
 refine TK.seq_k fun K4 hK4=>?_
 refine SR fun K5 hK5=>M rfl rfl (P1 (p_ncV rfl) rfl rfl (P1 (p_faR fs211_1 Dc rfl) rfl rfl (P1 (p_ldR (v:=Enc.v bad2) ty4 rfl rfl rfl rfl rfl rfl) rfl rfl (TL.nil (hK5 _ _ ?_)))))
 refine TK.cond (b:=bad2) rfl (fun hc=>?_) (fun hc=>?_)
 ·have hX:=ite_t hc hX
  refine SR fun K6 hK6=>M rfl rfl (TL.nil (hK6 _ _ ?_))
  refine TK.ret ?_
  try dsimp only[thenQ]
  exact R1 rfl hX
 ·have hX:=ite_f hc hX
  refine TK.skip ?_
  refine hK4 _ _ (SR fun K7 hK7=>M rfl rfl (P1 (p_ncV rfl) rfl rfl (P1 (p_faR fs211_0 Dc rfl) rfl rfl (P1 (p_ldR (v:=Enc.v b1) ty25 rfl rfl rfl rfl rfl rfl) rfl rfl (P1 (p_lenL (xs:=b1) kd25 rfl) rfl rfl (M rfl rfl (TL.nil (hK7 _ _ ?_))))))))
  refine TK.ret ?_
  try dsimp only[thenQ]
  exact R1 rfl hX
theorem bc_cartridgeref1_GetFrame:BodyC cx 140 57 [.c 2 68,.t 3] k140:=⟨Enters.of Try.func140 (by kernel_rfl) (by kernel_rfl),_,_,Try.func140,rfl,by kernel_rfl,rfl,rfl⟩
theorem ok_cartridgeref1_GetFrame (b1:(List UInt8)) (r:(Unit_api×Int)) (hX:X.cartridgeref1_GetFrame b1=some r):Fun Try.prog 140 [Enc.v (b1:(List UInt8))] (·= .tup 2 (ofL [Enc.v r.1,Enc.v r.2])):=by
 refine Fun.ofC (C:=cx) bc_cartridgeref1_GetFrame (Nat.le_of_ble_eq_true rfl) (allVal.mem ⟨(by exact (v_val _)),trivial⟩) ?_
 unfold k140
 have nd:Nd []:=Nd_nil
 unfold X.cartridgeref1_GetFrame at hX
 refine SR fun K2 hK2=>?_
 refine TLc.alO (l:=[Enc.v ((0:Int):Int),Enc.v ((0:Int):Int),Enc.v ((0:Int):Int),.nils]) nd ty68 ti68_z rfl rfl fun b3 nd=>?_
 refine M rfl rfl (TL.nil (hK2 _ _ ?_))
 refine TK.ownC (α:=UInt8) nd (j:=0) rfl 3 5 (.inl rfl) fun b4 nd=>?_
 refine SR fun K5 hK5=>M rfl rfl ?_
 obtain ⟨r6,hr6,hX⟩:=bind_some hX
 refine TL.tcX [] [(b4,RL (α:=UInt8) 5 ([]:List UInt8)),(b3,RV 68 [Enc.v ((0:Int):Int),Enc.v ((0:Int):Int),Enc.v ((0:Int):Int),OL (α:=UInt8) b4 ([]:List UInt8)])] rfl nd (dlt rfl) rfl ⟨rfl,⟨rfl,trivial⟩⟩ (ok_cartridgeref1_NewReader b1 (Nd.take nd 0 rfl) _ hr6) ?_
 rintro _ _ hQ nd
 obtain ⟨b7,rfl,rfl⟩:=hQ
 refine M rfl rfl (TL.nil (hK5 _ _ (SR fun K8 hK8=>M rfl rfl ?_)))
 obtain ⟨r9,hr9,hX⟩:=bind_some hX
 refine TL.tcX [(b7,RV 211 [Enc.v r6.1,Enc.v r6.2])] [(b4,RL (α:=UInt8) 5 ([]:List UInt8)),(b3,RV 68 [Enc.v ((0:Int):Int),Enc.v ((0:Int):Int),Enc.v ((0:Int):Int),OL (α:=UInt8) b4 ([]:List UInt8)])] rfl nd (dlt rfl) rfl ⟨rfl,⟨rfl,trivial⟩⟩ (ok_cartridgeref1_Reader_Byte r6.1 r6.2 b7 (Nd.take nd 1 rfl) _ hr9) ?_
 rintro _ _ hQ nd
 obtain ⟨rfl,rfl⟩:=hQ
 refine P1 (p_cvt src5 kd3 rfl (cv_8 r9.1)) rfl rfl (M rfl rfl ?_)
 obtain ⟨r11,hr11,hX⟩:=bind_some hX
 refine TL.tcX [(b7,RV 211 [Enc.v r9.2.1,Enc.v r9.2.2])] [(b4,RL (α:=UInt8) 5 ([]:List UInt8)),(b3,RV 68 [Enc.v ((0:Int):Int),Enc.v ((0:Int):Int),Enc.v ((0:Int):Int),OL (α:=UInt8) b4 ([]:List UInt8)])] rfl nd (dlt rfl) rfl ⟨rfl,⟨rfl,trivial⟩⟩ (ok_cartridgeref1_Reader_Int r9.2.1 r9.2.2 b7 (Nd.take nd 1 rfl) _ hr11) ?_
 rintro _ _ hQ nd
 obtain ⟨rfl,rfl⟩:=hQ
 refine M rfl rfl ?_
 obtain ⟨r13,hr13,hX⟩:=bind_some hX
 refine TL.tcX [(b7,RV 211 [Enc.v r11.2.1,Enc.v r11.2.2])] [(b4,RL (α:=UInt8) 5 ([]:List UInt8)),(b3,RV 68 [Enc.v ((0:Int):Int),Enc.v ((0:Int):Int),Enc.v ((0:Int):Int),OL (α:=UInt8) b4 ([]:List UInt8)])] rfl nd (dlt rfl) rfl ⟨rfl,⟨rfl,trivial⟩⟩ (ok_cartridgeref1_Reader_Int r11.2.1 r11.2.2 b7 (Nd.take nd 1 rfl) _ hr13) ?_
 rintro _ _ hQ nd
 obtain ⟨rfl,rfl⟩:=hQ
 refine P1 (p_bld (l:=[Enc.v ((r9.1.toNat:Int):Int),Enc.v r11.1,Enc.v r13.1,.nils]) ty68 rfl all68 rfl (fun _=>⟨⟨rfl,trivial,rfl⟩,⟨rfl,trivial,rfl⟩,⟨rfl,trivial,rfl⟩,trivial⟩)) rfl rfl ?_
 refine TLc.alO (l:=[Enc.v ((0:Int):Int),Enc.v ((0:Int):Int),Enc.v ((0:Int):Int),.nils]) nd ty68 ti68_z rfl rfl fun b15 nd=>?_
 refine TLc.stV (lu:=[Enc.v ((r9.1.toNat:Int):Int),Enc.v r11.1,Enc.v r13.1,.nils]) nd ty68 rfl (j:=0) rfl rfl rfl (Cells_agg rfl (allA.mem ⟨trivial,trivial,trivial,trivial,trivial⟩)) rfl rfl [Enc.v ((r9.1.toNat:Int):Int),Enc.v r11.1,Enc.v r13.1,.nils] rfl fun nd=>?_
 refine TL.nil (hK8 _ _ ?_)
 refine TK.ownC (α:=UInt8) nd (j:=0) rfl 3 5 (.inl rfl) fun b16 nd=>?_
 refine SR fun K17 hK17=>M rfl rfl ?_
 obtain ⟨r18,hr18,hX⟩:=bind_some hX
 refine TL.pick [2,0,1,3,4] nd Dc fun nd=>?_
 refine TL.tcX [(b7,RV 211 [Enc.v r13.2.1,Enc.v r13.2.2])] [(b16,RL (α:=UInt8) 5 ([]:List UInt8)),(b15,RV 68 [Enc.v ((r9.1.toNat:Int):Int),Enc.v r11.1,Enc.v r13.1,OL (α:=UInt8) b16 ([]:List UInt8)]),(b4,RL (α:=UInt8) 5 ([]:List UInt8)),(b3,RV 68 [Enc.v ((0:Int):Int),Enc.v ((0:Int):Int),Enc.v ((0:Int):Int),OL (α:=UInt8) b4 ([]:List UInt8)])] rfl nd (dlt rfl) rfl ⟨rfl,⟨rfl,trivial⟩⟩ (ok_cartridgeref1_Reader_Byte r13.2.1 r13.2.2 b7 (Nd.take nd 1 rfl) _ hr18) ?_
 rintro _ _ hQ nd
 obtain ⟨rfl,rfl⟩:=hQ
 refine P1 (p_cvt src5 kd3 rfl (cv_8 r18.1)) rfl rfl (P1 (p_mul rfl rfl) rfl rfl (M rfl rfl ?_))
 obtain ⟨r20,hr20,hX⟩:=bind_some hX
 refine TL.tcX [(b7,RV 211 [Enc.v r18.2.1,Enc.v r18.2.2])] [(b16,RL (α:=UInt8) 5 ([]:List UInt8)),(b15,RV 68 [Enc.v ((r9.1.toNat:Int):Int),Enc.v r11.1,Enc.v r13.1,OL (α:=UInt8) b16 ([]:List UInt8)]),(b4,RL (α:=UInt8) 5 ([]:List UInt8)),(b3,RV 68 [Enc.v ((0:Int):Int),Enc.v ((0:Int):Int),Enc.v ((0:Int):Int),OL (α:=UInt8) b4 ([]:List UInt8)])] rfl nd (dlt rfl) rfl ⟨rfl,⟨rfl,trivial⟩⟩ (ok_cartridgeref1_Reader_Byte r18.2.1 r18.2.2 b7 (Nd.take nd 1 rfl) _ hr20) ?_
 rintro _ _ hQ nd
 obtain ⟨rfl,rfl⟩:=hQ
 refine P1 (p_cvt src5 kd3 rfl (cv_8 r20.1)) rfl rfl (P1 (p_add rfl rfl) rfl rfl (M rfl rfl (TL.nil (hK17 _ _ ?_))))
 refine TK.seq_k fun K22 hK22=>?_
 refine SR fun K23 hK23=>M rfl rfl ?_
 obtain ⟨r24,hr24,hX⟩:=bind_some hX
 refine TL.lookX [.vref (ofL [Enc.v r20.2.1,Enc.v r20.2.2]) 2 0] rfl rfl rfl (fun _=>⟨rfl,⟨rfl,trivial⟩⟩) ⟨look_ref (l:=[Enc.v r20.2.1,Enc.v r20.2.2]) nd (j:=0) rfl ⟨look_v (v:=Enc.v r20.2.1) (v_val _),look_v (v:=Enc.v r20.2.2) (v_val _),trivial⟩,trivial⟩ (fun e=>ok_cartridgeref1_Reader_Bad r20.2.1 r20.2.2 _ hr24) (trivial) ?_
 refine M rfl rfl ?_
 refine TLc.p (gc:=(!r24)) (p_mv rfl (hg:=fun e=>rfl)) (gcF1 rfl) rfl ?_
 refine TLc.p (gc:=(!r24)) (p_mv rfl (hg:=fun e=>rfl)) (gcF1 rfl) rfl ?_
 obtain ⟨r25,hr25,hX⟩:=bind_some hX
 refine TL.lookX [.vref (ofL [Enc.v r20.2.1,Enc.v r20.2.2]) 2 0] (gcF1 rfl) rfl rfl (fun e=>⟨rfl,⟨e,trivial⟩⟩) ⟨look_ref (l:=[Enc.v r20.2.1,Enc.v r20.2.2]) nd (j:=0) rfl ⟨look_v (v:=Enc.v r20.2.1) (v_val _),look_v (v:=Enc.v r20.2.2) (v_val _),trivial⟩,trivial⟩ (fun e=>ok_cartridgeref1_Reader_Left r20.2.1 r20.2.2 _ (optG_t hr25 e)) (trivial) ?_
 refine TLc.p (gc:=(!r24)) (p_gtr rfl rfl (hg:=fun e=>⟨e,e⟩)) (gcF1 rfl) rfl ?_
 refine P1 (p_or rfl rfl (fun e=>⟨rfl,fun h=>(not_t h)⟩)) rfl rfl (TL.nil (hK23 _ _ ?_))
 refine TK.cond (b:=(r24||(decide ((wr ((wr ((256:Int)*(r18.1.toNat:Int)))+(r20.1.toNat:Int)))>r25)))) rfl (fun hc=>?_) (fun hc=>?_)
 ·have hX:=ite_t hc hX
  refine SR fun K26 hK26=>P1 (p_bld (l:=[Enc.v ((0:Int):Int),Enc.v ((0:Int):Int),Enc.v ((0:Int):Int),.nils]) ty68 rfl all68 rfl (fun _=>trivial)) rfl rfl ?_
  refine TLc.stV (lu:=[Enc.v ((0:Int):Int),Enc.v ((0:Int):Int),Enc.v ((0:Int):Int),.nils]) nd ty68 rfl (j:=4) rfl rfl rfl (Cells_agg rfl (allA.mem ⟨trivial,trivial,trivial,trivial,trivial⟩)) rfl rfl [Enc.v ((0:Int):Int),Enc.v ((0:Int):Int),Enc.v ((0:Int):Int),.nils] rfl fun nd=>?_
  refine M rfl rfl (TL.nil (hK26 _ _ ?_))
  refine TK.ownC (α:=UInt8) nd (j:=4) rfl 3 5 (.inl rfl) fun b27 nd=>?_
  refine TK.layR (l2':=[Enc.v ((0:Int):Int),Enc.v ((0:Int):Int),Enc.v ((0:Int):Int),Enc.v (([]:List UInt8):(List UInt8))]) [] nd (j:=0) rfl 5 rfl rfl ⟨fix_id _,fix_id _,fix_id _,fix_OL nd (j:=0) rfl,trivial⟩ trivial fun nd=>?_
  refine TK.ret ?_
  try dsimp only[thenQ]
  exact retC [Enc.v ((Unit_api.mk (0:Int) (0:Int) (0:Int) ([]:List UInt8)):Unit_api),Enc.v ((2:Int):Int)] ⟨p_ldVa (l':=Enc.cl ((Unit_api.mk (0:Int) (0:Int) (0:Int) ([]:List UInt8)):Unit_api)) ty68 rfl rfl nd (j:=4) rfl rfl rfl rfl (Nat.le_of_ble_eq_true rfl),p_mv rfl,trivial⟩ (by obtain rfl:=some_in hX;rfl) (tup_val (allVal.mem ⟨v_val _,v_val _,trivial⟩))
 ·have hX:=ite_f hc hX
  refine TK.skip ?_
  refine hK22 _ _ (SR fun K28 hK28=>M rfl rfl (M rfl rfl ?_))
  obtain ⟨r29,hr29,hX⟩:=bind_some hX
  refine TL.tcX [(b7,RV 211 [Enc.v r20.2.1,Enc.v r20.2.2])] [(b16,RL (α:=UInt8) 5 ([]:List UInt8)),(b15,RV 68 [Enc.v ((r9.1.toNat:Int):Int),Enc.v r11.1,Enc.v r13.1,OL (α:=UInt8) b16 ([]:List UInt8)]),(b4,RL (α:=UInt8) 5 ([]:List UInt8)),(b3,RV 68 [Enc.v ((0:Int):Int),Enc.v ((0:Int):Int),Enc.v ((0:Int):Int),OL (α:=UInt8) b4 ([]:List UInt8)])] rfl nd (dlt rfl) rfl ⟨rfl,⟨rfl,⟨rfl,trivial⟩⟩⟩ (ok_cartridgeref1_Reader_take (wr ((wr ((256:Int)*(r18.1.toNat:Int)))+(r20.1.toNat:Int))) r20.2.1 r20.2.2 b7 (Nd.take nd 1 rfl) _ hr29) ?_
  rintro _ _ hQ nd
  obtain ⟨rfl,rfl⟩:=hQ
  obtain ⟨u31,hu31,hX⟩:=bind_some hX
  refine TLc.appN nd kd25 bo25 ty5 rfl rfl (.inl rfl) rfl (Src_L _) Dc (need_t hu31) rfl fun b32 nd=>?_
  refine P1 (p_faV fs68_3 Dc rfl nd (j:=3) rfl rfl) rfl rfl ?_
  refine TLc.stV (lu:=[OL (α:=UInt8) b32 r29.1]) nd ty25 rfl (j:=3) rfl rfl rfl (Cells_rs (refOK_of nd (j:=0) rfl rfl)) rfl rfl [Enc.v ((r9.1.toNat:Int):Int),Enc.v r11.1,Enc.v r13.1,OL (α:=UInt8) b32 r29.1] rfl fun nd=>?_
  refine TL.nil (hK28 _ _ (SR fun K33 hK33=>?_))
  refine TL.layR (l2':=[Enc.v ((r9.1.toNat:Int):Int),Enc.v r11.1,Enc.v r13.1,Enc.v r29.1]) [] nd (j:=0) rfl 3 rfl rfl ⟨fix_id _,fix_id _,fix_id _,fix_OL nd (j:=0) rfl,trivial⟩ trivial fun nd=>?_
  refine P1 (p_ldVa (l':=Enc.cl ((Unit_api.mk (r9.1.toNat:Int) r11.1 r13.1 r29.1):Unit_api)) ty68 rfl rfl nd (j:=2) rfl rfl rfl rfl (Nat.le_of_ble_eq_true rfl)) rfl rfl ?_
  obtain ⟨r34,hr34,hX⟩:=bind_some hX
  refine TL.cvX rfl rfl rfl (fun _=>⟨rfl,⟨rfl,trivial⟩⟩) (fun e=>ok_cartridgeref1_PutFrame (Unit_api.mk (r9.1.toNat:Int) r11.1 r13.1 r29.1) _ hr34) ?_
  refine M rfl rfl (P1 (p_ex rfl rfl Dc) rfl rfl (P1 (p_ex rfl rfl Dc) rfl rfl (M rfl rfl (M rfl rfl (TL.nil (hK33 _ _ ?_))))))
  refine TK.seq_k fun K35 hK35=>?_
  refine SR fun K36 hK36=>M rfl rfl (P1 (p_neq rfl rfl) rfl rfl (M rfl rfl ?_))
  refine TLc.p (gc:=(!((r34.2 !=(0:Int))))) (p_mv rfl (hg:=fun e=>rfl)) (gcF1 rfl) rfl ?_
  refine TL.ofV (gc:=(!((r34.2 !=(0:Int))))) (vok_cvtBS (C:=cx) (gc:=(!((r34.2 !=(0:Int))))) (xs:=r34.1) kd25 kd5 kd9 rfl (look_v (v:=Enc.v r34.1) (v_val _)) (hg:=fun e=>e)) (gcF1 rfl) rfl ?_
  refine TLc.p (gc:=(!((r34.2 !=(0:Int))))) (p_mv rfl (hg:=fun e=>rfl)) (gcF1 rfl) rfl ?_
  refine TL.ofV (gc:=(!((r34.2 !=(0:Int))))) (vok_cvtBS (C:=cx) (gc:=(!((r34.2 !=(0:Int))))) (xs:=b1) kd25 kd5 kd9 rfl (look_v (v:=Enc.v b1) (v_val _)) (hg:=fun e=>e)) (gcF1 rfl) rfl ?_
  refine TLc.p (gc:=(!((r34.2 !=(0:Int))))) (ps_neq (s:=(Str.mk r34.1)) (r:=(Str.mk b1)) rfl rfl (hg:=fun e=>⟨e,e⟩)) (gcF1 rfl) rfl ?_
  refine P1 (p_or rfl rfl (fun e=>⟨rfl,fun h=>(not_t h)⟩)) rfl rfl (TL.nil (hK36 _ _ ?_))
  refine TK.cond (b:=((r34.2 !=(0:Int))||(!((Str.mk r34.1).l==(Str.mk b1).l)))) rfl (fun hc=>?_) (fun hc=>?_)
  ·have hX:=ite_t hc hX
   refine SR fun K37 hK37=>P1 (p_bld (l:=[Enc.v ((0:Int):Int),Enc.v ((0:Int):Int),Enc.v ((0:Int):Int),.nils]) ty68 rfl all68 rfl (fun _=>trivial)) rfl rfl ?_
   refine TLc.stV (lu:=[Enc.v ((0:Int):Int),Enc.v ((0:Int):Int),Enc.v ((0:Int):Int),.nils]) nd ty68 rfl (j:=4) rfl rfl rfl (Cells_agg rfl (allA.mem ⟨trivial,trivial,trivial,trivial,trivial⟩)) rfl rfl [Enc.v ((0:Int):Int),Enc.v ((0:Int):Int),Enc.v ((0:Int):Int),.nils] rfl fun nd=>?_
   refine M rfl rfl (TL.nil (hK37 _ _ ?_))
   refine TK.ownC (α:=UInt8) nd (j:=4) rfl 3 5 (.inl rfl) fun b38 nd=>?_
   refine TK.layR (l2':=[Enc.v ((0:Int):Int),Enc.v ((0:Int):Int),Enc.v ((0:Int):Int),Enc.v (([]:List UInt8):(List UInt8))]) [] nd (j:=0) rfl 5 rfl rfl ⟨fix_id _,fix_id _,fix_id _,fix_OL nd (j:=0) rfl,trivial⟩ trivial fun nd=>?_
   refine TK.ret ?_
   try dsimp only[thenQ]
   exact retC [Enc.v ((Unit_api.mk (0:Int) (0:Int) (0:Int) ([]:List UInt8)):Unit_api),Enc.v ((2:Int):Int)] ⟨p_ldVa (l':=Enc.cl ((Unit_api.mk (0:Int) (0:Int) (0:Int) ([]:List UInt8)):Unit_api)) ty68 rfl rfl nd (j:=4) rfl rfl rfl rfl (Nat.le_of_ble_eq_true rfl),p_mv rfl,trivial⟩ (by obtain rfl:=some_in hX;rfl) (tup_val (allVal.mem ⟨v_val _,v_val _,trivial⟩))
  ·have hX:=ite_f hc hX
   refine TK.skip ?_
   refine hK35 _ _ (SR fun K39 hK39=>P1 (p_ldVa (l':=Enc.cl ((Unit_api.mk (r9.1.toNat:Int) r11.1 r13.1 r29.1):Unit_api)) ty68 rfl rfl nd (j:=2) rfl rfl rfl rfl (Nat.le_of_ble_eq_true rfl)) rfl rfl ?_)
   refine TLc.stV (lu:=Enc.cl ((Unit_api.mk (r9.1.toNat:Int) r11.1 r13.1 r29.1):Unit_api)) nd ty68 rfl (j:=4) rfl rfl rfl (Cells_v ((Unit_api.mk (r9.1.toNat:Int) r11.1 r13.1 r29.1):Unit_api)) rfl rfl [Enc.v ((Unit_api.mk (r9.1.toNat:Int) r11.1 r13.1 r29.1).Kind:Int),Enc.v ((Unit_api.mk (r9.1.toNat:Int) r11.1 r13.1 r29.1).Label:Int),Enc.v ((Unit_api.mk (r9.1.toNat:Int) r11.1 r13.1 r29.1).Number:Int),Enc.v ((Unit_api.mk (r9.1.toNat:Int) r11.1 r13.1 r29.1).Load:(List UInt8))] rfl fun nd=>?_
   refine M rfl rfl (TL.nil (hK39 _ _ ?_))
   refine TK.ret ?_
   try dsimp only[thenQ]
   exact retC [Enc.v ((Unit_api.mk (r9.1.toNat:Int) r11.1 r13.1 r29.1):Unit_api),Enc.v ((0:Int):Int)] ⟨p_ldVa (l':=Enc.cl ((Unit_api.mk (r9.1.toNat:Int) r11.1 r13.1 r29.1):Unit_api)) ty68 rfl rfl nd (j:=4) rfl rfl rfl rfl (Nat.le_of_ble_eq_true rfl),p_mv rfl,trivial⟩ (by obtain rfl:=some_in hX;rfl) (tup_val (allVal.mem ⟨v_val _,v_val _,trivial⟩))
theorem bc_cartridgeref10_Good:BodyC cx 89 48 [.c 4 68,.t 5] k89:=⟨Enters.of Try.func89 (by kernel_rfl) (by kernel_rfl),_,_,Try.func89,rfl,by kernel_rfl,rfl,rfl⟩
theorem ok_cartridgeref10_Good (t1:Tape_api) (n2:Int) (r:(Unit_api×Bool)) (hX:X.cartridgeref10_Good t1 n2=some r):Fun Try.prog 89 [Enc.v (t1:Tape_api),Enc.v (n2:Int)] (·= .tup 2 (ofL [Enc.v r.1,Enc.v r.2])):=by
 refine Fun.ofC (C:=cx) bc_cartridgeref10_Good (Nat.le_of_ble_eq_true rfl) (allVal.mem ⟨(by exact (v_val _)),(by exact (v_val _)),trivial⟩) ?_
 unfold k89
 have nd:Nd []:=Nd_nil
 unfold X.cartridgeref10_Good at hX
 refine SR fun K3 hK3=>?_
 refine TLc.boxV (lu:=[Enc.v t1.Label,Enc.v t1.Cap,Enc.v t1.Blocks,Enc.v t1.Lost]) nd rfl (Cells_v (t1:Tape_api)) rfl ?_
 refine TLc.alO (l:=[Enc.v ((0:Int):Int),Enc.v ((0:Int):Int),Enc.v ((0:Int):Int),.nils]) nd ty68 ti68_z rfl rfl fun b4 nd=>?_
 refine M rfl rfl (TL.nil (hK3 _ _ ?_))
 refine TK.cvR nd (j:=0) rfl (l':=[Enc.v ((0:Int):Int),Enc.v ((0:Int):Int),Enc.v ((0:Int):Int),Enc.v (([]:(List UInt8)):(List UInt8))]) ⟨Wk.refl _,Wk.refl _,Wk.refl _,Wk_nil,trivial⟩ fun nd=>?_
 refine TK.seq_k fun K5 hK5=>?_
 refine SR fun K6 hK6=>P1 (p_faR fs54_3 Dc rfl) rfl rfl (P1 (p_ldR (v:=Enc.v t1.Lost) ty4 rfl rfl rfl rfl rfl rfl) rfl rfl (M rfl rfl ?_))
 refine TLc.p (gc:=(!(t1.Lost))) (p_mv rfl (hg:=fun e=>rfl)) (gcF1 rfl) rfl ?_
 refine TLc.p (gc:=(!(t1.Lost))) (p_lss rfl rfl (hg:=fun e=>⟨e,rfl⟩)) (gcF1 rfl) rfl ?_
 refine P1 (p_or rfl rfl (fun e=>⟨rfl,fun h=>(not_t h)⟩)) rfl rfl (M rfl rfl ?_)
 refine TLc.p (gc:=(!((t1.Lost||(decide (n2<(0:Int))))))) (p_mv rfl (hg:=fun e=>rfl)) (gcF1 rfl) rfl ?_
 refine TLc.p (gc:=(!((t1.Lost||(decide (n2<(0:Int))))))) (p_faR fs54_2 Dc rfl (hg:=fun e=>rfl)) (gcF1 rfl) rfl ?_
 refine TLc.p (gc:=(!((t1.Lost||(decide (n2<(0:Int))))))) (p_ldR (v:=Enc.v t1.Blocks) ty22 rfl rfl rfl rfl rfl rfl (hg:=fun e=>e)) (gcF1 rfl) rfl ?_
 refine TLc.p (gc:=(!((t1.Lost||(decide (n2<(0:Int))))))) (p_lenL (xs:=t1.Blocks) kd22 rfl (hg:=fun e=>e)) (gcF1 rfl) rfl ?_
 refine TLc.p (gc:=(!((t1.Lost||(decide (n2<(0:Int))))))) (p_geq rfl rfl (hg:=fun e=>⟨e,e⟩)) (gcF1 rfl) rfl ?_
 refine P1 (p_or rfl rfl (fun e=>⟨rfl,fun h=>(not_t h)⟩)) rfl rfl (TL.nil (hK6 _ _ ?_))
 refine TK.cond (b:=((t1.Lost||(decide (n2<(0:Int))))||(decide (n2≥(t1.Blocks.length:Int))))) rfl (fun hc=>?_) (fun hc=>?_)
 ·have hX:=ite_t hc hX
  refine SR fun K7 hK7=>?_
  refine TLc.p (gc:=true) (p_bld (l:=[Enc.v ((0:Int):Int),Enc.v ((0:Int):Int),Enc.v ((0:Int):Int),.nils]) ty68 rfl all68 rfl (fun _=>trivial)) rfl rfl (TL.wk (v':=Enc.v ((Unit_api.mk (0:Int) (0:Int) (0:Int) ([]:(List UInt8))):Unit_api)) (Wk_agg ⟨Wk.refl _,Wk.refl _,Wk.refl _,Wk_nil,trivial⟩) ?_)
  refine TLc.stV (lu:=Enc.cl ((Unit_api.mk (0:Int) (0:Int) (0:Int) ([]:(List UInt8))):Unit_api)) nd ty68 rfl (j:=0) rfl rfl rfl (Cells_v ((Unit_api.mk (0:Int) (0:Int) (0:Int) ([]:(List UInt8))):Unit_api)) rfl rfl [Enc.v ((Unit_api.mk (0:Int) (0:Int) (0:Int) ([]:(List UInt8))).Kind:Int),Enc.v ((Unit_api.mk (0:Int) (0:Int) (0:Int) ([]:(List UInt8))).Label:Int),Enc.v ((Unit_api.mk (0:Int) (0:Int) (0:Int) ([]:(List UInt8))).Number:Int),Enc.v ((Unit_api.mk (0:Int) (0:Int) (0:Int) ([]:(List UInt8))).Load:(List UInt8))] rfl fun nd=>?_
  refine M rfl rfl (TL.nil (hK7 _ _ ?_))
  refine TK.ret ?_
  try dsimp only[thenQ]
  exact retC [Enc.v ((Unit_api.mk (0:Int) (0:Int) (0:Int) ([]:(List UInt8))):Unit_api),Enc.v false] ⟨p_ldVa (l':=Enc.cl ((Unit_api.mk (0:Int) (0:Int) (0:Int) ([]:(List UInt8))):Unit_api)) ty68 rfl rfl nd (j:=0) rfl rfl rfl rfl (Nat.le_of_ble_eq_true rfl),p_mv rfl,trivial⟩ (by obtain rfl:=some_in hX;rfl) (tup_val (allVal.mem ⟨v_val _,v_val _,trivial⟩))
 ·have hX:=ite_f hc hX
  refine TK.skip ?_
  refine hK5 _ _ (SR fun K8 hK8=>P1 (p_faR fs54_2 Dc rfl) rfl rfl (P1 (p_ldR (v:=Enc.v t1.Blocks) ty22 rfl rfl rfl rfl rfl rfl) rfl rfl (M rfl rfl ?_)))
  obtain ⟨e9,he9,hX⟩:=bind_some hX
  refine P1 (p_iaL (xs:=t1.Blocks) kd22 ty25 rfl rfl rfl (fun _=>he9)) rfl rfl (P1 (p_ldE (xs:=t1.Blocks) (a:=e9) (e9:(List UInt8)) ty25 rfl rfl (fun _=>he9) rfl rfl rfl) rfl rfl ?_)
  obtain ⟨r10,hr10,hX⟩:=bind_some hX
  refine TL.cvX rfl rfl rfl (fun _=>⟨rfl,⟨rfl,trivial⟩⟩) (fun e=>ok_cartridgeref1_GetFrame e9 _ hr10) ?_
  refine M rfl rfl (P1 (p_ex rfl rfl Dc) rfl rfl (P1 (p_ex rfl rfl Dc) rfl rfl ?_))
  refine TLc.alO (l:=[Enc.v ((0:Int):Int),Enc.v ((0:Int):Int),Enc.v ((0:Int):Int),.nils]) nd ty68 ti68_z rfl rfl fun b11 nd=>?_
  refine TLc.stV (lu:=Enc.cl (r10.1:Unit_api)) nd ty68 rfl (j:=0) rfl rfl rfl (Cells_v (r10.1:Unit_api)) rfl rfl [Enc.v r10.1.Kind,Enc.v r10.1.Label,Enc.v r10.1.Number,Enc.v r10.1.Load] rfl fun nd=>?_
  refine M rfl rfl (TL.nil (hK8 _ _ ?_))
  refine TK.seq_k fun K12 hK12=>?_
  refine SR fun K13 hK13=>M rfl rfl (P1 (p_neq rfl rfl) rfl rfl (M rfl rfl ?_))
  refine TLc.p (gc:=(!((r10.2 !=(0:Int))))) (p_faV fs68_1 Dc rfl nd (j:=0) rfl rfl (hg:=fun e=>rfl)) (gcF1 rfl) rfl ?_
  refine TLc.p (gc:=(!((r10.2 !=(0:Int))))) (p_ldV (v:=Enc.v r10.1.Label) ty3 rfl rfl nd (j:=0) rfl rfl rfl rfl rfl (hg:=fun e=>e)) (gcF1 rfl) rfl ?_
  refine TLc.p (gc:=(!((r10.2 !=(0:Int))))) (p_faR fs54_0 Dc rfl (hg:=fun e=>rfl)) (gcF1 rfl) rfl ?_
  refine TLc.p (gc:=(!((r10.2 !=(0:Int))))) (p_ldR (v:=Enc.v t1.Label) ty3 rfl rfl rfl rfl rfl rfl (hg:=fun e=>e)) (gcF1 rfl) rfl ?_
  refine TLc.p (gc:=(!((r10.2 !=(0:Int))))) (p_neq rfl rfl (hg:=fun e=>⟨e,e⟩)) (gcF1 rfl) rfl ?_
  refine P1 (p_or rfl rfl (fun e=>⟨rfl,fun h=>(not_t h)⟩)) rfl rfl (M rfl rfl ?_)
  refine TLc.p (gc:=(!(((r10.2 !=(0:Int))||(r10.1.Label !=t1.Label))))) (p_faV fs68_2 Dc rfl nd (j:=0) rfl rfl (hg:=fun e=>rfl)) (gcF1 rfl) rfl ?_
  refine TLc.p (gc:=(!(((r10.2 !=(0:Int))||(r10.1.Label !=t1.Label))))) (p_ldV (v:=Enc.v r10.1.Number) ty3 rfl rfl nd (j:=0) rfl rfl rfl rfl rfl (hg:=fun e=>e)) (gcF1 rfl) rfl ?_
  refine TLc.p (gc:=(!(((r10.2 !=(0:Int))||(r10.1.Label !=t1.Label))))) (p_mv rfl (hg:=fun e=>rfl)) (gcF1 rfl) rfl ?_
  refine TLc.p (gc:=(!(((r10.2 !=(0:Int))||(r10.1.Label !=t1.Label))))) (p_neq rfl rfl (hg:=fun e=>⟨e,e⟩)) (gcF1 rfl) rfl ?_
  refine P1 (p_or rfl rfl (fun e=>⟨rfl,fun h=>(not_t h)⟩)) rfl rfl (TL.nil (hK13 _ _ ?_))
  refine TK.cond (b:=(((r10.2 !=(0:Int))||(r10.1.Label !=t1.Label))||(r10.1.Number !=n2))) rfl (fun hc=>?_) (fun hc=>?_)
  ·have hX:=ite_t hc hX
   refine SR fun K14 hK14=>?_
   refine TLc.p (gc:=true) (p_bld (l:=[Enc.v ((0:Int):Int),Enc.v ((0:Int):Int),Enc.v ((0:Int):Int),.nils]) ty68 rfl all68 rfl (fun _=>trivial)) rfl rfl (TL.wk (v':=Enc.v ((Unit_api.mk (0:Int) (0:Int) (0:Int) ([]:(List UInt8))):Unit_api)) (Wk_agg ⟨Wk.refl _,Wk.refl _,Wk.refl _,Wk_nil,trivial⟩) ?_)
   refine TLc.stV (lu:=Enc.cl ((Unit_api.mk (0:Int) (0:Int) (0:Int) ([]:(List UInt8))):Unit_api)) nd ty68 rfl (j:=1) rfl rfl rfl (Cells_v ((Unit_api.mk (0:Int) (0:Int) (0:Int) ([]:(List UInt8))):Unit_api)) rfl rfl [Enc.v ((Unit_api.mk (0:Int) (0:Int) (0:Int) ([]:(List UInt8))).Kind:Int),Enc.v ((Unit_api.mk (0:Int) (0:Int) (0:Int) ([]:(List UInt8))).Label:Int),Enc.v ((Unit_api.mk (0:Int) (0:Int) (0:Int) ([]:(List UInt8))).Number:Int),Enc.v ((Unit_api.mk (0:Int) (0:Int) (0:Int) ([]:(List UInt8))).Load:(List UInt8))] rfl fun nd=>?_
   refine M rfl rfl (TL.nil (hK14 _ _ ?_))
   refine TK.ret ?_
   try dsimp only[thenQ]
   exact retC [Enc.v ((Unit_api.mk (0:Int) (0:Int) (0:Int) ([]:(List UInt8))):Unit_api),Enc.v false] ⟨p_ldVa (l':=Enc.cl ((Unit_api.mk (0:Int) (0:Int) (0:Int) ([]:(List UInt8))):Unit_api)) ty68 rfl rfl nd (j:=1) rfl rfl rfl rfl (Nat.le_of_ble_eq_true rfl),p_mv rfl,trivial⟩ (by obtain rfl:=some_in hX;rfl) (tup_val (allVal.mem ⟨v_val _,v_val _,trivial⟩))
  ·have hX:=ite_f hc hX
   refine TK.skip ?_
   refine hK12 _ _ (SR fun K15 hK15=>P1 (p_ldVa (l':=Enc.cl (r10.1:Unit_api)) ty68 rfl rfl nd (j:=0) rfl rfl rfl rfl (Nat.le_of_ble_eq_true rfl)) rfl rfl ?_)
   refine TLc.stV (lu:=Enc.cl (r10.1:Unit_api)) nd ty68 rfl (j:=1) rfl rfl rfl (Cells_v (r10.1:Unit_api)) rfl rfl [Enc.v r10.1.Kind,Enc.v r10.1.Label,Enc.v r10.1.Number,Enc.v r10.1.Load] rfl fun nd=>?_
   refine M rfl rfl (TL.nil (hK15 _ _ ?_))
   refine TK.ret ?_
   try dsimp only[thenQ]
   exact retC [Enc.v r10.1,Enc.v true] ⟨p_ldVa (l':=Enc.cl (r10.1:Unit_api)) ty68 rfl rfl nd (j:=1) rfl rfl rfl rfl (Nat.le_of_ble_eq_true rfl),p_mv rfl,trivial⟩ (by obtain rfl:=some_in hX;rfl) (tup_val (allVal.mem ⟨v_val _,v_val _,trivial⟩))
theorem ok_cartridgeref10_RightSeal (s1:Seal_api) (r:Bool) (hX:X.cartridgeref10_RightSeal s1=some r):Fun Try.prog 90 [Enc.v (s1:Seal_api)] (·=Enc.v (r:Bool)):=by
 refine Fun.of b90 (Nat.le_of_ble_eq_true rfl) (allVal.mem ⟨(by exact (v_val _)),trivial⟩) ?_
 unfold k90
 have nd:Nd []:=Nd_nil
 unfold X.cartridgeref10_RightSeal at hX
 refine SR fun K2 hK2=>?_
 refine TLc.boxV (lu:=[Enc.v s1.Number,Enc.v s1.Index,Enc.v s1.Data,Enc.v s1.Parity,Enc.v s1.Labels]) nd rfl (Cells_v (s1:Seal_api)) rfl ?_
 refine M rfl rfl (TL.nil (hK2 _ _ ?_))
 refine TK.seq_k fun K3 hK3=>?_
 refine SR fun K4 hK4=>P1 (p_faR fs50_0 Dc rfl) rfl rfl (P1 (p_ldR (v:=Enc.v s1.Number) ty3 rfl rfl rfl rfl rfl rfl) rfl rfl (P1 (p_lss rfl rfl) rfl rfl (M rfl rfl ?_)))
 refine TLc.p (gc:=(!((decide (s1.Number<(1:Int)))))) (p_faR fs50_0 Dc rfl (hg:=fun e=>rfl)) (gcF1 rfl) rfl ?_
 refine TLc.p (gc:=(!((decide (s1.Number<(1:Int)))))) (p_ldR (v:=Enc.v s1.Number) ty3 rfl rfl rfl rfl rfl rfl (hg:=fun e=>e)) (gcF1 rfl) rfl ?_
 refine TLc.p (gc:=(!((decide (s1.Number<(1:Int)))))) (p_gtr rfl rfl (hg:=fun e=>⟨e,rfl⟩)) (gcF1 rfl) rfl ?_
 refine P1 (p_or rfl rfl (fun e=>⟨rfl,fun h=>(not_t h)⟩)) rfl rfl (M rfl rfl ?_)
 refine TLc.p (gc:=(!(((decide (s1.Number<(1:Int)))||(decide (s1.Number>(1073741824:Int))))))) (p_faR fs50_2 Dc rfl (hg:=fun e=>rfl)) (gcF1 rfl) rfl ?_
 refine TLc.p (gc:=(!(((decide (s1.Number<(1:Int)))||(decide (s1.Number>(1073741824:Int))))))) (p_ldR (v:=Enc.v s1.Data) ty3 rfl rfl rfl rfl rfl rfl (hg:=fun e=>e)) (gcF1 rfl) rfl ?_
 refine TLc.p (gc:=(!(((decide (s1.Number<(1:Int)))||(decide (s1.Number>(1073741824:Int))))))) (p_lss rfl rfl (hg:=fun e=>⟨e,rfl⟩)) (gcF1 rfl) rfl ?_
 refine P1 (p_or rfl rfl (fun e=>⟨rfl,fun h=>(not_t h)⟩)) rfl rfl (M rfl rfl ?_)
 refine TLc.p (gc:=(!((((decide (s1.Number<(1:Int)))||(decide (s1.Number>(1073741824:Int))))||(decide (s1.Data<(1:Int))))))) (p_faR fs50_3 Dc rfl (hg:=fun e=>rfl)) (gcF1 rfl) rfl ?_
 refine TLc.p (gc:=(!((((decide (s1.Number<(1:Int)))||(decide (s1.Number>(1073741824:Int))))||(decide (s1.Data<(1:Int))))))) (p_ldR (v:=Enc.v s1.Parity) ty3 rfl rfl rfl rfl rfl rfl (hg:=fun e=>e)) (gcF1 rfl) rfl ?_
 refine TLc.p (gc:=(!((((decide (s1.Number<(1:Int)))||(decide (s1.Number>(1073741824:Int))))||(decide (s1.Data<(1:Int))))))) (p_lss rfl rfl (hg:=fun e=>⟨e,rfl⟩)) (gcF1 rfl) rfl ?_
 refine P1 (p_or rfl rfl (fun e=>⟨rfl,fun h=>(not_t h)⟩)) rfl rfl (M rfl rfl ?_)
 refine TLc.p (gc:=(!(((((decide (s1.Number<(1:Int)))||(decide (s1.Number>(1073741824:Int))))||(decide (s1.Data<(1:Int))))||(decide (s1.Parity<(1:Int))))))) (p_faR fs50_2 Dc rfl (hg:=fun e=>rfl)) (gcF1 rfl) rfl ?_
 refine TLc.p (gc:=(!(((((decide (s1.Number<(1:Int)))||(decide (s1.Number>(1073741824:Int))))||(decide (s1.Data<(1:Int))))||(decide (s1.Parity<(1:Int))))))) (p_ldR (v:=Enc.v s1.Data) ty3 rfl rfl rfl rfl rfl rfl (hg:=fun e=>e)) (gcF1 rfl) rfl ?_
 refine TLc.p (gc:=(!(((((decide (s1.Number<(1:Int)))||(decide (s1.Number>(1073741824:Int))))||(decide (s1.Data<(1:Int))))||(decide (s1.Parity<(1:Int))))))) (p_gtr rfl rfl (hg:=fun e=>⟨e,rfl⟩)) (gcF1 rfl) rfl ?_
 refine P1 (p_or rfl rfl (fun e=>⟨rfl,fun h=>(not_t h)⟩)) rfl rfl (M rfl rfl ?_)
 refine TLc.p (gc:=(!((((((decide (s1.Number<(1:Int)))||(decide (s1.Number>(1073741824:Int))))||(decide (s1.Data<(1:Int))))||(decide (s1.Parity<(1:Int))))||(decide (s1.Data>(14:Int))))))) (p_faR fs50_3 Dc rfl (hg:=fun e=>rfl)) (gcF1 rfl) rfl ?_
 refine TLc.p (gc:=(!((((((decide (s1.Number<(1:Int)))||(decide (s1.Number>(1073741824:Int))))||(decide (s1.Data<(1:Int))))||(decide (s1.Parity<(1:Int))))||(decide (s1.Data>(14:Int))))))) (p_ldR (v:=Enc.v s1.Parity) ty3 rfl rfl rfl rfl rfl rfl (hg:=fun e=>e)) (gcF1 rfl) rfl ?_
 refine TLc.p (gc:=(!((((((decide (s1.Number<(1:Int)))||(decide (s1.Number>(1073741824:Int))))||(decide (s1.Data<(1:Int))))||(decide (s1.Parity<(1:Int))))||(decide (s1.Data>(14:Int))))))) (p_gtr rfl rfl (hg:=fun e=>⟨e,rfl⟩)) (gcF1 rfl) rfl ?_
 refine P1 (p_or rfl rfl (fun e=>⟨rfl,fun h=>(not_t h)⟩)) rfl rfl (M rfl rfl ?_)
 refine TLc.p (gc:=(!(((((((decide (s1.Number<(1:Int)))||(decide (s1.Number>(1073741824:Int))))||(decide (s1.Data<(1:Int))))||(decide (s1.Parity<(1:Int))))||(decide (s1.Data>(14:Int))))||(decide (s1.Parity>(14:Int))))))) (p_faR fs50_2 Dc rfl (hg:=fun e=>rfl)) (gcF1 rfl) rfl ?_
 refine TLc.p (gc:=(!(((((((decide (s1.Number<(1:Int)))||(decide (s1.Number>(1073741824:Int))))||(decide (s1.Data<(1:Int))))||(decide (s1.Parity<(1:Int))))||(decide (s1.Data>(14:Int))))||(decide (s1.Parity>(14:Int))))))) (p_ldR (v:=Enc.v s1.Data) ty3 rfl rfl rfl rfl rfl rfl (hg:=fun e=>e)) (gcF1 rfl) rfl ?_
 refine TLc.p (gc:=(!(((((((decide (s1.Number<(1:Int)))||(decide (s1.Number>(1073741824:Int))))||(decide (s1.Data<(1:Int))))||(decide (s1.Parity<(1:Int))))||(decide (s1.Data>(14:Int))))||(decide (s1.Parity>(14:Int))))))) (p_faR fs50_3 Dc rfl (hg:=fun e=>rfl)) (gcF1 rfl) rfl ?_
 refine TLc.p (gc:=(!(((((((decide (s1.Number<(1:Int)))||(decide (s1.Number>(1073741824:Int))))||(decide (s1.Data<(1:Int))))||(decide (s1.Parity<(1:Int))))||(decide (s1.Data>(14:Int))))||(decide (s1.Parity>(14:Int))))))) (p_ldR (v:=Enc.v s1.Parity) ty3 rfl rfl rfl rfl rfl rfl (hg:=fun e=>e)) (gcF1 rfl) rfl ?_
 refine TLc.p (gc:=(!(((((((decide (s1.Number<(1:Int)))||(decide (s1.Number>(1073741824:Int))))||(decide (s1.Data<(1:Int))))||(decide (s1.Parity<(1:Int))))||(decide (s1.Data>(14:Int))))||(decide (s1.Parity>(14:Int))))))) (p_add rfl rfl (hg:=fun e=>⟨e,e⟩)) (gcF1 rfl) rfl ?_
 refine TLc.p (gc:=(!(((((((decide (s1.Number<(1:Int)))||(decide (s1.Number>(1073741824:Int))))||(decide (s1.Data<(1:Int))))||(decide (s1.Parity<(1:Int))))||(decide (s1.Data>(14:Int))))||(decide (s1.Parity>(14:Int))))))) (p_gtr rfl rfl (hg:=fun e=>⟨e,rfl⟩)) (gcF1 rfl) rfl ?_
 refine P1 (p_or rfl rfl (fun e=>⟨rfl,fun h=>(not_t h)⟩)) rfl rfl (M rfl rfl ?_)
 refine TLc.p (gc:=(!((((((((decide (s1.Number<(1:Int)))||(decide (s1.Number>(1073741824:Int))))||(decide (s1.Data<(1:Int))))||(decide (s1.Parity<(1:Int))))||(decide (s1.Data>(14:Int))))||(decide (s1.Parity>(14:Int))))||(decide ((wr (s1.Data+s1.Parity))>(14:Int))))))) (p_faR fs50_4 Dc rfl (hg:=fun e=>rfl)) (gcF1 rfl) rfl ?_
 refine TLc.p (gc:=(!((((((((decide (s1.Number<(1:Int)))||(decide (s1.Number>(1073741824:Int))))||(decide (s1.Data<(1:Int))))||(decide (s1.Parity<(1:Int))))||(decide (s1.Data>(14:Int))))||(decide (s1.Parity>(14:Int))))||(decide ((wr (s1.Data+s1.Parity))>(14:Int))))))) (p_ldR (v:=Enc.v s1.Labels) ty47 rfl rfl rfl rfl rfl rfl (hg:=fun e=>e)) (gcF1 rfl) rfl ?_
 refine TLc.p (gc:=(!((((((((decide (s1.Number<(1:Int)))||(decide (s1.Number>(1073741824:Int))))||(decide (s1.Data<(1:Int))))||(decide (s1.Parity<(1:Int))))||(decide (s1.Data>(14:Int))))||(decide (s1.Parity>(14:Int))))||(decide ((wr (s1.Data+s1.Parity))>(14:Int))))))) (p_lenL (xs:=s1.Labels) kd47 rfl (hg:=fun e=>e)) (gcF1 rfl) rfl ?_
 refine TLc.p (gc:=(!((((((((decide (s1.Number<(1:Int)))||(decide (s1.Number>(1073741824:Int))))||(decide (s1.Data<(1:Int))))||(decide (s1.Parity<(1:Int))))||(decide (s1.Data>(14:Int))))||(decide (s1.Parity>(14:Int))))||(decide ((wr (s1.Data+s1.Parity))>(14:Int))))))) (p_faR fs50_2 Dc rfl (hg:=fun e=>rfl)) (gcF1 rfl) rfl ?_
 refine TLc.p (gc:=(!((((((((decide (s1.Number<(1:Int)))||(decide (s1.Number>(1073741824:Int))))||(decide (s1.Data<(1:Int))))||(decide (s1.Parity<(1:Int))))||(decide (s1.Data>(14:Int))))||(decide (s1.Parity>(14:Int))))||(decide ((wr (s1.Data+s1.Parity))>(14:Int))))))) (p_ldR (v:=Enc.v s1.Data) ty3 rfl rfl rfl rfl rfl rfl (hg:=fun e=>e)) (gcF1 rfl) rfl ?_
 refine TLc.p (gc:=(!((((((((decide (s1.Number<(1:Int)))||(decide (s1.Number>(1073741824:Int))))||(decide (s1.Data<(1:Int))))||(decide (s1.Parity<(1:Int))))||(decide (s1.Data>(14:Int))))||(decide (s1.Parity>(14:Int))))||(decide ((wr (s1.Data+s1.Parity))>(14:Int))))))) (p_faR fs50_3 Dc rfl (hg:=fun e=>rfl)) (gcF1 rfl) rfl ?_
 refine TLc.p (gc:=(!((((((((decide (s1.Number<(1:Int)))||(decide (s1.Number>(1073741824:Int))))||(decide (s1.Data<(1:Int))))||(decide (s1.Parity<(1:Int))))||(decide (s1.Data>(14:Int))))||(decide (s1.Parity>(14:Int))))||(decide ((wr (s1.Data+s1.Parity))>(14:Int))))))) (p_ldR (v:=Enc.v s1.Parity) ty3 rfl rfl rfl rfl rfl rfl (hg:=fun e=>e)) (gcF1 rfl) rfl ?_
 refine TLc.p (gc:=(!((((((((decide (s1.Number<(1:Int)))||(decide (s1.Number>(1073741824:Int))))||(decide (s1.Data<(1:Int))))||(decide (s1.Parity<(1:Int))))||(decide (s1.Data>(14:Int))))||(decide (s1.Parity>(14:Int))))||(decide ((wr (s1.Data+s1.Parity))>(14:Int))))))) (p_add rfl rfl (hg:=fun e=>⟨e,e⟩)) (gcF1 rfl) rfl ?_
 refine TLc.p (gc:=(!((((((((decide (s1.Number<(1:Int)))||(decide (s1.Number>(1073741824:Int))))||(decide (s1.Data<(1:Int))))||(decide (s1.Parity<(1:Int))))||(decide (s1.Data>(14:Int))))||(decide (s1.Parity>(14:Int))))||(decide ((wr (s1.Data+s1.Parity))>(14:Int))))))) (p_neq rfl rfl (hg:=fun e=>⟨e,e⟩)) (gcF1 rfl) rfl ?_
 refine P1 (p_or rfl rfl (fun e=>⟨rfl,fun h=>(not_t h)⟩)) rfl rfl (M rfl rfl ?_)
 refine TLc.p (gc:=(!(((((((((decide (s1.Number<(1:Int)))||(decide (s1.Number>(1073741824:Int))))||(decide (s1.Data<(1:Int))))||(decide (s1.Parity<(1:Int))))||(decide (s1.Data>(14:Int))))||(decide (s1.Parity>(14:Int))))||(decide ((wr (s1.Data+s1.Parity))>(14:Int))))||((s1.Labels.length:Int) !=(wr (s1.Data+s1.Parity))))))) (p_faR fs50_1 Dc rfl (hg:=fun e=>rfl)) (gcF1 rfl) rfl ?_
 refine TLc.p (gc:=(!(((((((((decide (s1.Number<(1:Int)))||(decide (s1.Number>(1073741824:Int))))||(decide (s1.Data<(1:Int))))||(decide (s1.Parity<(1:Int))))||(decide (s1.Data>(14:Int))))||(decide (s1.Parity>(14:Int))))||(decide ((wr (s1.Data+s1.Parity))>(14:Int))))||((s1.Labels.length:Int) !=(wr (s1.Data+s1.Parity))))))) (p_ldR (v:=Enc.v s1.Index) ty3 rfl rfl rfl rfl rfl rfl (hg:=fun e=>e)) (gcF1 rfl) rfl ?_
 refine TLc.p (gc:=(!(((((((((decide (s1.Number<(1:Int)))||(decide (s1.Number>(1073741824:Int))))||(decide (s1.Data<(1:Int))))||(decide (s1.Parity<(1:Int))))||(decide (s1.Data>(14:Int))))||(decide (s1.Parity>(14:Int))))||(decide ((wr (s1.Data+s1.Parity))>(14:Int))))||((s1.Labels.length:Int) !=(wr (s1.Data+s1.Parity))))))) (p_lss rfl rfl (hg:=fun e=>⟨e,rfl⟩)) (gcF1 rfl) rfl ?_
 refine P1 (p_or rfl rfl (fun e=>⟨rfl,fun h=>(not_t h)⟩)) rfl rfl (M rfl rfl ?_)
 refine TLc.p (gc:=(!((((((((((decide (s1.Number<(1:Int)))||(decide (s1.Number>(1073741824:Int))))||(decide (s1.Data<(1:Int))))||(decide (s1.Parity<(1:Int))))||(decide (s1.Data>(14:Int))))||(decide (s1.Parity>(14:Int))))||(decide ((wr (s1.Data+s1.Parity))>(14:Int))))||((s1.Labels.length:Int) !=(wr (s1.Data+s1.Parity))))||(decide (s1.Index<(0:Int))))))) (p_faR fs50_1 Dc rfl (hg:=fun e=>rfl)) (gcF1 rfl) rfl ?_
 refine TLc.p (gc:=(!((((((((((decide (s1.Number<(1:Int)))||(decide (s1.Number>(1073741824:Int))))||(decide (s1.Data<(1:Int))))||(decide (s1.Parity<(1:Int))))||(decide (s1.Data>(14:Int))))||(decide (s1.Parity>(14:Int))))||(decide ((wr (s1.Data+s1.Parity))>(14:Int))))||((s1.Labels.length:Int) !=(wr (s1.Data+s1.Parity))))||(decide (s1.Index<(0:Int))))))) (p_ldR (v:=Enc.v s1.Index) ty3 rfl rfl rfl rfl rfl rfl (hg:=fun e=>e)) (gcF1 rfl) rfl ?_
 refine TLc.p (gc:=(!((((((((((decide (s1.Number<(1:Int)))||(decide (s1.Number>(1073741824:Int))))||(decide (s1.Data<(1:Int))))||(decide (s1.Parity<(1:Int))))||(decide (s1.Data>(14:Int))))||(decide (s1.Parity>(14:Int))))||(decide ((wr (s1.Data+s1.Parity))>(14:Int))))||((s1.Labels.length:Int) !=(wr (s1.Data+s1.Parity))))||(decide (s1.Index<(0:Int))))))) (p_faR fs50_4 Dc rfl (hg:=fun e=>rfl)) (gcF1 rfl) rfl ?_
 refine TLc.p (gc:=(!((((((((((decide (s1.Number<(1:Int)))||(decide (s1.Number>(1073741824:Int))))||(decide (s1.Data<(1:Int))))||(decide (s1.Parity<(1:Int))))||(decide (s1.Data>(14:Int))))||(decide (s1.Parity>(14:Int))))||(decide ((wr (s1.Data+s1.Parity))>(14:Int))))||((s1.Labels.length:Int) !=(wr (s1.Data+s1.Parity))))||(decide (s1.Index<(0:Int))))))) (p_ldR (v:=Enc.v s1.Labels) ty47 rfl rfl rfl rfl rfl rfl (hg:=fun e=>e)) (gcF1 rfl) rfl ?_
 refine TLc.p (gc:=(!((((((((((decide (s1.Number<(1:Int)))||(decide (s1.Number>(1073741824:Int))))||(decide (s1.Data<(1:Int))))||(decide (s1.Parity<(1:Int))))||(decide (s1.Data>(14:Int))))||(decide (s1.Parity>(14:Int))))||(decide ((wr (s1.Data+s1.Parity))>(14:Int))))||((s1.Labels.length:Int) !=(wr (s1.Data+s1.Parity))))||(decide (s1.Index<(0:Int))))))) (p_lenL (xs:=s1.Labels) kd47 rfl (hg:=fun e=>e)) (gcF1 rfl) rfl ?_
 refine TLc.p (gc:=(!((((((((((decide (s1.Number<(1:Int)))||(decide (s1.Number>(1073741824:Int))))||(decide (s1.Data<(1:Int))))||(decide (s1.Parity<(1:Int))))||(decide (s1.Data>(14:Int))))||(decide (s1.Parity>(14:Int))))||(decide ((wr (s1.Data+s1.Parity))>(14:Int))))||((s1.Labels.length:Int) !=(wr (s1.Data+s1.Parity))))||(decide (s1.Index<(0:Int))))))) (p_geq rfl rfl (hg:=fun e=>⟨e,e⟩)) (gcF1 rfl) rfl ?_
 refine P1 (p_or rfl rfl (fun e=>⟨rfl,fun h=>(not_t h)⟩)) rfl rfl (TL.nil (hK4 _ _ ?_))
 refine TK.cond (b:=((((((((((decide (s1.Number<(1:Int)))||(decide (s1.Number>(1073741824:Int))))||(decide (s1.Data<(1:Int))))||(decide (s1.Parity<(1:Int))))||(decide (s1.Data>(14:Int))))||(decide (s1.Parity>(14:Int))))||(decide ((wr (s1.Data+s1.Parity))>(14:Int))))||((s1.Labels.length:Int) !=(wr (s1.Data+s1.Parity))))||(decide (s1.Index<(0:Int))))||(decide (s1.Index≥(s1.Labels.length:Int))))) rfl (fun hc=>?_) (fun hc=>?_)
 ·have hX:=ite_t hc hX
  refine SR fun K5 hK5=>M rfl rfl (TL.nil (hK5 _ _ ?_))
  refine TK.ret ?_
  try dsimp only[thenQ]
  exact R1 rfl hX
 ·have hX:=ite_f hc hX
  refine TK.skip ?_
  refine hK3 _ _ ?_
  refine TK.seq_k fun K6 hK6=>?_
  refine SR fun K7 hK7=>M rfl rfl (TL.nil (hK7 _ _ ?_))
  refine TK.block ?_
  obtain ⟨o8,hO8,hA8⟩:=bind_some hX
  have E8:∀(env:Env) (h:Hp),(∃_u:Unit,keepE [] env=[]∧Nd []∧HSub [] h)→X.cartridgeref10_RightSeal_e8=some r→K6 env h:=by
   intro env h hE hX
   obtain ⟨_u,henv,nd,hs⟩:=hE
   unfold X.cartridgeref10_RightSeal_e8 at hX
   refine hK6 _ _ (TK.keep [] ?_)
   rw[henv]
   refine TK.subH hs ?_
   refine SR fun K10 hK10=>M rfl rfl (TL.nil (hK10 _ _ ?_))
   refine TK.ret ?_
   try dsimp only[thenQ]
   exact R1 rfl hX
  refine TK.iter [1,3] (fun s env h=>match s with|i9=>∃_u:Unit,env=[(1,true,.vref (ofL [Enc.v s1.Number,Enc.v s1.Index,Enc.v s1.Data,Enc.v s1.Parity,Enc.v s1.Labels]) 5 0),(3,true,Enc.v i9)]∧Nd []∧HSub [] h) hO8 ⟨(),rfl,Nd_nil,HSub.refl _⟩ ?_
  rintro i9 env h x8x ⟨_u,rfl,nd,hs⟩ hX hR8
  refine TK.subH hs ?_
  unfold X.cartridgeref10_RightSeal_s8 at hX
  try dsimp only at hX
  refine TK.seq_k fun K11 hK11=>?_
  refine SR fun K12 hK12=>M rfl rfl (P1 (p_faR fs50_4 Dc rfl) rfl rfl (P1 (p_ldR (v:=Enc.v s1.Labels) ty47 rfl rfl rfl rfl rfl rfl) rfl rfl (P1 (p_lenL (xs:=s1.Labels) kd47 rfl) rfl rfl (P1 (p_lss rfl rfl) rfl rfl (TL.nil (hK12 _ _ ?_))))))
  refine TK.cond (b:=(decide (i9<(s1.Labels.length:Int)))) rfl (fun hc=>?_) (fun hc=>?_)
  ·have hX:=ite_t hc hX
   refine TK.skip ?_
   refine hK11 _ _ ?_
   refine TK.seq_k fun K13 hK13=>?_
   refine TK.block ?_
   refine TK.seq_k fun K14 hK14=>?_
   refine SR fun K15 hK15=>P1 (p_faR fs50_4 Dc rfl) rfl rfl (P1 (p_ldR (v:=Enc.v s1.Labels) ty47 rfl rfl rfl rfl rfl rfl) rfl rfl (M rfl rfl ?_))
   obtain ⟨e16,he16,hX⟩:=bind_some hX
   refine P1 (p_iaL (xs:=s1.Labels) kd47 ty3 rfl rfl rfl (fun _=>he16)) rfl rfl (P1 (p_ldE (xs:=s1.Labels) (a:=e16) (e16:Int) ty3 rfl rfl (fun _=>he16) rfl rfl rfl) rfl rfl (P1 (p_lss rfl rfl) rfl rfl (M rfl rfl ?_)))
   refine TLc.p (gc:=(!((decide (e16<(1:Int)))))) (p_faR fs50_4 Dc rfl (hg:=fun e=>rfl)) (gcF1 rfl) rfl ?_
   refine TLc.p (gc:=(!((decide (e16<(1:Int)))))) (p_ldR (v:=Enc.v s1.Labels) ty47 rfl rfl rfl rfl rfl rfl (hg:=fun e=>e)) (gcF1 rfl) rfl ?_
   refine TLc.p (gc:=(!((decide (e16<(1:Int)))))) (p_mv rfl (hg:=fun e=>rfl)) (gcF1 rfl) rfl ?_
   obtain ⟨e17,he17,hX⟩:=bind_some hX
   refine TLc.p (gc:=(!((decide (e16<(1:Int)))))) (p_iaL (xs:=s1.Labels) kd47 ty3 rfl rfl rfl (fun e=>optG_t he17 e) (hg:=fun e=>⟨e,e⟩)) (gcF1 rfl) rfl ?_
   refine TLc.p (gc:=(!((decide (e16<(1:Int)))))) (p_ldE (xs:=s1.Labels) (a:=e17) (e17:Int) ty3 rfl rfl (fun e=>optG_t he17 e) rfl rfl rfl (hg:=fun e=>e)) (gcF1 rfl) rfl ?_
   refine TLc.p (gc:=(!((decide (e16<(1:Int)))))) (p_gtr rfl rfl (hg:=fun e=>⟨e,rfl⟩)) (gcF1 rfl) rfl ?_
   refine P1 (p_or rfl rfl (fun e=>⟨rfl,fun h=>(not_t h)⟩)) rfl rfl (TL.nil (hK15 _ _ ?_))
   refine TK.cond (b:=((decide (e16<(1:Int)))||(decide (e17>(2147483647:Int))))) rfl (fun hc=>?_) (fun hc=>?_)
   ·have hX:=ite_t hc hX
    refine SR fun K18 hK18=>M rfl rfl (TL.nil (hK18 _ _ ?_))
    refine TK.ret ?_
    obtain rfl:=hR8 _ (some_in hX).symm
    replace hX:=hA8
    try dsimp only[thenQ]
    exact R1 rfl hX
   ·have hX:=ite_f hc hX
    refine TK.skip ?_
    refine hK14 _ _ (SR fun K19 hK19=>M rfl rfl (TL.nil (hK19 _ _ ?_)))
    refine TK.block ?_
    obtain ⟨o20,hO20,hA20⟩:=bind_some hX
    have E20:∀(env:Env) (h:Hp),(∃_u:Unit,keepE [1,3] env=[(1,true,.vref (ofL [Enc.v s1.Number,Enc.v s1.Index,Enc.v s1.Data,Enc.v s1.Parity,Enc.v s1.Labels]) 5 0),(3,true,Enc.v i9)]∧Nd []∧HSub [] h)→X.cartridgeref10_RightSeal_e20 i9=some x8x→K13 env h:=by
     intro env h hE hX
     obtain ⟨_u,henv,nd,hs⟩:=hE
     unfold X.cartridgeref10_RightSeal_e20 at hX
     refine hK13 _ _ (TK.keep [1,3] ?_)
     rw[henv]
     refine TK.subH hs ?_
     refine TK.reg ?_
     refine M rfl rfl (P1 (p_add rfl rfl) rfl rfl (M rfl rfl (TL.nil ?_)))
     exact ⟨_,(some_in hX).symm,(),rfl,Nd_nil,HSub.refl _⟩
    refine TK.iter [1,3,4] (fun s env h=>match s with|k21=>∃_u:Unit,env=[(1,true,.vref (ofL [Enc.v s1.Number,Enc.v s1.Index,Enc.v s1.Data,Enc.v s1.Parity,Enc.v s1.Labels]) 5 0),(3,true,Enc.v i9),(4,true,Enc.v k21)]∧Nd []∧HSub [] h) hO20 ⟨(),rfl,Nd_nil,HSub.refl _⟩ ?_
    rintro k21 env h x20x ⟨_u,rfl,nd,hs⟩ hX hR20
    refine TK.subH hs ?_
    unfold X.cartridgeref10_RightSeal_s20 at hX
    try dsimp only at hX
    refine TK.seq_k fun K22 hK22=>?_
    refine SR fun K23 hK23=>M rfl rfl (M rfl rfl (P1 (p_lss rfl rfl) rfl rfl (TL.nil (hK23 _ _ ?_))))
    refine TK.cond (b:=(decide (k21<i9))) rfl (fun hc=>?_) (fun hc=>?_)
    ·have hX:=ite_t hc hX
     refine TK.skip ?_
     refine hK22 _ _ ?_
     refine TK.seq_k fun K24 hK24=>?_
     refine TK.block ?_
     refine TK.seq_k fun K25 hK25=>?_
     have ndS:Nd []:=Nd.pick nd (is:=[]) Dc
     refine TK.drwX (h:=[]) (hS:=[]) [(0,0),(0,1),(0,2),(0,3),(0,4),(0,5),(0,6),(0,7),(0,8),(0,9),(0,10)] mixed (by kernel_rfl) (HSub_app nd) ?_
     refine D0 rfl (p_faR fs50_4 Dc rfl) rfl rfl ?_
     refine D0 rfl (p_ldR (v:=Enc.v s1.Labels) ty47 rfl rfl rfl rfl rfl rfl) rfl rfl ?_
     refine DM rfl rfl rfl ?_
     obtain ⟨e26,he26,hX⟩:=bind_some hX
     refine D0 rfl (p_iaL (xs:=s1.Labels) kd47 ty3 rfl rfl rfl (fun _=>he26)) rfl rfl ?_
     refine D0 rfl (p_ldE (xs:=s1.Labels) (a:=e26) (e26:Int) ty3 rfl rfl (fun _=>he26) rfl rfl rfl) rfl rfl ?_
     refine D0 rfl (p_faR fs50_4 Dc rfl) rfl rfl ?_
     refine D0 rfl (p_ldR (v:=Enc.v s1.Labels) ty47 rfl rfl rfl rfl rfl rfl) rfl rfl ?_
     refine DM rfl rfl rfl ?_
     obtain ⟨e27,he27,hX⟩:=bind_some hX
     refine D0 rfl (p_iaL (xs:=s1.Labels) kd47 ty3 rfl rfl rfl (fun _=>he27)) rfl rfl ?_
     refine D0 rfl (p_ldE (xs:=s1.Labels) (a:=e27) (e27:Int) ty3 rfl rfl (fun _=>he27) rfl rfl rfl) rfl rfl ?_
     refine D0 rfl (p_eql rfl rfl) rfl rfl ?_
     refine DRend ?_
     refine hK25 _ _ ?_
     refine TK.cond (b:=(e26==e27)) rfl (fun hc=>?_) (fun hc=>?_)
     ·have hX:=ite_t hc hX
      refine SR fun K28 hK28=>M rfl rfl (TL.nil (hK28 _ _ ?_))
      refine TK.ret ?_
      obtain rfl:=hR20 _ (some_in hX).symm
      replace hX:=hA20
      obtain rfl:=hR8 _ (some_in hX).symm
      replace hX:=hA8
      try dsimp only[thenQ]
      exact R1 rfl hX
     ·have hX:=ite_f hc hX
      refine TK.skip ?_
      refine hK24 _ _ ?_
      refine TK.reg ?_
      refine M rfl rfl (P1 (p_add rfl rfl) rfl rfl (M rfl rfl (TL.nil ?_)))
      exact ⟨_,(some_in hX).symm,(),rfl,Nd_nil,HSub.refl _⟩
    ·have hX:=ite_f hc hX
     refine TK.exit ?_
     obtain rfl:=hR20 _ (some_in hX).symm
     exact E20 _ _ ⟨(),rfl,Nd_nil,HSub.refl _⟩ hA20
  ·have hX:=ite_f hc hX
   refine TK.exit ?_
   obtain rfl:=hR8 _ (some_in hX).symm
   exact E8 _ _ ⟨(),rfl,Nd_nil,HSub.refl _⟩ hA8
theorem ok_cartridgeref10_Row_kp0 (n3:Int) (l1:(List Tape_api)) (b2:Nat) (nd:Nd [(b2,RL (α:=Tape_api) 54 l1)]) (r:(List (List UInt8))) (hX:X.cartridgeref10_Row_kp0 n3 l1=some r):TCX Try.prog 141 [OL (α:=Tape_api) b2 l1,Enc.v (n3:Int)] [(b2,RL (α:=Tape_api) 54 l1)] (fun rv h'=>rv=Enc.v (r:(List (List UInt8)))∧h'=[(b2,RL (α:=Tape_api) 54 l1)]):=by
 refine TCX.of b141 (Nat.le_of_ble_eq_true rfl) ?_
 unfold k141
 unfold X.cartridgeref10_Row_kp0 at hX
 refine SR fun K4 hK4=>M rfl rfl (TL.nil (hK4 _ _ (SR fun K5 hK5=>M rfl rfl (TL.nil (hK5 _ _ ?_)))))
 refine TK.ownL (α:=(List UInt8)) 5 25 nd rfl (.inl rfl) fun b6 nd=>?_
 refine TK.seq_k fun K7 hK7=>?_
 refine SR fun K8 hK8=>M rfl rfl (TL.nil (hK8 _ _ ?_))
 refine TK.block ?_
 obtain ⟨o9,hO9,hA9⟩:=bind_some hX
 have E9:∀(l16:List (List UInt8)) (env:Env) (h:Hp),(∃b15,keepE [0,5] env=[(0,true,OL b2 l1),(5,true,OL b15 l16)]∧Nd [(b2,RL (α:=Tape_api) 54 l1),(b15,RL (α:=(List UInt8)) 25 l16)]∧HSub [(b2,RL (α:=Tape_api) 54 l1),(b15,RL (α:=(List UInt8)) 25 l16)] h)→X.cartridgeref10_Row_kp0_e9 l16=some r→K7 env h:=by
  intro l16 env h hE hX
  obtain ⟨b15,henv,nd,hs⟩:=hE
  unfold X.cartridgeref10_Row_kp0_e9 at hX
  refine hK7 _ _ (TK.keep [0,5] ?_)
  rw[henv]
  refine TK.subH hs ?_
  refine SR fun K17 hK17=>M rfl rfl (M rfl rfl (TL.nil (hK17 _ _ ?_)))
  refine TK.lay [(4,L l16)] nd (j:=1) rfl ⟨⟨_,rfl,fix_OL nd (j:=1) rfl,rfl⟩,trivial⟩ fun nd=>?_
  refine TK.ret ?_
  try dsimp only[thenQ]
  exact retX (v:=Enc.v l16) (res1 rfl) (by obtain rfl:=some_in hX;exact ⟨rfl,rfl⟩) nd (inH_val (v_val _)) ⟨rowIn_RL,trivial⟩
 refine TK.iter [0,1,5,6] (fun s env h=>match s with|(out12,i13)=>∃b11,env=[(0,true,OL b2 l1),(1,true,Enc.v n3),(5,true,OL b11 out12),(6,true,Enc.v i13)]∧Nd [(b2,RL (α:=Tape_api) 54 l1),(b11,RL (α:=(List UInt8)) 25 out12)]∧HSub [(b2,RL (α:=Tape_api) 54 l1),(b11,RL (α:=(List UInt8)) 25 out12)] h) hO9 ⟨b6,rfl,(Nd.pick nd (is:=[1,0]) Dc),(HSub.pick nd (is:=[1,0]) Dc)⟩ ?_
 rintro ⟨out12,i13⟩ env h x9x ⟨b11,rfl,nd,hs⟩ hX hR9
 refine TK.subH hs ?_
 unfold X.cartridgeref10_Row_kp0_s9 at hX
 try dsimp only at hX
 refine TK.seq_k fun K18 hK18=>?_
 refine SR fun K19 hK19=>M rfl rfl (M rfl rfl (P1 (p_lenR kd48 rfl (fun _=>refOK_of nd (j:=0) rfl rfl)) rfl rfl (P1 (p_lss rfl rfl) rfl rfl (TL.nil (hK19 _ _ ?_)))))
 refine TK.cond (b:=(decide (i13<(l1.length:Int)))) rfl (fun hc=>?_) (fun hc=>?_)
 ·have hX:=ite_t hc hX
  refine TK.skip ?_
  refine hK18 _ _ ?_
  refine TK.seq_k fun K20 hK20=>?_
  have J20:∀(l23:List (List UInt8)) (env:Env) (h:Hp),(∃b22,keepE [0,1,5,6] env=[(0,true,OL b2 l1),(1,true,Enc.v n3),(5,true,OL b22 l23),(6,true,Enc.v i13)]∧Nd [(b2,RL (α:=Tape_api) 54 l1),(b22,RL (α:=(List UInt8)) 25 l23)]∧HSub [(b2,RL (α:=Tape_api) 54 l1),(b22,RL (α:=(List UInt8)) 25 l23)] h)→X.cartridgeref10_Row_kp0_j20 i13 l23=some x9x→K20 env h:=by
   intro l23 env h hE hX
   obtain ⟨b22,henv,nd,hs⟩:=hE
   unfold X.cartridgeref10_Row_kp0_j20 at hX
   refine hK20 _ _ (TK.keep [0,1,5,6] ?_)
   rw[henv]
   refine TK.subH hs ?_
   refine TK.reg ?_
   refine M rfl rfl (P1 (p_add rfl rfl) rfl rfl (M rfl rfl (TL.nil ?_)))
   exact ⟨_,(some_in hX).symm,b22,rfl,(Nd.pick nd (is:=[0,1]) Dc),(HSub.pick nd (is:=[0,1]) Dc)⟩
  refine TK.block ?_
  refine TK.block ?_
  refine SR fun K24 hK24=>M rfl rfl (M rfl rfl ?_)
  obtain ⟨e25,he25,hX⟩:=bind_some hX
  refine P1 (p_iaO (xs:=l1) kd48 ty54 rfl rfl rfl nd (j:=0) rfl (fun _=>he25)) rfl rfl (P1 (p_faO (xs:=l1) fs54_3 Dc rfl nd (j:=0) rfl) rfl rfl (P1 (p_ldO (xs:=l1) (a:=e25) (e25.Lost:Bool) ty4 rfl rfl nd (j:=0) rfl (fun _=>he25) rfl rfl rfl) rfl rfl (M rfl rfl ?_)))
  refine TLc.p (gc:=(!(e25.Lost))) (p_mv rfl (hg:=fun e=>rfl)) (gcF1 rfl) rfl ?_
  refine TLc.p (gc:=(!(e25.Lost))) (p_lss rfl rfl (hg:=fun e=>⟨e,rfl⟩)) (gcF1 rfl) rfl ?_
  refine P1 (p_or rfl rfl (fun e=>⟨rfl,fun h=>(not_t h)⟩)) rfl rfl (M rfl rfl ?_)
  refine TLc.p (gc:=(!((e25.Lost||(decide (n3<(0:Int))))))) (p_mv rfl (hg:=fun e=>rfl)) (gcF1 rfl) rfl ?_
  refine TLc.p (gc:=(!((e25.Lost||(decide (n3<(0:Int))))))) (p_mv rfl (hg:=fun e=>rfl)) (gcF1 rfl) rfl ?_
  refine TLc.p (gc:=(!((e25.Lost||(decide (n3<(0:Int))))))) (p_mv rfl (hg:=fun e=>rfl)) (gcF1 rfl) rfl ?_
  obtain ⟨e26,he26,hX⟩:=bind_some hX
  refine TLc.p (gc:=(!((e25.Lost||(decide (n3<(0:Int))))))) (p_iaO (xs:=l1) kd48 ty54 rfl rfl rfl nd (j:=0) rfl (fun e=>optG_t he26 e) (hg:=fun e=>⟨e,e⟩)) (gcF1 rfl) rfl ?_
  refine TLc.p (gc:=(!((e25.Lost||(decide (n3<(0:Int))))))) (p_faO (xs:=l1) fs54_2 Dc rfl nd (j:=0) rfl (hg:=fun e=>e)) (gcF1 rfl) rfl ?_
  refine TLc.p (gc:=(!((e25.Lost||(decide (n3<(0:Int))))))) (p_ldO (xs:=l1) (a:=e26) (e26.Blocks:(List (List UInt8))) ty22 rfl rfl nd (j:=0) rfl (fun e=>optG_t he26 e) rfl rfl rfl (hg:=fun e=>e)) (gcF1 rfl) rfl ?_
  refine TLc.p (gc:=(!((e25.Lost||(decide (n3<(0:Int))))))) (p_lenL (xs:=e26.Blocks) kd22 rfl (hg:=fun e=>e)) (gcF1 rfl) rfl ?_
  refine TLc.p (gc:=(!((e25.Lost||(decide (n3<(0:Int))))))) (p_geq rfl rfl (hg:=fun e=>⟨e,e⟩)) (gcF1 rfl) rfl ?_
  refine P1 (p_or rfl rfl (fun e=>⟨rfl,fun h=>(not_t h)⟩)) rfl rfl (M rfl rfl (TL.nil (hK24 _ _ ?_)))
  refine TK.cond (b:=((e25.Lost||(decide (n3<(0:Int))))||(decide (n3≥(e26.Blocks.length:Int))))) rfl (fun hc=>?_) (fun hc=>?_)
  ·have hX:=ite_t hc hX
   refine TK.reg ?_
   refine M rfl rfl ?_
   obtain ⟨u27,hu27,hX⟩:=bind_some hX
   refine TLc.mkV nd (0:UInt8) kd25 ty5 rfl (fun j hj=>by (have:j=0:=by simpa[Enc.sz] using hj);subst this;rfl) rfl rfl Dc (need_t hu27) rfl ?_
   refine TLc.lit ([(List.replicate (79:Int).toNat (0:UInt8))]:List (List UInt8)) kd22 ty25 rfl ⟨⟨rfl,rfl⟩,trivial⟩ rfl rfl rfl ?_
   obtain ⟨u28,hu28,hX⟩:=bind_some hX
   refine TLc.appO nd kd22 bo22 ty25 rfl rfl (j:=1) rfl rfl (Src_L _) Dc (need_t hu28) rfl fun nd=>?_
   refine M rfl rfl (TL.nil ?_)
   exact J20 (out12++([(List.replicate (79:Int).toNat (0:UInt8))]:List (List UInt8))) _ _ ⟨b11,rfl,(Nd.pick nd (is:=[0,1]) Dc),(HSub.pick nd (is:=[0,1]) Dc)⟩ hX
  ·have hX:=ite_f hc hX
   refine SR fun K29 hK29=>M rfl rfl (M rfl rfl ?_)
   obtain ⟨e30,he30,hX⟩:=bind_some hX
   refine P1 (p_iaO (xs:=l1) kd48 ty54 rfl rfl rfl nd (j:=0) rfl (fun _=>he30)) rfl rfl (P1 (p_faO (xs:=l1) fs54_2 Dc rfl nd (j:=0) rfl) rfl rfl (P1 (p_ldO (xs:=l1) (a:=e30) (e30.Blocks:(List (List UInt8))) ty22 rfl rfl nd (j:=0) rfl (fun _=>he30) rfl rfl rfl) rfl rfl (M rfl rfl ?_)))
   obtain ⟨e31,he31,hX⟩:=bind_some hX
   refine P1 (p_iaL (xs:=e30.Blocks) kd22 ty25 rfl rfl rfl (fun _=>he31)) rfl rfl (P1 (p_ldE (xs:=e30.Blocks) (a:=e31) (e31:(List UInt8)) ty25 rfl rfl (fun _=>he31) rfl rfl rfl) rfl rfl (P1 (p_lenL (xs:=e31) kd25 rfl) rfl rfl (P1 (p_eql rfl rfl) rfl rfl (M rfl rfl (TL.nil (hK29 _ _ ?_))))))
   refine TK.cond (b:=((e31.length:Int)==(79:Int))) rfl (fun hc=>?_) (fun hc=>?_)
   ·have hX:=ite_t hc hX
    refine TK.reg ?_
    refine M rfl rfl (M rfl rfl (M rfl rfl ?_))
    obtain ⟨e32,he32,hX⟩:=bind_some hX
    refine P1 (p_iaO (xs:=l1) kd48 ty54 rfl rfl rfl nd (j:=0) rfl (fun _=>he32)) rfl rfl (P1 (p_faO (xs:=l1) fs54_2 Dc rfl nd (j:=0) rfl) rfl rfl (P1 (p_ldO (xs:=l1) (a:=e32) (e32.Blocks:(List (List UInt8))) ty22 rfl rfl nd (j:=0) rfl (fun _=>he32) rfl rfl rfl) rfl rfl (M rfl rfl ?_)))
    obtain ⟨e33,he33,hX⟩:=bind_some hX
    refine P1 (p_iaL (xs:=e32.Blocks) kd22 ty25 rfl rfl rfl (fun _=>he33)) rfl rfl (P1 (p_ldE (xs:=e32.Blocks) (a:=e33) (e33:(List UInt8)) ty25 rfl rfl (fun _=>he33) rfl rfl rfl) rfl rfl ?_)
    obtain ⟨u34,hu34,hX⟩:=bind_some hX
    refine TLc.appN nd kd25 bo25 ty5 rfl rfl (.inl rfl) rfl (Src_L _) Dc (need_t hu34) rfl fun b35 nd=>?_
    refine TL.lay [(60,L e33)] nd (j:=0) rfl ⟨⟨_,rfl,fix_OL nd (j:=0) rfl,rfl⟩,trivial⟩ fun nd=>?_
    refine TLc.lit ([e33]:List (List UInt8)) kd22 ty25 rfl ⟨⟨rfl,rfl⟩,trivial⟩ rfl rfl rfl ?_
    obtain ⟨u36,hu36,hX⟩:=bind_some hX
    refine TLc.appO nd kd22 bo22 ty25 rfl rfl (j:=1) rfl rfl (Src_L _) Dc (need_t hu36) rfl fun nd=>?_
    refine M rfl rfl (TL.nil ?_)
    exact J20 (out12++([e33]:List (List UInt8))) _ _ ⟨b11,rfl,(Nd.pick nd (is:=[0,1]) Dc),(HSub.pick nd (is:=[0,1]) Dc)⟩ hX
   ·have hX:=ite_f hc hX
    refine TK.reg ?_
    refine M rfl rfl ?_
    refine TLc.litN ([([]:(List UInt8))]:List (List UInt8)) kd22 ty25 rfl ⟨⟨rfl,_,rfl,.inr ⟨rfl,rfl⟩⟩,trivial⟩ rfl rfl rfl ?_
    obtain ⟨u37,hu37,hX⟩:=bind_some hX
    refine TLc.appO nd kd22 bo22 ty25 rfl rfl (j:=1) rfl rfl (Src_L _) Dc (need_t hu37) rfl fun nd=>?_
    refine M rfl rfl (TL.nil ?_)
    exact J20 (out12++([([]:(List UInt8))]:List (List UInt8))) _ _ ⟨b11,rfl,(Nd.pick nd (is:=[0,1]) Dc),(HSub.pick nd (is:=[0,1]) Dc)⟩ hX
 ·have hX:=ite_f hc hX
  refine TK.exit ?_
  obtain rfl:=hR9 _ (some_in hX).symm
  exact E9 out12 _ _ ⟨b11,rfl,(Nd.pick nd (is:=[0,1]) Dc),(HSub.pick nd (is:=[0,1]) Dc)⟩ hA9
theorem ok_cartridgeref1_Mul (a1:UInt8) (b2:UInt8) (r:UInt8) (hX:X.cartridgeref1_Mul a1 b2=some r):Fun Try.prog 182 [Enc.v (a1:UInt8),Enc.v (b2:UInt8)] (·=Enc.v (r:UInt8)):=by
 refine Fun.of b182 (Nat.le_of_ble_eq_true rfl) (allVal.mem ⟨(by exact (v_val _)),(by exact (v_val _)),trivial⟩) ?_
 unfold k182
 have nd:Nd []:=Nd_nil
 unfold X.cartridgeref1_Mul at hX
 refine SR fun K3 hK3=>M rfl rfl (TL.nil (hK3 _ _ (SR fun K4 hK4=>M rfl rfl (TL.nil (hK4 _ _ ?_)))))
 refine TK.seq_k fun K5 hK5=>?_
 refine SR fun K6 hK6=>M rfl rfl (TL.nil (hK6 _ _ ?_))
 refine TK.block ?_
 obtain ⟨o7,hO7,hA7⟩:=bind_some hX
 have E7:∀(x10:Int) (env:Env) (h:Hp),(∃_u:Unit,keepE [5] env=[(5,true,Enc.v x10)]∧Nd []∧HSub [] h)→X.cartridgeref1_Mul_e7 x10=some r→K5 env h:=by
  intro x10 env h hE hX
  obtain ⟨_u,henv,nd,hs⟩:=hE
  unfold X.cartridgeref1_Mul_e7 at hX
  refine hK5 _ _ (TK.keep [5] ?_)
  rw[henv]
  refine TK.subH hs ?_
  refine TK.seq_k fun K11 hK11=>?_
  refine SR fun K12 hK12=>M rfl rfl (TL.nil (hK12 _ _ ?_))
  refine TK.block ?_
  obtain ⟨o13,hO13,hA13⟩:=bind_some hX
  have E13:∀(x16:Int) (env:Env) (h:Hp),(∃_u:Unit,keepE [5] env=[(5,true,Enc.v x16)]∧Nd []∧HSub [] h)→X.cartridgeref1_Mul_e13 x16=some r→K11 env h:=by
   intro x16 env h hE hX
   obtain ⟨_u,henv,nd,hs⟩:=hE
   unfold X.cartridgeref1_Mul_e13 at hX
   refine hK11 _ _ (TK.keep [5] ?_)
   rw[henv]
   refine TK.subH hs ?_
   refine SR fun K17 hK17=>M rfl rfl (P1 (p_cvt src3 kd5 rfl (cv_u8 _)) rfl rfl (M rfl rfl (TL.nil (hK17 _ _ ?_))))
   refine TK.ret ?_
   try dsimp only[thenQ]
   exact R1 rfl hX
  refine TK.iter [5,7] (fun s env h=>match s with|(x14,i15)=>∃_u:Unit,env=[(5,true,Enc.v x14),(7,true,Enc.v i15)]∧Nd []∧HSub [] h) hO13 ⟨(),rfl,Nd_nil,HSub.refl _⟩ ?_
  rintro ⟨x14,i15⟩ env h x13x ⟨_u,rfl,nd,hs⟩ hX hR13
  refine TK.subH hs ?_
  unfold X.cartridgeref1_Mul_s13 at hX
  try dsimp only at hX
  refine TK.seq_k fun K18 hK18=>?_
  refine SR fun K19 hK19=>M rfl rfl (P1 (p_geq rfl rfl) rfl rfl (TL.nil (hK19 _ _ ?_)))
  refine TK.cond (b:=(decide (i15≥(8:Int)))) rfl (fun hc=>?_) (fun hc=>?_)
  ·have hX:=ite_t hc hX
   refine TK.skip ?_
   refine hK18 _ _ ?_
   refine TK.seq_k fun K20 hK20=>?_
   have J20:∀(x21:Int) (env:Env) (h:Hp),(∃_u:Unit,keepE [5,7] env=[(5,true,Enc.v x21),(7,true,Enc.v i15)]∧Nd []∧HSub [] h)→X.cartridgeref1_Mul_j20 i15 x21=some x13x→K20 env h:=by
    intro x21 env h hE hX
    obtain ⟨_u,henv,nd,hs⟩:=hE
    unfold X.cartridgeref1_Mul_j20 at hX
    refine hK20 _ _ (TK.keep [5,7] ?_)
    rw[henv]
    refine TK.subH hs ?_
    refine TK.reg ?_
    refine M rfl rfl (P1 (p_sub rfl rfl) rfl rfl (M rfl rfl (TL.nil ?_)))
    exact ⟨_,(some_in hX).symm,(),rfl,Nd_nil,HSub.refl _⟩
   refine TK.block ?_
   refine SR fun K22 hK22=>M rfl rfl (M rfl rfl (P1 (p_cvt src3 kd105 rfl (cv_u64 _)) rfl rfl (P1 (p_shr rfl rfl (fun _=>by omega)) rfl rfl (P1 (p_and64 rfl rfl) rfl rfl (P1 (p_eql rfl rfl) rfl rfl (TL.nil (hK22 _ _ ?_)))))))
   refine TK.cond (b:=((and64 (shr64 x14 ((u64 i15).toNat:Int)) (1:Int))==(1:Int))) rfl (fun hc=>?_) (fun hc=>?_)
   ·have hX:=ite_t hc hX
    refine TK.reg ?_
    refine M rfl rfl (M rfl rfl (P1 (p_sub rfl rfl) rfl rfl (P1 (p_cvt src3 kd105 rfl (cv_u64 _)) rfl rfl (P1 (p_shl rfl rfl (fun _=>by omega)) rfl rfl (P1 (p_xor64 rfl rfl) rfl rfl (M rfl rfl (TL.nil ?_)))))))
    exact J20 (xor64 x14 (shl64 (285:Int) ((u64 (wr (i15-(8:Int)))).toNat:Int))) _ _ ⟨(),rfl,Nd_nil,HSub.refl _⟩ hX
   ·have hX:=ite_f hc hX
    refine TK.skip ?_
    exact J20 x14 _ _ ⟨(),rfl,Nd_nil,HSub.refl _⟩ hX
  ·have hX:=ite_f hc hX
   refine TK.exit ?_
   obtain rfl:=hR13 _ (some_in hX).symm
   exact E13 x14 _ _ ⟨(),rfl,Nd_nil,HSub.refl _⟩ hA13
 refine TK.iter [0,1,5,6] (fun s env h=>match s with|(x8,i9)=>∃_u:Unit,env=[(0,true,Enc.v a1),(1,true,Enc.v b2),(5,true,Enc.v x8),(6,true,Enc.v i9)]∧Nd []∧HSub [] h) hO7 ⟨(),rfl,Nd_nil,HSub.refl _⟩ ?_
 rintro ⟨x8,i9⟩ env h x7x ⟨_u,rfl,nd,hs⟩ hX hR7
 refine TK.subH hs ?_
 unfold X.cartridgeref1_Mul_s7 at hX
 try dsimp only at hX
 refine TK.seq_k fun K23 hK23=>?_
 refine SR fun K24 hK24=>M rfl rfl (P1 (p_lss rfl rfl) rfl rfl (TL.nil (hK24 _ _ ?_)))
 refine TK.cond (b:=(decide (i9<(8:Int)))) rfl (fun hc=>?_) (fun hc=>?_)
 ·have hX:=ite_t hc hX
  refine TK.skip ?_
  refine hK23 _ _ ?_
  refine TK.seq_k fun K25 hK25=>?_
  have J25:∀(x26:Int) (env:Env) (h:Hp),(∃_u:Unit,keepE [0,1,5,6] env=[(0,true,Enc.v a1),(1,true,Enc.v b2),(5,true,Enc.v x26),(6,true,Enc.v i9)]∧Nd []∧HSub [] h)→X.cartridgeref1_Mul_j25 i9 x26=some x7x→K25 env h:=by
   intro x26 env h hE hX
   obtain ⟨_u,henv,nd,hs⟩:=hE
   unfold X.cartridgeref1_Mul_j25 at hX
   refine hK25 _ _ (TK.keep [0,1,5,6] ?_)
   rw[henv]
   refine TK.subH hs ?_
   refine TK.reg ?_
   refine M rfl rfl (P1 (p_add rfl rfl) rfl rfl (M rfl rfl (TL.nil ?_)))
   exact ⟨_,(some_in hX).symm,(),rfl,Nd_nil,HSub.refl _⟩
  refine TK.block ?_
  refine SR fun K27 hK27=>M rfl rfl (M rfl rfl (P1 (p_cvt src3 kd105 rfl (cv_u64 _)) rfl rfl (P1 (p8_shr (a:=b2) (b:=(u64 i9).toNat) rfl rfl) rfl rfl (P1 (p8_and (a:=(shr8 b2 (u64 i9).toNat)) (b:=(1:UInt8)) rfl rfl) rfl rfl (P1 (p8_eql (a:=((shr8 b2 (u64 i9).toNat)&&&(1:UInt8))) (b:=(1:UInt8)) rfl rfl) rfl rfl (TL.nil (hK27 _ _ ?_)))))))
  refine TK.cond (b:=(((shr8 b2 (u64 i9).toNat)&&&(1:UInt8))==(1:UInt8))) rfl (fun hc=>?_) (fun hc=>?_)
  ·have hX:=ite_t hc hX
   refine TK.reg ?_
   refine M rfl rfl (M rfl rfl (P1 (p_cvt src5 kd3 rfl (cv_8 a1)) rfl rfl (M rfl rfl (P1 (p_cvt src3 kd105 rfl (cv_u64 _)) rfl rfl (P1 (p_shl rfl rfl (fun _=>by omega)) rfl rfl (P1 (p_xor64 rfl rfl) rfl rfl (M rfl rfl (TL.nil ?_))))))))
   exact J25 (xor64 x8 (shl64 (a1.toNat:Int) ((u64 i9).toNat:Int))) _ _ ⟨(),rfl,Nd_nil,HSub.refl _⟩ hX
  ·have hX:=ite_f hc hX
   refine TK.skip ?_
   exact J25 x8 _ _ ⟨(),rfl,Nd_nil,HSub.refl _⟩ hX
 ·have hX:=ite_f hc hX
  refine TK.exit ?_
  obtain rfl:=hR7 _ (some_in hX).symm
  exact E7 x8 _ _ ⟨(),rfl,Nd_nil,HSub.refl _⟩ hA7
theorem ok_cartridgeref1_Inv (a1:UInt8) (r:UInt8) (hX:X.cartridgeref1_Inv a1=some r):Fun Try.prog 193 [Enc.v (a1:UInt8)] (·=Enc.v (r:UInt8)):=by
 refine Fun.of b193 (Nat.le_of_ble_eq_true rfl) (allVal.mem ⟨(by exact (v_val _)),trivial⟩) ?_
 unfold k193
 have nd:Nd []:=Nd_nil
 unfold X.cartridgeref1_Inv at hX
 refine SR fun K2 hK2=>M rfl rfl (TL.nil (hK2 _ _ (SR fun K3 hK3=>M rfl rfl (TL.nil (hK3 _ _ ?_)))))
 refine TK.seq_k fun K4 hK4=>?_
 refine SR fun K5 hK5=>M rfl rfl (TL.nil (hK5 _ _ ?_))
 refine TK.block ?_
 obtain ⟨o6,hO6,hA6⟩:=bind_some hX
 have E6:∀(x9:UInt8) (env:Env) (h:Hp),(∃_u:Unit,keepE [3] env=[(3,true,Enc.v x9)]∧Nd []∧HSub [] h)→X.cartridgeref1_Inv_e6 x9=some r→K4 env h:=by
  intro x9 env h hE hX
  obtain ⟨_u,henv,nd,hs⟩:=hE
  unfold X.cartridgeref1_Inv_e6 at hX
  refine hK4 _ _ (TK.keep [3] ?_)
  rw[henv]
  refine TK.subH hs ?_
  refine SR fun K10 hK10=>M rfl rfl (M rfl rfl (TL.nil (hK10 _ _ ?_)))
  refine TK.ret ?_
  try dsimp only[thenQ]
  exact R1 rfl hX
 refine TK.iter [0,3,4] (fun s env h=>match s with|(x7,i8)=>∃_u:Unit,env=[(0,true,Enc.v a1),(3,true,Enc.v x7),(4,true,Enc.v i8)]∧Nd []∧HSub [] h) hO6 ⟨(),rfl,Nd_nil,HSub.refl _⟩ ?_
 rintro ⟨x7,i8⟩ env h x6x ⟨_u,rfl,nd,hs⟩ hX hR6
 refine TK.subH hs ?_
 unfold X.cartridgeref1_Inv_s6 at hX
 try dsimp only at hX
 refine TK.seq_k fun K11 hK11=>?_
 refine SR fun K12 hK12=>M rfl rfl (P1 (p_lss rfl rfl) rfl rfl (TL.nil (hK12 _ _ ?_)))
 refine TK.cond (b:=(decide (i8<(254:Int)))) rfl (fun hc=>?_) (fun hc=>?_)
 ·have hX:=ite_t hc hX
  refine TK.skip ?_
  refine hK11 _ _ ?_
  refine TK.seq_k fun K13 hK13=>?_
  refine TK.block ?_
  refine TK.reg ?_
  refine M rfl rfl (M rfl rfl ?_)
  obtain ⟨r14,hr14,hX⟩:=bind_some hX
  refine TL.cvX rfl rfl rfl (fun _=>⟨rfl,⟨rfl,⟨rfl,trivial⟩⟩⟩) (fun e=>ok_cartridgeref1_Mul x7 a1 _ hr14) ?_
  refine M rfl rfl (TL.nil (hK13 _ _ ?_))
  refine TK.reg ?_
  refine M rfl rfl (P1 (p_add rfl rfl) rfl rfl (M rfl rfl (TL.nil ?_)))
  exact ⟨_,(some_in hX).symm,(),rfl,Nd_nil,HSub.refl _⟩
 ·have hX:=ite_f hc hX
  refine TK.exit ?_
  obtain rfl:=hR6 _ (some_in hX).symm
  exact E6 x7 _ _ ⟨(),rfl,Nd_nil,HSub.refl _⟩ hA6
theorem ok_cartridgeref1_Cauchy (data1:Int) (parity2:Int) (r:((List (List UInt8))×Int)) (hX:X.cartridgeref1_Cauchy data1 parity2=some r):Fun Try.prog 181 [Enc.v (data1:Int),Enc.v (parity2:Int)] (·= .tup 2 (ofL [Enc.v r.1,Enc.v r.2])):=by
 refine Fun.of b181 (Nat.le_of_ble_eq_true rfl) (allVal.mem ⟨(by exact (v_val _)),(by exact (v_val _)),trivial⟩) ?_
 unfold k181
 have nd:Nd []:=Nd_nil
 unfold X.cartridgeref1_Cauchy at hX
 refine SR fun K3 hK3=>M rfl rfl (M rfl rfl (TL.nil (hK3 _ _ ?_)))
 refine TK.seq_k fun K4 hK4=>?_
 refine SR fun K5 hK5=>M rfl rfl (P1 (p_lss rfl rfl) rfl rfl (M rfl rfl ?_))
 refine TLc.p (gc:=(!((decide (data1<(1:Int)))))) (p_mv rfl (hg:=fun e=>rfl)) (gcF1 rfl) rfl ?_
 refine TLc.p (gc:=(!((decide (data1<(1:Int)))))) (p_lss rfl rfl (hg:=fun e=>⟨e,rfl⟩)) (gcF1 rfl) rfl ?_
 refine P1 (p_or rfl rfl (fun e=>⟨rfl,fun h=>(not_t h)⟩)) rfl rfl (M rfl rfl ?_)
 refine TLc.p (gc:=(!(((decide (data1<(1:Int)))||(decide (parity2<(1:Int))))))) (p_mv rfl (hg:=fun e=>rfl)) (gcF1 rfl) rfl ?_
 refine TLc.p (gc:=(!(((decide (data1<(1:Int)))||(decide (parity2<(1:Int))))))) (p_gtr rfl rfl (hg:=fun e=>⟨e,rfl⟩)) (gcF1 rfl) rfl ?_
 refine P1 (p_or rfl rfl (fun e=>⟨rfl,fun h=>(not_t h)⟩)) rfl rfl (M rfl rfl ?_)
 refine TLc.p (gc:=(!((((decide (data1<(1:Int)))||(decide (parity2<(1:Int))))||(decide (data1>(255:Int))))))) (p_mv rfl (hg:=fun e=>rfl)) (gcF1 rfl) rfl ?_
 refine TLc.p (gc:=(!((((decide (data1<(1:Int)))||(decide (parity2<(1:Int))))||(decide (data1>(255:Int))))))) (p_gtr rfl rfl (hg:=fun e=>⟨e,rfl⟩)) (gcF1 rfl) rfl ?_
 refine P1 (p_or rfl rfl (fun e=>⟨rfl,fun h=>(not_t h)⟩)) rfl rfl (M rfl rfl ?_)
 refine TLc.p (gc:=(!(((((decide (data1<(1:Int)))||(decide (parity2<(1:Int))))||(decide (data1>(255:Int))))||(decide (parity2>(255:Int))))))) (p_mv rfl (hg:=fun e=>rfl)) (gcF1 rfl) rfl ?_
 refine TLc.p (gc:=(!(((((decide (data1<(1:Int)))||(decide (parity2<(1:Int))))||(decide (data1>(255:Int))))||(decide (parity2>(255:Int))))))) (p_mv rfl (hg:=fun e=>rfl)) (gcF1 rfl) rfl ?_
 refine TLc.p (gc:=(!(((((decide (data1<(1:Int)))||(decide (parity2<(1:Int))))||(decide (data1>(255:Int))))||(decide (parity2>(255:Int))))))) (p_add rfl rfl (hg:=fun e=>⟨e,e⟩)) (gcF1 rfl) rfl ?_
 refine TLc.p (gc:=(!(((((decide (data1<(1:Int)))||(decide (parity2<(1:Int))))||(decide (data1>(255:Int))))||(decide (parity2>(255:Int))))))) (p_gtr rfl rfl (hg:=fun e=>⟨e,rfl⟩)) (gcF1 rfl) rfl ?_
 refine P1 (p_or rfl rfl (fun e=>⟨rfl,fun h=>(not_t h)⟩)) rfl rfl (TL.nil (hK5 _ _ ?_))
 refine TK.cond (b:=(((((decide (data1<(1:Int)))||(decide (parity2<(1:Int))))||(decide (data1>(255:Int))))||(decide (parity2>(255:Int))))||(decide ((wr (data1+parity2))>(255:Int))))) rfl (fun hc=>?_) (fun hc=>?_)
 ·have hX:=ite_t hc hX
  refine SR fun K6 hK6=>M rfl rfl (M rfl rfl (TL.nil (hK6 _ _ ?_)))
  refine TK.wk 4 (L ([]:(List (List UInt8)))) rfl Wk_nil ?_
  refine TK.ret ?_
  try dsimp only[thenQ]
  exact retN (vs:=[Enc.v (([]:(List (List UInt8))):(List (List UInt8))),Enc.v ((1:Int):Int)]) ⟨rfl,rfl,trivial⟩ (by obtain rfl:=some_in hX;rfl) (allVal.mem ⟨v_val _,v_val _,trivial⟩)
 ·have hX:=ite_f hc hX
  refine TK.skip ?_
  refine hK4 _ _ (SR fun K7 hK7=>M rfl rfl (TL.nil (hK7 _ _ ?_)))
  refine TK.ownL (α:=(List UInt8)) 6 25 nd rfl (.inl rfl) fun b8 nd=>?_
  refine TK.seq_k fun K9 hK9=>?_
  refine SR fun K10 hK10=>M rfl rfl (TL.nil (hK10 _ _ ?_))
  refine TK.block ?_
  obtain ⟨o11,hO11,hA11⟩:=bind_some hX
  have E11:∀(l16:List (List UInt8)) (env:Env) (h:Hp),(∃b15,keepE [6] env=[(6,true,OL b15 l16)]∧Nd [(b15,RL (α:=(List UInt8)) 25 l16)]∧HSub [(b15,RL (α:=(List UInt8)) 25 l16)] h)→X.cartridgeref1_Cauchy_e11 l16=some r→K9 env h:=by
   intro l16 env h hE hX
   obtain ⟨b15,henv,nd,hs⟩:=hE
   unfold X.cartridgeref1_Cauchy_e11 at hX
   refine hK9 _ _ (TK.keep [6] ?_)
   rw[henv]
   refine TK.subH hs ?_
   refine SR fun K17 hK17=>M rfl rfl (M rfl rfl (M rfl rfl (TL.nil (hK17 _ _ ?_))))
   refine TK.lay [(4,L l16)] nd (j:=0) rfl ⟨⟨_,rfl,fix_OL nd (j:=0) rfl,rfl⟩,trivial⟩ fun nd=>?_
   refine TK.ret ?_
   try dsimp only[thenQ]
   exact retN (vs:=[Enc.v l16,Enc.v ((0:Int):Int)]) ⟨rfl,rfl,trivial⟩ (by obtain rfl:=some_in hX;rfl) (allVal.mem ⟨v_val _,v_val _,trivial⟩)
  refine TK.iter [0,1,6,7] (fun s env h=>match s with|(out13,i14)=>∃b12,env=[(0,true,Enc.v data1),(1,true,Enc.v parity2),(6,true,OL b12 out13),(7,true,Enc.v i14)]∧Nd [(b12,RL (α:=(List UInt8)) 25 out13)]∧HSub [(b12,RL (α:=(List UInt8)) 25 out13)] h) hO11 ⟨b8,rfl,(Nd.pick nd (is:=[0]) Dc),(HSub.pick nd (is:=[0]) Dc)⟩ ?_
  rintro ⟨out13,i14⟩ env h x11x ⟨b12,rfl,nd,hs⟩ hX hR11
  refine TK.subH hs ?_
  unfold X.cartridgeref1_Cauchy_s11 at hX
  try dsimp only at hX
  refine TK.seq_k fun K18 hK18=>?_
  refine SR fun K19 hK19=>M rfl rfl (M rfl rfl (P1 (p_lss rfl rfl) rfl rfl (TL.nil (hK19 _ _ ?_))))
  refine TK.cond (b:=(decide (i14<parity2))) rfl (fun hc=>?_) (fun hc=>?_)
  ·have hX:=ite_t hc hX
   refine TK.skip ?_
   refine hK18 _ _ ?_
   refine TK.seq_k fun K20 hK20=>?_
   refine TK.block ?_
   refine SR fun K21 hK21=>M rfl rfl (TL.nil (hK21 _ _ ?_))
   refine TK.ownL (α:=UInt8) 8 5 nd rfl (.inl rfl) fun b22 nd=>?_
   refine TK.seq_k fun K23 hK23=>?_
   refine SR fun K24 hK24=>M rfl rfl (TL.nil (hK24 _ _ ?_))
   refine TK.block ?_
   obtain ⟨o25,hO25,hA25⟩:=bind_some hX
   have E25:∀(l32:List UInt8) (env:Env) (h:Hp),(∃b30 b31,keepE [0,1,6,7,8] env=[(0,true,Enc.v data1),(1,true,Enc.v parity2),(6,true,OL b30 out13),(7,true,Enc.v i14),(8,true,OL b31 l32)]∧Nd [(b30,RL (α:=(List UInt8)) 25 out13),(b31,RL (α:=UInt8) 5 l32)]∧HSub [(b30,RL (α:=(List UInt8)) 25 out13),(b31,RL (α:=UInt8) 5 l32)] h)→X.cartridgeref1_Cauchy_e25 out13 i14 l32=some x11x→K23 env h:=by
    intro l32 env h hE hX
    obtain ⟨b30,b31,henv,nd,hs⟩:=hE
    unfold X.cartridgeref1_Cauchy_e25 at hX
    refine hK23 _ _ (TK.keep [0,1,6,7,8] ?_)
    rw[henv]
    refine TK.subH hs ?_
    refine TK.reg ?_
    refine M rfl rfl (M rfl rfl ?_)
    refine TL.lay [(52,L l32)] nd (j:=1) rfl ⟨⟨_,rfl,fix_OL nd (j:=1) rfl,rfl⟩,trivial⟩ fun nd=>?_
    refine TLc.lit ([l32]:List (List UInt8)) kd22 ty25 rfl ⟨⟨rfl,rfl⟩,trivial⟩ rfl rfl rfl ?_
    obtain ⟨u33,hu33,hX⟩:=bind_some hX
    refine TLc.appO nd kd22 bo22 ty25 rfl rfl (j:=0) rfl rfl (Src_L _) Dc (need_t hu33) rfl fun nd=>?_
    refine M rfl rfl (TL.nil (hK20 _ _ ?_))
    refine TK.reg ?_
    refine M rfl rfl (P1 (p_add rfl rfl) rfl rfl (M rfl rfl (TL.nil ?_)))
    exact ⟨_,(some_in hX).symm,b30,rfl,(Nd.pick nd (is:=[0]) Dc),(HSub.pick nd (is:=[0]) Dc)⟩
   refine TK.iter [0,1,6,7,8,9] (fun s env h=>match s with|(row28,j29)=>∃b26 b27,env=[(0,true,Enc.v data1),(1,true,Enc.v parity2),(6,true,OL b26 out13),(7,true,Enc.v i14),(8,true,OL b27 row28),(9,true,Enc.v j29)]∧Nd [(b26,RL (α:=(List UInt8)) 25 out13),(b27,RL (α:=UInt8) 5 row28)]∧HSub [(b26,RL (α:=(List UInt8)) 25 out13),(b27,RL (α:=UInt8) 5 row28)] h) hO25 ⟨b12,b22,rfl,(Nd.pick nd (is:=[1,0]) Dc),(HSub.pick nd (is:=[1,0]) Dc)⟩ ?_
   rintro ⟨row28,j29⟩ env h x25x ⟨b26,b27,rfl,nd,hs⟩ hX hR25
   refine TK.subH hs ?_
   unfold X.cartridgeref1_Cauchy_s25 at hX
   try dsimp only at hX
   refine TK.seq_k fun K34 hK34=>?_
   refine SR fun K35 hK35=>M rfl rfl (M rfl rfl (P1 (p_lss rfl rfl) rfl rfl (TL.nil (hK35 _ _ ?_))))
   refine TK.cond (b:=(decide (j29<data1))) rfl (fun hc=>?_) (fun hc=>?_)
   ·have hX:=ite_t hc hX
    refine TK.skip ?_
    refine hK34 _ _ ?_
    refine TK.seq_k fun K36 hK36=>?_
    refine TK.block ?_
    refine TK.reg ?_
    refine M rfl rfl (M rfl rfl (P1 (p_cvt src3 kd5 rfl (cv_u8 _)) rfl rfl (M rfl rfl (M rfl rfl (P1 (p_add rfl rfl) rfl rfl (P1 (p_cvt src3 kd5 rfl (cv_u8 _)) rfl rfl (P1 (p8_xor (a:=(u8 i14)) (b:=(u8 (wr (parity2+j29)))) rfl rfl) rfl rfl ?_)))))))
    obtain ⟨r37,hr37,hX⟩:=bind_some hX
    refine TL.cvX rfl rfl rfl (fun _=>⟨rfl,⟨rfl,trivial⟩⟩) (fun e=>ok_cartridgeref1_Inv ((u8 i14)^^^(u8 (wr (parity2+j29)))) _ hr37) ?_
    refine TLc.lit ([r37]:List UInt8) kd25 ty5 rfl ⟨⟨rfl,rfl⟩,trivial⟩ rfl rfl rfl ?_
    obtain ⟨u38,hu38,hX⟩:=bind_some hX
    refine TLc.appO nd kd25 bo25 ty5 rfl rfl (j:=1) rfl rfl (Src_L _) Dc (need_t hu38) rfl fun nd=>?_
    refine M rfl rfl (TL.nil (hK36 _ _ ?_))
    refine TK.reg ?_
    refine M rfl rfl (P1 (p_add rfl rfl) rfl rfl (M rfl rfl (TL.nil ?_)))
    exact ⟨_,(some_in hX).symm,b26,b27,rfl,(Nd.pick nd (is:=[0,1]) Dc),(HSub.pick nd (is:=[0,1]) Dc)⟩
   ·have hX:=ite_f hc hX
    refine TK.exit ?_
    obtain rfl:=hR25 _ (some_in hX).symm
    exact E25 row28 _ _ ⟨b26,b27,rfl,(Nd.pick nd (is:=[0,1]) Dc),(HSub.pick nd (is:=[0,1]) Dc)⟩ hA25
  ·have hX:=ite_f hc hX
   refine TK.exit ?_
   obtain rfl:=hR11 _ (some_in hX).symm
   exact E11 out13 _ _ ⟨b12,rfl,(Nd.pick nd (is:=[0]) Dc),(HSub.pick nd (is:=[0]) Dc)⟩ hA11
theorem ok_cartridgeref1_Encode (data1:(List (List UInt8))) (parity2:Int) (r:((List (List UInt8))×Int)) (hX:X.cartridgeref1_Encode data1 parity2=some r):Fun Try.prog 142 [Enc.v (data1:(List (List UInt8))),Enc.v (parity2:Int)] (·= .tup 2 (ofL [Enc.v r.1,Enc.v r.2])):=by
 refine Fun.of b142 (Nat.le_of_ble_eq_true rfl) (allVal.mem ⟨(by exact (v_val _)),(by exact (v_val _)),trivial⟩) ?_
 unfold k142
 have nd:Nd []:=Nd_nil
 unfold X.cartridgeref1_Encode at hX
 refine SR fun K3 hK3=>M rfl rfl (M rfl rfl (TL.nil (hK3 _ _ ?_)))
 refine TK.seq_k fun K4 hK4=>?_
 refine SR fun K5 hK5=>M rfl rfl (P1 (p_lenL (xs:=data1) kd22 rfl) rfl rfl (P1 (p_lss rfl rfl) rfl rfl (M rfl rfl ?_)))
 refine TLc.p (gc:=(!((decide ((data1.length:Int)<(1:Int)))))) (p_mv rfl (hg:=fun e=>rfl)) (gcF1 rfl) rfl ?_
 refine TLc.p (gc:=(!((decide ((data1.length:Int)<(1:Int)))))) (p_lss rfl rfl (hg:=fun e=>⟨e,rfl⟩)) (gcF1 rfl) rfl ?_
 refine P1 (p_or rfl rfl (fun e=>⟨rfl,fun h=>(not_t h)⟩)) rfl rfl (M rfl rfl ?_)
 refine TLc.p (gc:=(!(((decide ((data1.length:Int)<(1:Int)))||(decide (parity2<(0:Int))))))) (p_mv rfl (hg:=fun e=>rfl)) (gcF1 rfl) rfl ?_
 refine TLc.p (gc:=(!(((decide ((data1.length:Int)<(1:Int)))||(decide (parity2<(0:Int))))))) (p_gtr rfl rfl (hg:=fun e=>⟨e,rfl⟩)) (gcF1 rfl) rfl ?_
 refine P1 (p_or rfl rfl (fun e=>⟨rfl,fun h=>(not_t h)⟩)) rfl rfl (M rfl rfl ?_)
 refine TLc.p (gc:=(!((((decide ((data1.length:Int)<(1:Int)))||(decide (parity2<(0:Int))))||(decide (parity2>(255:Int))))))) (p_mv rfl (hg:=fun e=>rfl)) (gcF1 rfl) rfl ?_
 refine TLc.p (gc:=(!((((decide ((data1.length:Int)<(1:Int)))||(decide (parity2<(0:Int))))||(decide (parity2>(255:Int))))))) (p_lenL (xs:=data1) kd22 rfl (hg:=fun e=>e)) (gcF1 rfl) rfl ?_
 refine TLc.p (gc:=(!((((decide ((data1.length:Int)<(1:Int)))||(decide (parity2<(0:Int))))||(decide (parity2>(255:Int))))))) (p_mv rfl (hg:=fun e=>rfl)) (gcF1 rfl) rfl ?_
 refine TLc.p (gc:=(!((((decide ((data1.length:Int)<(1:Int)))||(decide (parity2<(0:Int))))||(decide (parity2>(255:Int))))))) (p_add rfl rfl (hg:=fun e=>⟨e,e⟩)) (gcF1 rfl) rfl ?_
 refine TLc.p (gc:=(!((((decide ((data1.length:Int)<(1:Int)))||(decide (parity2<(0:Int))))||(decide (parity2>(255:Int))))))) (p_gtr rfl rfl (hg:=fun e=>⟨e,rfl⟩)) (gcF1 rfl) rfl ?_
 refine P1 (p_or rfl rfl (fun e=>⟨rfl,fun h=>(not_t h)⟩)) rfl rfl (TL.nil (hK5 _ _ ?_))
 refine TK.cond (b:=((((decide ((data1.length:Int)<(1:Int)))||(decide (parity2<(0:Int))))||(decide (parity2>(255:Int))))||(decide ((wr ((data1.length:Int)+parity2))>(255:Int))))) rfl (fun hc=>?_) (fun hc=>?_)
 ·have hX:=ite_t hc hX
  refine SR fun K6 hK6=>M rfl rfl (M rfl rfl (TL.nil (hK6 _ _ ?_)))
  refine TK.wk 4 (L ([]:(List (List UInt8)))) rfl Wk_nil ?_
  refine TK.ret ?_
  try dsimp only[thenQ]
  exact retN (vs:=[Enc.v (([]:(List (List UInt8))):(List (List UInt8))),Enc.v ((1:Int):Int)]) ⟨rfl,rfl,trivial⟩ (by obtain rfl:=some_in hX;rfl) (allVal.mem ⟨v_val _,v_val _,trivial⟩)
 ·have hX:=ite_f hc hX
  refine TK.skip ?_
  refine hK4 _ _ ?_
  refine TK.seq_k fun K7 hK7=>?_
  refine SR fun K8 hK8=>M rfl rfl (TL.nil (hK8 _ _ ?_))
  refine TK.block ?_
  obtain ⟨o9,hO9,hA9⟩:=bind_some hX
  have E9:∀(env:Env) (h:Hp),(∃_u:Unit,keepE [0,1] env=[(0,true,Enc.v data1),(1,true,Enc.v parity2)]∧Nd []∧HSub [] h)→X.cartridgeref1_Encode_e9 parity2 data1=some r→K7 env h:=by
   intro env h hE hX
   obtain ⟨_u,henv,nd,hs⟩:=hE
   unfold X.cartridgeref1_Encode_e9 at hX
   refine hK7 _ _ (TK.keep [0,1] ?_)
   rw[henv]
   refine TK.subH hs ?_
   refine TK.seq_k fun K11 hK11=>?_
   refine SR fun K12 hK12=>M rfl rfl (P1 (p_eql rfl rfl) rfl rfl (TL.nil (hK12 _ _ ?_)))
   refine TK.cond (b:=(parity2==(0:Int))) rfl (fun hc=>?_) (fun hc=>?_)
   ·have hX:=ite_t hc hX
    refine SR fun K13 hK13=>M rfl rfl (M rfl rfl (TL.nil (hK13 _ _ ?_)))
    refine TK.wk 4 (L ([]:(List (List UInt8)))) rfl Wk_nil ?_
    refine TK.ret ?_
    try dsimp only[thenQ]
    exact retN (vs:=[Enc.v (([]:(List (List UInt8))):(List (List UInt8))),Enc.v ((0:Int):Int)]) ⟨rfl,rfl,trivial⟩ (by obtain rfl:=some_in hX;rfl) (allVal.mem ⟨v_val _,v_val _,trivial⟩)
   ·have hX:=ite_f hc hX
    refine TK.skip ?_
    refine hK11 _ _ (SR fun K14 hK14=>M rfl rfl (P1 (p_lenL (xs:=data1) kd22 rfl) rfl rfl (M rfl rfl ?_)))
    obtain ⟨r15,hr15,hX⟩:=bind_some hX
    refine TL.cvX rfl rfl rfl (fun _=>⟨rfl,⟨rfl,⟨rfl,trivial⟩⟩⟩) (fun e=>ok_cartridgeref1_Cauchy (data1.length:Int) parity2 _ hr15) ?_
    refine M rfl rfl (P1 (p_ex rfl rfl Dc) rfl rfl (P1 (p_ex rfl rfl Dc) rfl rfl (M rfl rfl (M rfl rfl (TL.nil (hK14 _ _ (SR fun K16 hK16=>M rfl rfl (TL.nil (hK16 _ _ ?_)))))))))
    refine TK.ownL (α:=(List UInt8)) 9 25 nd rfl (.inl rfl) fun b17 nd=>?_
    refine TK.seq_k fun K18 hK18=>?_
    refine SR fun K19 hK19=>M rfl rfl (TL.nil (hK19 _ _ ?_))
    refine TK.block ?_
    obtain ⟨o20,hO20,hA20⟩:=bind_some hX
    have E20:∀(l25:List (List UInt8)) (env:Env) (h:Hp),(∃b24,keepE [9] env=[(9,true,OL b24 l25)]∧Nd [(b24,RL (α:=(List UInt8)) 25 l25)]∧HSub [(b24,RL (α:=(List UInt8)) 25 l25)] h)→X.cartridgeref1_Encode_e20 l25=some r→K18 env h:=by
     intro l25 env h hE hX
     obtain ⟨b24,henv,nd,hs⟩:=hE
     unfold X.cartridgeref1_Encode_e20 at hX
     refine hK18 _ _ (TK.keep [9] ?_)
     rw[henv]
     refine TK.subH hs ?_
     refine SR fun K26 hK26=>M rfl rfl (M rfl rfl (M rfl rfl (TL.nil (hK26 _ _ ?_))))
     refine TK.lay [(4,L l25)] nd (j:=0) rfl ⟨⟨_,rfl,fix_OL nd (j:=0) rfl,rfl⟩,trivial⟩ fun nd=>?_
     refine TK.ret ?_
     try dsimp only[thenQ]
     exact retN (vs:=[Enc.v l25,Enc.v ((0:Int):Int)]) ⟨rfl,rfl,trivial⟩ (by obtain rfl:=some_in hX;rfl) (allVal.mem ⟨v_val _,v_val _,trivial⟩)
    refine TK.iter [0,1,7,9,10] (fun s env h=>match s with|(out22,i23)=>∃b21,env=[(0,true,Enc.v data1),(1,true,Enc.v parity2),(7,true,Enc.v r15.1),(9,true,OL b21 out22),(10,true,Enc.v i23)]∧Nd [(b21,RL (α:=(List UInt8)) 25 out22)]∧HSub [(b21,RL (α:=(List UInt8)) 25 out22)] h) hO20 ⟨b17,rfl,(Nd.pick nd (is:=[0]) Dc),(HSub.pick nd (is:=[0]) Dc)⟩ ?_
    rintro ⟨out22,i23⟩ env h x20x ⟨b21,rfl,nd,hs⟩ hX hR20
    refine TK.subH hs ?_
    unfold X.cartridgeref1_Encode_s20 at hX
    try dsimp only at hX
    refine TK.seq_k fun K27 hK27=>?_
    refine SR fun K28 hK28=>M rfl rfl (M rfl rfl (P1 (p_lss rfl rfl) rfl rfl (TL.nil (hK28 _ _ ?_))))
    refine TK.cond (b:=(decide (i23<parity2))) rfl (fun hc=>?_) (fun hc=>?_)
    ·have hX:=ite_t hc hX
     refine TK.skip ?_
     refine hK27 _ _ ?_
     refine TK.seq_k fun K29 hK29=>?_
     refine TK.block ?_
     refine SR fun K30 hK30=>M rfl rfl ?_
     obtain ⟨e31,he31,hX⟩:=bind_some hX
     refine P1 (p_iaL (xs:=data1) kd22 ty25 rfl rfl rfl (fun _=>he31)) rfl rfl (P1 (p_ldE (xs:=data1) (a:=e31) (e31:(List UInt8)) ty25 rfl rfl (fun _=>he31) rfl rfl rfl) rfl rfl (P1 (p_lenL (xs:=e31) kd25 rfl) rfl rfl ?_))
     obtain ⟨u33,hu33,hX⟩:=bind_some hX
     refine TLc.mkO nd (0:UInt8) kd25 ty5 rfl (fun j hj=>by (have:j=0:=by simpa[Enc.sz] using hj);subst this;rfl) rfl rfl Dc (need_t hu33) rfl fun b34 nd=>?_
     refine M rfl rfl (TL.nil (hK30 _ _ ?_))
     refine TK.seq_k fun K35 hK35=>?_
     refine SR fun K36 hK36=>M rfl rfl (TL.nil (hK36 _ _ ?_))
     refine TK.block ?_
     obtain ⟨o37,hO37,hA37⟩:=bind_some hX
     have E37:∀(l44:List UInt8) (env:Env) (h:Hp),(∃b42 b43,keepE [0,1,7,9,10,11] env=[(0,true,Enc.v data1),(1,true,Enc.v parity2),(7,true,Enc.v r15.1),(9,true,OL b42 out22),(10,true,Enc.v i23),(11,true,OL b43 l44)]∧Nd [(b42,RL (α:=(List UInt8)) 25 out22),(b43,RL (α:=UInt8) 5 l44)]∧HSub [(b42,RL (α:=(List UInt8)) 25 out22),(b43,RL (α:=UInt8) 5 l44)] h)→X.cartridgeref1_Encode_e37 out22 i23 l44=some x20x→K35 env h:=by
      intro l44 env h hE hX
      obtain ⟨b42,b43,henv,nd,hs⟩:=hE
      unfold X.cartridgeref1_Encode_e37 at hX
      refine hK35 _ _ (TK.keep [0,1,7,9,10,11] ?_)
      rw[henv]
      refine TK.subH hs ?_
      refine TK.reg ?_
      refine M rfl rfl (M rfl rfl ?_)
      refine TL.lay [(103,L l44)] nd (j:=1) rfl ⟨⟨_,rfl,fix_OL nd (j:=1) rfl,rfl⟩,trivial⟩ fun nd=>?_
      refine TLc.lit ([l44]:List (List UInt8)) kd22 ty25 rfl ⟨⟨rfl,rfl⟩,trivial⟩ rfl rfl rfl ?_
      obtain ⟨u45,hu45,hX⟩:=bind_some hX
      refine TLc.appO nd kd22 bo22 ty25 rfl rfl (j:=0) rfl rfl (Src_L _) Dc (need_t hu45) rfl fun nd=>?_
      refine M rfl rfl (TL.nil (hK29 _ _ ?_))
      refine TK.reg ?_
      refine M rfl rfl (P1 (p_add rfl rfl) rfl rfl (M rfl rfl (TL.nil ?_)))
      exact ⟨_,(some_in hX).symm,b42,rfl,(Nd.pick nd (is:=[0]) Dc),(HSub.pick nd (is:=[0]) Dc)⟩
     refine TK.iter [0,1,7,9,10,11,12] (fun s env h=>match s with|(row40,k41)=>∃b38 b39,env=[(0,true,Enc.v data1),(1,true,Enc.v parity2),(7,true,Enc.v r15.1),(9,true,OL b38 out22),(10,true,Enc.v i23),(11,true,OL b39 row40),(12,true,Enc.v k41)]∧Nd [(b38,RL (α:=(List UInt8)) 25 out22),(b39,RL (α:=UInt8) 5 row40)]∧HSub [(b38,RL (α:=(List UInt8)) 25 out22),(b39,RL (α:=UInt8) 5 row40)] h) hO37 ⟨b21,b34,rfl,(Nd.pick nd (is:=[1,0]) Dc),(HSub.pick nd (is:=[1,0]) Dc)⟩ ?_
     rintro ⟨row40,k41⟩ env h x37x ⟨b38,b39,rfl,nd,hs⟩ hX hR37
     refine TK.subH hs ?_
     unfold X.cartridgeref1_Encode_s37 at hX
     try dsimp only at hX
     refine TK.seq_k fun K46 hK46=>?_
     refine SR fun K47 hK47=>M rfl rfl (M rfl rfl (P1 (p_lenR kd25 rfl (fun _=>refOK_of nd (j:=1) rfl rfl)) rfl rfl (P1 (p_lss rfl rfl) rfl rfl (TL.nil (hK47 _ _ ?_)))))
     refine TK.cond (b:=(decide (k41<(row40.length:Int)))) rfl (fun hc=>?_) (fun hc=>?_)
     ·have hX:=ite_t hc hX
      refine TK.skip ?_
      refine hK46 _ _ ?_
      refine TK.seq_k fun K48 hK48=>?_
      refine TK.block ?_
      refine SR fun K49 hK49=>M rfl rfl (TL.nil (hK49 _ _ ?_))
      refine TK.block ?_
      obtain ⟨o50,hO50,hA50⟩:=bind_some hX
      have E50:∀(l57:List UInt8) (env:Env) (h:Hp),(∃b55 b56,keepE [0,1,7,9,10,11,12] env=[(0,true,Enc.v data1),(1,true,Enc.v parity2),(7,true,Enc.v r15.1),(9,true,OL b55 out22),(10,true,Enc.v i23),(11,true,OL b56 l57),(12,true,Enc.v k41)]∧Nd [(b55,RL (α:=(List UInt8)) 25 out22),(b56,RL (α:=UInt8) 5 l57)]∧HSub [(b55,RL (α:=(List UInt8)) 25 out22),(b56,RL (α:=UInt8) 5 l57)] h)→X.cartridgeref1_Encode_e50 k41 l57=some x37x→K48 env h:=by
       intro l57 env h hE hX
       obtain ⟨b55,b56,henv,nd,hs⟩:=hE
       unfold X.cartridgeref1_Encode_e50 at hX
       refine hK48 _ _ (TK.keep [0,1,7,9,10,11,12] ?_)
       rw[henv]
       refine TK.subH hs ?_
       refine TK.reg ?_
       refine M rfl rfl (P1 (p_add rfl rfl) rfl rfl (M rfl rfl (TL.nil ?_)))
       exact ⟨_,(some_in hX).symm,b55,b56,rfl,(Nd.pick nd (is:=[0,1]) Dc),(HSub.pick nd (is:=[0,1]) Dc)⟩
      refine TK.iter [0,1,7,9,10,11,12,13] (fun s env h=>match s with|(row53,j54)=>∃b51 b52,env=[(0,true,Enc.v data1),(1,true,Enc.v parity2),(7,true,Enc.v r15.1),(9,true,OL b51 out22),(10,true,Enc.v i23),(11,true,OL b52 row53),(12,true,Enc.v k41),(13,true,Enc.v j54)]∧Nd [(b51,RL (α:=(List UInt8)) 25 out22),(b52,RL (α:=UInt8) 5 row53)]∧HSub [(b51,RL (α:=(List UInt8)) 25 out22),(b52,RL (α:=UInt8) 5 row53)] h) hO50 ⟨b38,b39,rfl,(Nd.pick nd (is:=[0,1]) Dc),(HSub.pick nd (is:=[0,1]) Dc)⟩ ?_
      rintro ⟨row53,j54⟩ env h x50x ⟨b51,b52,rfl,nd,hs⟩ hX hR50
      refine TK.subH hs ?_
      unfold X.cartridgeref1_Encode_s50 at hX
      try dsimp only at hX
      refine TK.seq_k fun K58 hK58=>?_
      refine SR fun K59 hK59=>M rfl rfl (M rfl rfl (P1 (p_lenL (xs:=data1) kd22 rfl) rfl rfl (P1 (p_lss rfl rfl) rfl rfl (TL.nil (hK59 _ _ ?_)))))
      refine TK.cond (b:=(decide (j54<(data1.length:Int)))) rfl (fun hc=>?_) (fun hc=>?_)
      ·have hX:=ite_t hc hX
       refine TK.skip ?_
       refine hK58 _ _ ?_
       refine TK.seq_k fun K60 hK60=>?_
       refine TK.block ?_
       refine TK.pick [1,0] nd Dc fun nd=>?_
       have ndS:Nd [(b51,RL (α:=(List UInt8)) 25 out22)]:=Nd.pick nd (is:=[1]) Dc
       refine TK.endK fun KD hKD=>?_
       refine TK.drwX (h:=[(b52,RL (α:=UInt8) 5 row53)]) (hS:=[(b51,RL (α:=(List UInt8)) 25 out22)]) [(0,0),(0,1),(0,2),(0,3),(1,4),(1,5),(0,6),(0,7),(0,8),(0,9),(0,10),(0,11),(0,12),(0,13),(0,14),(0,15),(0,16),(0,17),(0,18),(0,19),(0,20),(0,21),(1,22),(2,23)] mixed (by kernel_rfl) (HSub_app nd) ?_
       refine DM rfl rfl rfl ?_
       refine DM rfl rfl rfl ?_
       refine DM rfl rfl rfl ?_
       refine DM rfl rfl rfl ?_
       obtain ⟨e61,he61,hX⟩:=bind_some hX
       refine DR1 (gc:=true) rfl (vok_p (C:=cx) (p_iaO (xs:=row53) kd25 ty5 rfl rfl rfl nd (j:=0) rfl (fun _=>he61))) rfl rfl ?_
       refine DR1 (gc:=true) rfl (vok_p (C:=cx) (p_ldO (xs:=row53) (a:=e61) (e61:UInt8) ty5 rfl rfl nd (j:=0) rfl (fun _=>he61) rfl rfl rfl)) rfl rfl ?_
       refine DM rfl rfl rfl ?_
       refine DM rfl rfl rfl ?_
       obtain ⟨e62,he62,hX⟩:=bind_some hX
       refine D0 rfl (p_iaL (xs:=r15.1) kd22 ty25 rfl rfl rfl (fun _=>he62)) rfl rfl ?_
       refine D0 rfl (p_ldE (xs:=r15.1) (a:=e62) (e62:(List UInt8)) ty25 rfl rfl (fun _=>he62) rfl rfl rfl) rfl rfl ?_
       refine DM rfl rfl rfl ?_
       obtain ⟨e63,he63,hX⟩:=bind_some hX
       refine D0 rfl (p_iaL (xs:=e62) kd25 ty5 rfl rfl rfl (fun _=>he63)) rfl rfl ?_
       refine D0 rfl (p_ldE (xs:=e62) (a:=e63) (e63:UInt8) ty5 rfl rfl (fun _=>he63) rfl rfl rfl) rfl rfl ?_
       refine DM rfl rfl rfl ?_
       refine DM rfl rfl rfl ?_
       obtain ⟨e64,he64,hX⟩:=bind_some hX
       refine D0 rfl (p_iaL (xs:=data1) kd22 ty25 rfl rfl rfl (fun _=>he64)) rfl rfl ?_
       refine D0 rfl (p_ldE (xs:=data1) (a:=e64) (e64:(List UInt8)) ty25 rfl rfl (fun _=>he64) rfl rfl rfl) rfl rfl ?_
       refine DM rfl rfl rfl ?_
       obtain ⟨e65,he65,hX⟩:=bind_some hX
       refine D0 rfl (p_iaL (xs:=e64) kd25 ty5 rfl rfl rfl (fun _=>he65)) rfl rfl ?_
       refine D0 rfl (p_ldE (xs:=e64) (a:=e65) (e65:UInt8) ty5 rfl rfl (fun _=>he65) rfl rfl rfl) rfl rfl ?_
       obtain ⟨r66,hr66,hX⟩:=bind_some hX
       refine DR0 (gc:=true) rfl (vok_c rfl (fun _=>⟨rfl,⟨rfl,⟨rfl,trivial⟩⟩⟩) (fun e=>ok_cartridgeref1_Mul e63 e65 _ hr66)) rfl rfl ?_
       refine D0 rfl (p8_xor (a:=e61) (b:=r66) rfl rfl) rfl rfl ?_
       obtain ⟨e67,he67,hX⟩:=bind_some hX
       refine DR1 (gc:=true) rfl (vok_p (C:=cx) (p_iaO (xs:=row53) kd25 ty5 rfl rfl rfl nd (j:=0) rfl (fun _=>he67))) rfl rfl ?_
       refine DR2n rfl ?_
       refine TLc.stW (xs:=row53) (i:=k41) (lu:=Enc.cl ((e61^^^r66):UInt8)) (a':=(e61^^^r66)) nd ty5 rfl (j:=0) rfl (by simp[Enc.sz]) (inb_of he67 (by simp)) rfl (Cells_v ((e61^^^r66):UInt8)) rfl (WkL_refl _) fun nd=>?_
       refine TL.nil ⟨.nilp,[(b52,RL (α:=UInt8) 5 (row53.set k41.toNat (e61^^^r66)))],rfl,rfl,HSub_app nd,?_⟩
       refine DRend ?_
       refine hKD _ _ ?_
       refine TL.cv 11 (OL (α:=UInt8) b52 (row53.set k41.toNat (e61^^^r66))) rfl (Wk_eq (OL_len (by simp))) ?_
       refine TL.nil (hK60 _ _ ?_)
       refine TK.reg ?_
       refine M rfl rfl (P1 (p_add rfl rfl) rfl rfl (M rfl rfl (TL.nil ?_)))
       exact ⟨_,(some_in hX).symm,b51,b52,rfl,(Nd.pick nd (is:=[1,0]) Dc),(HSub.pick nd (is:=[1,0]) Dc)⟩
      ·have hX:=ite_f hc hX
       refine TK.exit ?_
       obtain rfl:=hR50 _ (some_in hX).symm
       exact E50 row53 _ _ ⟨b51,b52,rfl,(Nd.pick nd (is:=[0,1]) Dc),(HSub.pick nd (is:=[0,1]) Dc)⟩ hA50
     ·have hX:=ite_f hc hX
      refine TK.exit ?_
      obtain rfl:=hR37 _ (some_in hX).symm
      exact E37 row40 _ _ ⟨b38,b39,rfl,(Nd.pick nd (is:=[0,1]) Dc),(HSub.pick nd (is:=[0,1]) Dc)⟩ hA37
    ·have hX:=ite_f hc hX
     refine TK.exit ?_
     obtain rfl:=hR20 _ (some_in hX).symm
     exact E20 out22 _ _ ⟨b21,rfl,(Nd.pick nd (is:=[0]) Dc),(HSub.pick nd (is:=[0]) Dc)⟩ hA20
  refine TK.iter [0,1,6] (fun s env h=>match s with|i10=>∃_u:Unit,env=[(0,true,Enc.v data1),(1,true,Enc.v parity2),(6,true,Enc.v i10)]∧Nd []∧HSub [] h) hO9 ⟨(),rfl,Nd_nil,HSub.refl _⟩ ?_
  rintro i10 env h x9x ⟨_u,rfl,nd,hs⟩ hX hR9
  refine TK.subH hs ?_
  unfold X.cartridgeref1_Encode_s9 at hX
  try dsimp only at hX
  refine TK.seq_k fun K68 hK68=>?_
  refine SR fun K69 hK69=>M rfl rfl (M rfl rfl (P1 (p_lenL (xs:=data1) kd22 rfl) rfl rfl (P1 (p_lss rfl rfl) rfl rfl (TL.nil (hK69 _ _ ?_)))))
  refine TK.cond (b:=(decide (i10<(data1.length:Int)))) rfl (fun hc=>?_) (fun hc=>?_)
  ·have hX:=ite_t hc hX
   refine TK.skip ?_
   refine hK68 _ _ ?_
   refine TK.seq_k fun K70 hK70=>?_
   refine TK.block ?_
   refine TK.seq_k fun K71 hK71=>?_
   have ndS:Nd []:=Nd.pick nd (is:=[]) Dc
   refine TK.drwX (h:=[]) (hS:=[]) [(0,0),(0,1),(0,2),(0,3),(0,4),(0,5),(0,6),(0,7),(0,8),(0,9)] mixed (by kernel_rfl) (HSub_app nd) ?_
   refine DM rfl rfl rfl ?_
   refine DM rfl rfl rfl ?_
   obtain ⟨e72,he72,hX⟩:=bind_some hX
   refine D0 rfl (p_iaL (xs:=data1) kd22 ty25 rfl rfl rfl (fun _=>he72)) rfl rfl ?_
   refine D0 rfl (p_ldE (xs:=data1) (a:=e72) (e72:(List UInt8)) ty25 rfl rfl (fun _=>he72) rfl rfl rfl) rfl rfl ?_
   refine D0 rfl (p_lenL (xs:=e72) kd25 rfl) rfl rfl ?_
   refine DM rfl rfl rfl ?_
   obtain ⟨e73,he73,hX⟩:=bind_some hX
   refine D0 rfl (p_iaL (xs:=data1) kd22 ty25 rfl rfl rfl (fun _=>he73)) rfl rfl ?_
   refine D0 rfl (p_ldE (xs:=data1) (a:=e73) (e73:(List UInt8)) ty25 rfl rfl (fun _=>he73) rfl rfl rfl) rfl rfl ?_
   refine D0 rfl (p_lenL (xs:=e73) kd25 rfl) rfl rfl ?_
   refine D0 rfl (p_neq rfl rfl) rfl rfl ?_
   refine DRend ?_
   refine hK71 _ _ ?_
   refine TK.cond (b:=((e72.length:Int) !=(e73.length:Int))) rfl (fun hc=>?_) (fun hc=>?_)
   ·have hX:=ite_t hc hX
    refine SR fun K74 hK74=>M rfl rfl (M rfl rfl (TL.nil (hK74 _ _ ?_)))
    refine TK.wk 4 (L ([]:(List (List UInt8)))) rfl Wk_nil ?_
    refine TK.ret ?_
    obtain rfl:=hR9 _ (some_in hX).symm
    replace hX:=hA9
    try dsimp only[thenQ]
    exact retN (vs:=[Enc.v (([]:(List (List UInt8))):(List (List UInt8))),Enc.v ((1:Int):Int)]) ⟨rfl,rfl,trivial⟩ (by obtain rfl:=some_in hX;rfl) (allVal.mem ⟨v_val _,v_val _,trivial⟩)
   ·have hX:=ite_f hc hX
    refine TK.skip ?_
    refine hK70 _ _ ?_
    refine TK.reg ?_
    refine M rfl rfl (P1 (p_add rfl rfl) rfl rfl (M rfl rfl (TL.nil ?_)))
    exact ⟨_,(some_in hX).symm,(),rfl,Nd_nil,HSub.refl _⟩
  ·have hX:=ite_f hc hX
   refine TK.exit ?_
   obtain rfl:=hR9 _ (some_in hX).symm
   exact E9 _ _ ⟨(),rfl,Nd_nil,HSub.refl _⟩ hA9
theorem ok_cartridgeref10_Parity_kp0 (parity3:Int) (l1:(List Tape_api)) (b2:Nat) (nd:Nd [(b2,RL (α:=Tape_api) 54 l1)]) (r:((List (List (List UInt8)))×Int)) (hX:X.cartridgeref10_Parity_kp0 parity3 l1=some r):TCX Try.prog 91 [OL (α:=Tape_api) b2 l1,Enc.v (parity3:Int)] [(b2,RL (α:=Tape_api) 54 l1)] (fun rv h'=>rv= .tup 2 (ofL [Enc.v (r.1:(List (List (List UInt8)))),Enc.v (r.2:Int)])∧h'=[(b2,RL (α:=Tape_api) 54 l1)]):=by
 refine TCX.of b91 (Nat.le_of_ble_eq_true rfl) ?_
 unfold k91
 unfold X.cartridgeref10_Parity_kp0 at hX
 refine SR fun K4 hK4=>M rfl rfl (M rfl rfl (TL.nil (hK4 _ _ ?_)))
 refine TK.seq_k fun K5 hK5=>?_
 refine SR fun K6 hK6=>M rfl rfl (P1 (p_lenR kd48 rfl (fun _=>refOK_of nd (j:=0) rfl rfl)) rfl rfl (P1 (p_lss rfl rfl) rfl rfl (M rfl rfl ?_)))
 refine TLc.p (gc:=(!((decide ((l1.length:Int)<(1:Int)))))) (p_mv rfl (hg:=fun e=>rfl)) (gcF1 rfl) rfl ?_
 refine TLc.p (gc:=(!((decide ((l1.length:Int)<(1:Int)))))) (p_lss rfl rfl (hg:=fun e=>⟨e,rfl⟩)) (gcF1 rfl) rfl ?_
 refine P1 (p_or rfl rfl (fun e=>⟨rfl,fun h=>(not_t h)⟩)) rfl rfl (M rfl rfl ?_)
 refine TLc.p (gc:=(!(((decide ((l1.length:Int)<(1:Int)))||(decide (parity3<(0:Int))))))) (p_mv rfl (hg:=fun e=>rfl)) (gcF1 rfl) rfl ?_
 refine TLc.p (gc:=(!(((decide ((l1.length:Int)<(1:Int)))||(decide (parity3<(0:Int))))))) (p_gtr rfl rfl (hg:=fun e=>⟨e,rfl⟩)) (gcF1 rfl) rfl ?_
 refine P1 (p_or rfl rfl (fun e=>⟨rfl,fun h=>(not_t h)⟩)) rfl rfl (M rfl rfl ?_)
 refine TLc.p (gc:=(!((((decide ((l1.length:Int)<(1:Int)))||(decide (parity3<(0:Int))))||(decide (parity3>(255:Int))))))) (p_mv rfl (hg:=fun e=>rfl)) (gcF1 rfl) rfl ?_
 refine TLc.p (gc:=(!((((decide ((l1.length:Int)<(1:Int)))||(decide (parity3<(0:Int))))||(decide (parity3>(255:Int))))))) (p_lenR kd48 rfl (fun _=>refOK_of nd (j:=0) rfl rfl) (hg:=fun e=>e)) (gcF1 rfl) rfl ?_
 refine TLc.p (gc:=(!((((decide ((l1.length:Int)<(1:Int)))||(decide (parity3<(0:Int))))||(decide (parity3>(255:Int))))))) (p_mv rfl (hg:=fun e=>rfl)) (gcF1 rfl) rfl ?_
 refine TLc.p (gc:=(!((((decide ((l1.length:Int)<(1:Int)))||(decide (parity3<(0:Int))))||(decide (parity3>(255:Int))))))) (p_add rfl rfl (hg:=fun e=>⟨e,e⟩)) (gcF1 rfl) rfl ?_
 refine TLc.p (gc:=(!((((decide ((l1.length:Int)<(1:Int)))||(decide (parity3<(0:Int))))||(decide (parity3>(255:Int))))))) (p_gtr rfl rfl (hg:=fun e=>⟨e,rfl⟩)) (gcF1 rfl) rfl ?_
 refine P1 (p_or rfl rfl (fun e=>⟨rfl,fun h=>(not_t h)⟩)) rfl rfl (TL.nil (hK6 _ _ ?_))
 refine TK.cond (b:=((((decide ((l1.length:Int)<(1:Int)))||(decide (parity3<(0:Int))))||(decide (parity3>(255:Int))))||(decide ((wr ((l1.length:Int)+parity3))>(255:Int))))) rfl (fun hc=>?_) (fun hc=>?_)
 ·have hX:=ite_t hc hX
  refine SR fun K7 hK7=>M rfl rfl (M rfl rfl (TL.nil (hK7 _ _ ?_)))
  refine TK.wk 4 (L ([]:(List (List (List UInt8))))) rfl Wk_nil ?_
  refine TK.ret ?_
  try dsimp only[thenQ]
  exact retX (v:= .tup 2 (ofL [Enc.v (([]:(List (List (List UInt8)))):(List (List (List UInt8)))),Enc.v ((1:Int):Int)])) (resN (vs:=[Enc.v (([]:(List (List (List UInt8)))):(List (List (List UInt8)))),Enc.v ((1:Int):Int)]) ⟨rfl,rfl,trivial⟩) (by obtain rfl:=some_in hX;exact ⟨rfl,rfl⟩) nd (inH_tup (l:=[Enc.v (([]:(List (List (List UInt8)))):(List (List (List UInt8)))),Enc.v ((1:Int):Int)]) ⟨inH_val (v_val _),inH_val (v_val _),trivial⟩) ⟨rowIn_RL,trivial⟩
 ·have hX:=ite_f hc hX
  refine TK.skip ?_
  refine hK5 _ _ (SR fun K8 hK8=>M rfl rfl (TL.nil (hK8 _ _ ?_)))
  refine TK.ownG (α:=(List UInt8)) 6 22 nd rfl (.inl rfl) fun b9 nd=>?_
  refine TK.seq_k fun K10 hK10=>?_
  refine SR fun K11 hK11=>M rfl rfl (TL.nil (hK11 _ _ ?_))
  refine TK.block ?_
  obtain ⟨o12,hO12,hA12⟩:=bind_some hX
  have E12:∀(l19:List (List (List UInt8))) (env:Env) (h:Hp),(∃b18 T18 cs18,keepE [0,1,6] env=[(0,true,OL b2 l1),(1,true,Enc.v parity3),(6,true,OL b18 l19)]∧Nd ((b2,RL (α:=Tape_api) 54 l1)::(b18,RV 22 cs18)::T18)∧HSub ((b2,RL (α:=Tape_api) 54 l1)::(b18,RV 22 cs18)::T18) h∧Grid (α:=(List UInt8)) 25 T18 cs18 l19)→X.cartridgeref10_Parity_kp0_e12 l1 parity3 l19=some r→K10 env h:=by
   intro l19 env h hE hX
   obtain ⟨b18,T18,cs18,henv,nd,hs,hG18⟩:=hE
   unfold X.cartridgeref10_Parity_kp0_e12 at hX
   refine hK10 _ _ (TK.keep [0,1,6] ?_)
   rw[henv]
   refine TK.subH hs ?_
   refine TK.seq_k fun K20 hK20=>?_
   refine SR fun K21 hK21=>M rfl rfl (TL.nil (hK21 _ _ ?_))
   refine TK.block ?_
   obtain ⟨o22,hO22,hA22⟩:=bind_some hX
   have E22:∀(l29:List (List (List UInt8))) (env:Env) (h:Hp),(∃b28 T28 cs28,keepE [0,6] env=[(0,true,OL b2 l1),(6,true,OL b28 l29)]∧Nd ((b2,RL (α:=Tape_api) 54 l1)::(b28,RV 22 cs28)::T28)∧HSub ((b2,RL (α:=Tape_api) 54 l1)::(b28,RV 22 cs28)::T28) h∧Grid (α:=(List UInt8)) 25 T28 cs28 l29)→X.cartridgeref10_Parity_kp0_e22 l29=some r→K20 env h:=by
    intro l29 env h hE hX
    obtain ⟨b28,T28,cs28,henv,nd,hs,hG28⟩:=hE
    unfold X.cartridgeref10_Parity_kp0_e22 at hX
    refine hK20 _ _ (TK.keep [0,6] ?_)
    rw[henv]
    refine TK.subH hs ?_
    refine SR fun K30 hK30=>M rfl rfl (M rfl rfl (M rfl rfl (TL.nil (hK30 _ _ ?_))))
    refine TK.layG (α:=(List UInt8)) [(b2,RL (α:=Tape_api) 54 l1),(b28,RV 22 cs28)] T28 nd (j:=1) rfl hG28 fun nd=>?_
    refine TK.lay [(4,L l29)] nd (j:=1) rfl ⟨⟨_,rfl,fix_OL nd (j:=1) rfl,rfl⟩,trivial⟩ fun nd=>?_
    refine TK.ret ?_
    try dsimp only[thenQ]
    exact retX (v:= .tup 2 (ofL [Enc.v (l29:(List (List (List UInt8)))),Enc.v ((0:Int):Int)])) (resN (vs:=[Enc.v (l29:(List (List (List UInt8)))),Enc.v ((0:Int):Int)]) ⟨rfl,rfl,trivial⟩) (by obtain rfl:=some_in hX;exact ⟨rfl,rfl⟩) nd (inH_tup (l:=[Enc.v (l29:(List (List (List UInt8)))),Enc.v ((0:Int):Int)]) ⟨inH_val (v_val _),inH_val (v_val _),trivial⟩) ⟨rowIn_RL,trivial⟩
   refine TK.iter [0,1,6,8] (fun s env h=>match s with|(out25,n26)=>∃b24 T24 cs24,env=[(0,true,OL b2 l1),(1,true,Enc.v parity3),(6,true,OL b24 out25),(8,true,Enc.v n26)]∧Nd ((b2,RL (α:=Tape_api) 54 l1)::(b24,RV 22 cs24)::T24)∧HSub ((b2,RL (α:=Tape_api) 54 l1)::(b24,RV 22 cs24)::T24) h∧Grid (α:=(List UInt8)) 25 T24 cs24 out25) hO22 ⟨b18,T18,cs18,rfl,(Nd.pickT nd 2 (is:=[0,1]) Dc Dc (len_geF [_,_] _)),(HSub.pickT nd 2 (is:=[0,1]) Dc Dc (len_geF [_,_] _)),hG18⟩ ?_
   rintro ⟨out25,n26⟩ env h x22x ⟨b24,T24,cs24,rfl,nd,hs,hG24⟩ hX hR22
   refine TK.subH hs ?_
   unfold X.cartridgeref10_Parity_kp0_s22 at hX
   try dsimp only at hX
   refine TK.seq_k fun K31 hK31=>?_
   refine SR fun K32 hK32=>M rfl rfl (M rfl rfl ?_)
   obtain ⟨r33,hr33,hX⟩:=bind_some hX
   refine TL.lookX [L l1] rfl rfl rfl (fun _=>⟨rfl,⟨rfl,trivial⟩⟩) ⟨look_OL nd (j:=0) rfl,trivial⟩ (fun e=>ok_cartridgeref10_StripeLen l1 _ hr33) (trivial) ?_
   refine P1 (p_lss rfl rfl) rfl rfl (TL.nil (hK32 _ _ ?_))
   refine TK.cond (b:=(decide (n26<r33))) rfl (fun hc=>?_) (fun hc=>?_)
   ·have hX:=ite_t hc hX
    refine TK.skip ?_
    refine hK31 _ _ ?_
    refine TK.seq_k fun K34 hK34=>?_
    refine TK.block ?_
    refine SR fun K35 hK35=>M rfl rfl (M rfl rfl ?_)
    obtain ⟨r36,hr36,hX⟩:=bind_some hX
    refine TL.tcX [(b2,RL (α:=Tape_api) 54 l1)] ([(b24,RV 22 cs24)]++T24) rfl nd (dlt rfl) rfl ⟨rfl,⟨rfl,⟨rfl,trivial⟩⟩⟩ (ok_cartridgeref10_Row_kp0 n26 l1 b2 (Nd.take nd 1 rfl) _ hr36) ?_
    rintro _ _ hQ nd
    obtain ⟨rfl,rfl⟩:=hQ
    refine M rfl rfl (TL.nil (hK35 _ _ ?_))
    refine TK.seq_k fun K37 hK37=>?_
    refine SR fun K38 hK38=>M rfl rfl (TL.nil (hK38 _ _ ?_))
    refine TK.block ?_
    obtain ⟨o39,hO39,hA39⟩:=bind_some hX
    have E39:∀(env:Env) (h:Hp),(∃b44 T44 cs44,keepE [0,1,6,8,9] env=[(0,true,OL b2 l1),(1,true,Enc.v parity3),(6,true,OL b44 out25),(8,true,Enc.v n26),(9,true,Enc.v r36)]∧Nd ((b2,RL (α:=Tape_api) 54 l1)::(b44,RV 22 cs44)::T44)∧HSub ((b2,RL (α:=Tape_api) 54 l1)::(b44,RV 22 cs44)::T44) h∧Grid (α:=(List UInt8)) 25 T44 cs44 out25)→X.cartridgeref10_Parity_kp0_e39 r36 parity3 out25 n26=some x22x→K37 env h:=by
     intro env h hE hX
     obtain ⟨b44,T44,cs44,henv,nd,hs,hG44⟩:=hE
     unfold X.cartridgeref10_Parity_kp0_e39 at hX
     refine hK37 _ _ (TK.keep [0,1,6,8,9] ?_)
     rw[henv]
     refine TK.subH hs ?_
     refine SR fun K45 hK45=>M rfl rfl (M rfl rfl ?_)
     obtain ⟨r46,hr46,hX⟩:=bind_some hX
     refine TL.cvX rfl rfl rfl (fun _=>⟨rfl,⟨rfl,⟨rfl,trivial⟩⟩⟩) (fun e=>ok_cartridgeref1_Encode r36 parity3 _ hr46) ?_
     refine M rfl rfl (P1 (p_ex rfl rfl Dc) rfl rfl (P1 (p_ex rfl rfl Dc) rfl rfl (M rfl rfl (M rfl rfl (TL.nil (hK45 _ _ ?_))))))
     refine TK.seq_k fun K47 hK47=>?_
     refine SR fun K48 hK48=>M rfl rfl (P1 (p_neq rfl rfl) rfl rfl (TL.nil (hK48 _ _ ?_)))
     refine TK.cond (b:=(r46.2 !=(0:Int))) rfl (fun hc=>?_) (fun hc=>?_)
     ·have hX:=ite_t hc hX
      refine SR fun K49 hK49=>M rfl rfl (M rfl rfl (M rfl rfl (TL.nil (hK49 _ _ ?_))))
      refine TK.wk 4 (L ([]:(List (List (List UInt8))))) rfl Wk_nil ?_
      refine TK.pick [0] nd Dc fun nd=>?_
      refine TK.ret ?_
      obtain rfl:=hR22 _ (some_in hX).symm
      replace hX:=hA22
      try dsimp only[thenQ]
      exact retX (v:= .tup 2 (ofL [Enc.v (([]:(List (List (List UInt8)))):(List (List (List UInt8)))),Enc.v r46.2])) (resN (vs:=[Enc.v (([]:(List (List (List UInt8)))):(List (List (List UInt8)))),Enc.v r46.2]) ⟨rfl,rfl,trivial⟩) (by obtain rfl:=some_in hX;exact ⟨rfl,rfl⟩) nd (inH_tup (l:=[Enc.v (([]:(List (List (List UInt8)))):(List (List (List UInt8)))),Enc.v r46.2]) ⟨inH_val (v_val _),inH_val (v_val _),trivial⟩) ⟨rowIn_RL,trivial⟩
     ·have hX:=ite_f hc hX
      refine TK.skip ?_
      refine hK47 _ _ (SR fun K50 hK50=>M rfl rfl (TL.nil (hK50 _ _ ?_)))
      refine TK.block ?_
      obtain ⟨o51,hO51,hA51⟩:=bind_some hX
      have E51:∀(l58:List (List (List UInt8))) (env:Env) (h:Hp),(∃b57 T57 cs57,keepE [0,1,6,8] env=[(0,true,OL b2 l1),(1,true,Enc.v parity3),(6,true,OL b57 l58),(8,true,Enc.v n26)]∧Nd ((b2,RL (α:=Tape_api) 54 l1)::(b57,RV 22 cs57)::T57)∧HSub ((b2,RL (α:=Tape_api) 54 l1)::(b57,RV 22 cs57)::T57) h∧Grid (α:=(List UInt8)) 25 T57 cs57 l58)→X.cartridgeref10_Parity_kp0_e51 n26 l58=some x22x→K34 env h:=by
       intro l58 env h hE hX
       obtain ⟨b57,T57,cs57,henv,nd,hs,hG57⟩:=hE
       unfold X.cartridgeref10_Parity_kp0_e51 at hX
       refine hK34 _ _ (TK.keep [0,1,6,8] ?_)
       rw[henv]
       refine TK.subH hs ?_
       refine TK.reg ?_
       refine M rfl rfl (P1 (p_add rfl rfl) rfl rfl (M rfl rfl (TL.nil ?_)))
       exact ⟨_,(some_in hX).symm,b57,T57,cs57,rfl,(Nd.pickT nd 2 (is:=[0,1]) Dc Dc (len_geF [_,_] _)),(HSub.pickT nd 2 (is:=[0,1]) Dc Dc (len_geF [_,_] _)),hG57⟩
      refine TK.iter [0,1,6,8,11,13] (fun s env h=>match s with|(out54,j55)=>∃b53 T53 cs53,env=[(0,true,OL b2 l1),(1,true,Enc.v parity3),(6,true,OL b53 out54),(8,true,Enc.v n26),(11,true,Enc.v r46.1),(13,true,Enc.v j55)]∧Nd ((b2,RL (α:=Tape_api) 54 l1)::(b53,RV 22 cs53)::T53)∧HSub ((b2,RL (α:=Tape_api) 54 l1)::(b53,RV 22 cs53)::T53) h∧Grid (α:=(List UInt8)) 25 T53 cs53 out54) hO51 ⟨b44,T44,cs44,rfl,(Nd.pickT nd 2 (is:=[0,1]) Dc Dc (len_geF [_,_] _)),(HSub.pickT nd 2 (is:=[0,1]) Dc Dc (len_geF [_,_] _)),hG44⟩ ?_
      rintro ⟨out54,j55⟩ env h x51x ⟨b53,T53,cs53,rfl,nd,hs,hG53⟩ hX hR51
      refine TK.subH hs ?_
      unfold X.cartridgeref10_Parity_kp0_s51 at hX
      try dsimp only at hX
      refine TK.seq_k fun K59 hK59=>?_
      refine SR fun K60 hK60=>M rfl rfl (M rfl rfl (P1 (p_lss rfl rfl) rfl rfl (TL.nil (hK60 _ _ ?_))))
      refine TK.cond (b:=(decide (j55<parity3))) rfl (fun hc=>?_) (fun hc=>?_)
      ·have hX:=ite_t hc hX
       refine TK.skip ?_
       refine hK59 _ _ ?_
       refine TK.seq_k fun K61 hK61=>?_
       refine TK.block ?_
       refine TK.endK fun KD hKD=>?_
       refine TK.drwXe [(0,0),(0,1),(0,2),(0,3),(1,4),(1,5),(0,6),(0,7),(0,8),(0,9),(0,10),(2,11),(1,12),(2,13)] mixed (by kernel_rfl) ?_
       refine DM rfl rfl rfl ?_
       refine DM rfl rfl rfl ?_
       refine DM rfl rfl rfl ?_
       refine DM rfl rfl rfl ?_
       obtain ⟨e62,he62,hX⟩:=bind_some hX
       refine DR1e (gc:=true) rfl (vok_p (C:=cx) (p_iaG hG53 kd111 ty22 rfl rfl rfl nd (j:=1) rfl (fun _=>he62))) rfl rfl ?_
       obtain ⟨nm63,hT63,hc63⟩:=gridAt (i:=j55) hG53 he62
       refine DR1e (gc:=true) rfl (vok_p (C:=cx) (p_ldG ty22 rfl rfl nd (j:=1) rfl hc63 rfl rfl)) rfl rfl ?_
       refine DM rfl rfl rfl ?_
       refine DM rfl rfl rfl ?_
       obtain ⟨e64,he64,hX⟩:=bind_some hX
       refine D0 rfl (p_iaL (xs:=r46.1) kd22 ty25 rfl rfl rfl (fun _=>he64)) rfl rfl ?_
       refine D0 rfl (p_ldE (xs:=r46.1) (a:=e64) (e64:(List UInt8)) ty25 rfl rfl (fun _=>he64) rfl rfl rfl) rfl rfl ?_
       refine DR0 (gc:=true) rfl (vok_lit (C:=cx) ([e64]:List (List UInt8)) kd22 ty25 rfl ⟨⟨rfl,rfl⟩,trivial⟩ rfl rfl) rfl rfl ?_
       obtain ⟨u65,hu65,hX⟩:=bind_some hX
       refine DR2e rfl rfl ?_
       refine TLc.appG (F:=[(b2,RL (α:=Tape_api) 54 l1),(b53,RV 22 cs53)]) (T:=T53) (k:=(j55:Int).toNat) nd kd22 bo22 ty25 rfl rfl hT63 rfl (Src_L _) Dc (need_t hu65) rfl fun nd=>?_
       refine TL.nil ⟨_,rfl,?_⟩
       obtain ⟨e66,he66,hX⟩:=bind_some hX
       refine DR1e (gc:=true) rfl (vok_p (C:=cx) (p_iaG hG53 kd111 ty22 rfl rfl rfl nd (j:=1) rfl (fun _=>he66))) rfl rfl ?_
       refine DR2en rfl ?_
       refine TLc.stG (F:=[(b2,RL (α:=Tape_api) 54 l1),(b53,RV 22 cs53)]) (T:=(T53.set (j55:Int).toNat (nm63,RL (α:=(List UInt8)) 25 (e62++([e64]:List (List UInt8)))))) (i:=j55) nd ty22 rfl (j:=1) rfl hc63 rfl (setAt hT63) rfl fun nd=>?_
       refine TL.nil ⟨rfl,?_⟩
       refine DRende ?_
       refine hKD _ _ ?_
       refine TL.cv 6 (OL (α:=(List (List UInt8))) b53 (out54.set j55.toNat (e62++([e64]:List (List UInt8))))) rfl (Wk_eq (OL_len (by simp))) ?_
       refine TL.nil (hK61 _ _ ?_)
       refine TK.reg ?_
       refine M rfl rfl (P1 (p_add rfl rfl) rfl rfl (M rfl rfl (TL.nil ?_)))
       exact ⟨_,(some_in hX).symm,b53,(T53.set (j55:Int).toNat (nm63,RL (α:=(List UInt8)) 25 (e62++([e64]:List (List UInt8))))),(cs53.set (j55:Int).toNat (OL (α:=(List UInt8)) nm63 (e62++([e64]:List (List UInt8))))),rfl,(Nd.pickT nd 2 (is:=[0,1]) Dc Dc (len_geF [_,_] _)),(HSub.pickT nd 2 (is:=[0,1]) Dc Dc (len_geF [_,_] _)),(Grid.set hG53 hT63)⟩
      ·have hX:=ite_f hc hX
       refine TK.exit ?_
       obtain rfl:=hR51 _ (some_in hX).symm
       exact E51 out54 _ _ ⟨b53,T53,cs53,rfl,(Nd.pickT nd 2 (is:=[0,1]) Dc Dc (len_geF [_,_] _)),(HSub.pickT nd 2 (is:=[0,1]) Dc Dc (len_geF [_,_] _)),hG53⟩ hA51
    refine TK.iter [0,1,6,8,9,10] (fun s env h=>match s with|i42=>∃b41 T41 cs41,env=[(0,true,OL b2 l1),(1,true,Enc.v parity3),(6,true,OL b41 out25),(8,true,Enc.v n26),(9,true,Enc.v r36),(10,true,Enc.v i42)]∧Nd ((b2,RL (α:=Tape_api) 54 l1)::(b41,RV 22 cs41)::T41)∧HSub ((b2,RL (α:=Tape_api) 54 l1)::(b41,RV 22 cs41)::T41) h∧Grid (α:=(List UInt8)) 25 T41 cs41 out25) hO39 ⟨b24,T24,cs24,rfl,(Nd.pickT nd 2 (is:=[0,1]) Dc Dc (len_geF [_,_] _)),(HSub.pickT nd 2 (is:=[0,1]) Dc Dc (len_geF [_,_] _)),hG24⟩ ?_
    rintro i42 env h x39x ⟨b41,T41,cs41,rfl,nd,hs,hG41⟩ hX hR39
    refine TK.subH hs ?_
    unfold X.cartridgeref10_Parity_kp0_s39 at hX
    try dsimp only at hX
    refine TK.seq_k fun K67 hK67=>?_
    refine SR fun K68 hK68=>M rfl rfl (M rfl rfl (P1 (p_lenL (xs:=r36) kd22 rfl) rfl rfl (P1 (p_lss rfl rfl) rfl rfl (TL.nil (hK68 _ _ ?_)))))
    refine TK.cond (b:=(decide (i42<(r36.length:Int)))) rfl (fun hc=>?_) (fun hc=>?_)
    ·have hX:=ite_t hc hX
     refine TK.skip ?_
     refine hK67 _ _ ?_
     refine TK.seq_k fun K69 hK69=>?_
     refine TK.block ?_
     refine SR fun K70 hK70=>M rfl rfl (M rfl rfl ?_)
     obtain ⟨e71,he71,hX⟩:=bind_some hX
     refine P1 (p_iaL (xs:=r36) kd22 ty25 rfl rfl rfl (fun _=>he71)) rfl rfl (P1 (p_ldE (xs:=r36) (a:=e71) (e71:(List UInt8)) ty25 rfl rfl (fun _=>he71) rfl rfl rfl) rfl rfl (P1 (p_lenL (xs:=e71) kd25 rfl) rfl rfl (P1 (p_eql rfl rfl) rfl rfl (TL.nil (hK70 _ _ ?_)))))
     refine TK.cond (b:=((e71.length:Int)==(0:Int))) rfl (fun hc=>?_) (fun hc=>?_)
     ·have hX:=ite_t hc hX
      refine SR fun K72 hK72=>M rfl rfl (M rfl rfl (TL.nil (hK72 _ _ ?_)))
      refine TK.wk 4 (L ([]:(List (List (List UInt8))))) rfl Wk_nil ?_
      refine TK.pick [0] nd Dc fun nd=>?_
      refine TK.ret ?_
      obtain rfl:=hR39 _ (some_in hX).symm
      replace hX:=hA39
      obtain rfl:=hR22 _ (some_in hX).symm
      replace hX:=hA22
      try dsimp only[thenQ]
      exact retX (v:= .tup 2 (ofL [Enc.v (([]:(List (List (List UInt8)))):(List (List (List UInt8)))),Enc.v ((1:Int):Int)])) (resN (vs:=[Enc.v (([]:(List (List (List UInt8)))):(List (List (List UInt8)))),Enc.v ((1:Int):Int)]) ⟨rfl,rfl,trivial⟩) (by obtain rfl:=some_in hX;exact ⟨rfl,rfl⟩) nd (inH_tup (l:=[Enc.v (([]:(List (List (List UInt8)))):(List (List (List UInt8)))),Enc.v ((1:Int):Int)]) ⟨inH_val (v_val _),inH_val (v_val _),trivial⟩) ⟨rowIn_RL,trivial⟩
     ·have hX:=ite_f hc hX
      refine TK.skip ?_
      refine hK69 _ _ ?_
      refine TK.reg ?_
      refine M rfl rfl (P1 (p_add rfl rfl) rfl rfl (M rfl rfl (TL.nil ?_)))
      exact ⟨_,(some_in hX).symm,b41,T41,cs41,rfl,(Nd.pickT nd 2 (is:=[0,1]) Dc Dc (len_geF [_,_] _)),(HSub.pickT nd 2 (is:=[0,1]) Dc Dc (len_geF [_,_] _)),hG41⟩
    ·have hX:=ite_f hc hX
     refine TK.exit ?_
     obtain rfl:=hR39 _ (some_in hX).symm
     exact E39 _ _ ⟨b41,T41,cs41,rfl,(Nd.pickT nd 2 (is:=[0,1]) Dc Dc (len_geF [_,_] _)),(HSub.pickT nd 2 (is:=[0,1]) Dc Dc (len_geF [_,_] _)),hG41⟩ hA39
   ·have hX:=ite_f hc hX
    refine TK.exit ?_
    obtain rfl:=hR22 _ (some_in hX).symm
    exact E22 out25 _ _ ⟨b24,T24,cs24,rfl,(Nd.pickT nd 2 (is:=[0,1]) Dc Dc (len_geF [_,_] _)),(HSub.pickT nd 2 (is:=[0,1]) Dc Dc (len_geF [_,_] _)),hG24⟩ hA22
  refine TK.iter [0,1,6,7] (fun s env h=>match s with|(out15,j16)=>∃b14 T14 cs14,env=[(0,true,OL b2 l1),(1,true,Enc.v parity3),(6,true,OL b14 out15),(7,true,Enc.v j16)]∧Nd ((b2,RL (α:=Tape_api) 54 l1)::(b14,RV 22 cs14)::T14)∧HSub ((b2,RL (α:=Tape_api) 54 l1)::(b14,RV 22 cs14)::T14) h∧Grid (α:=(List UInt8)) 25 T14 cs14 out15) hO12 ⟨b9,[],[],rfl,(Nd.pickT nd 2 (is:=[1,0]) Dc Dc (len_geF [_,_] _)),(HSub.pickT nd 2 (is:=[1,0]) Dc Dc (len_geF [_,_] _)),trivial⟩ ?_
  rintro ⟨out15,j16⟩ env h x12x ⟨b14,T14,cs14,rfl,nd,hs,hG14⟩ hX hR12
  refine TK.subH hs ?_
  unfold X.cartridgeref10_Parity_kp0_s12 at hX
  try dsimp only at hX
  refine TK.seq_k fun K73 hK73=>?_
  refine SR fun K74 hK74=>M rfl rfl (M rfl rfl (P1 (p_lss rfl rfl) rfl rfl (TL.nil (hK74 _ _ ?_))))
  refine TK.cond (b:=(decide (j16<parity3))) rfl (fun hc=>?_) (fun hc=>?_)
  ·have hX:=ite_t hc hX
   refine TK.skip ?_
   refine hK73 _ _ ?_
   refine TK.seq_k fun K75 hK75=>?_
   refine TK.block ?_
   refine TK.reg ?_
   refine M rfl rfl ?_
   refine TLc.lit1 kd111 ty22 rfl rfl rfl ?_
   obtain ⟨u76,hu76,hX⟩:=bind_some hX
   refine TLc.appGN (F:=[(b2,RL (α:=Tape_api) 54 l1),(b14,RV 22 cs14)]) (T:=T14) nd kd111 bo111 ty22 rfl rfl (j:=1) rfl hG14 rfl Dc (need_t hu76) rfl fun b77 nd=>?_
   refine M rfl rfl (TL.nil (hK75 _ _ ?_))
   refine TK.reg ?_
   refine M rfl rfl (P1 (p_add rfl rfl) rfl rfl (M rfl rfl (TL.nil ?_)))
   exact ⟨_,(some_in hX).symm,b14,(T14++[(b77,RL (α:=(List UInt8)) 25 [])]),(cs14++[OL (α:=(List UInt8)) b77 []]),rfl,(Nd.pickT nd 2 (is:=[0,1]) Dc Dc (len_geF [_,_] _)),(HSub.pickT nd 2 (is:=[0,1]) Dc Dc (len_geF [_,_] _)),(Grid.push hG14)⟩
  ·have hX:=ite_f hc hX
   refine TK.exit ?_
   obtain rfl:=hR12 _ (some_in hX).symm
   exact E12 out15 _ _ ⟨b14,T14,cs14,rfl,(Nd.pickT nd 2 (is:=[0,1]) Dc Dc (len_geF [_,_] _)),(HSub.pickT nd 2 (is:=[0,1]) Dc Dc (len_geF [_,_] _)),hG14⟩ hA12
theorem ok_cartridgeref10_frame (kind1:Int) (label2:Int) (number3:Int) (b4:(List UInt8)) (r:(List UInt8)) (hX:X.cartridgeref10_frame kind1 label2 number3 b4=some r):Fun Try.prog 92 [Enc.v (kind1:Int),Enc.v (label2:Int),Enc.v (number3:Int),Enc.v (b4:(List UInt8))] (·=Enc.v (r:(List UInt8))):=by
 refine Fun.of b92 (Nat.le_of_ble_eq_true rfl) (allVal.mem ⟨(by exact (v_val _)),(by exact (v_val _)),(by exact (v_val _)),(by exact (v_val _)),trivial⟩) ?_
 unfold k92
 have nd:Nd []:=Nd_nil
 unfold X.cartridgeref10_frame at hX
 refine SR fun K5 hK5=>M rfl rfl (TL.nil (hK5 _ _ (SR fun K6 hK6=>M rfl rfl (M rfl rfl (M rfl rfl (M rfl rfl (P1 (p_bld (l:=Enc.cl ((Unit_api.mk kind1 label2 number3 b4):Unit_api)) ty68 rfl all68 rfl (fun _=>⟨⟨rfl,trivial,rfl⟩,⟨rfl,trivial,rfl⟩,⟨rfl,trivial,rfl⟩,⟨rfl,trivial,rfl⟩,trivial⟩)) rfl rfl ?_)))))))
 obtain ⟨r7,hr7,hX⟩:=bind_some hX
 refine TL.cvX rfl rfl rfl (fun _=>⟨rfl,⟨rfl,trivial⟩⟩) (fun e=>ok_cartridgeref1_PutFrame (Unit_api.mk kind1 label2 number3 b4) _ hr7) ?_
 refine M rfl rfl (P1 (p_ex rfl rfl Dc) rfl rfl (P1 (p_ex rfl rfl Dc) rfl rfl (M rfl rfl (M rfl rfl (TL.nil (hK6 _ _ (SR fun K8 hK8=>M rfl rfl (M rfl rfl (TL.nil (hK8 _ _ ?_))))))))))
 refine TK.ret ?_
 try dsimp only[thenQ]
 exact R1 rfl hX
theorem ok_cartridgeref10_SealBytes (s1:Seal_api) (r:(List UInt8)) (hX:X.cartridgeref10_SealBytes s1=some r):Fun Try.prog 93 [Enc.v (s1:Seal_api)] (·=Enc.v (r:(List UInt8))):=by
 refine Fun.of b93 (Nat.le_of_ble_eq_true rfl) (allVal.mem ⟨(by exact (v_val _)),trivial⟩) ?_
 unfold k93
 have nd:Nd []:=Nd_nil
 unfold X.cartridgeref10_SealBytes at hX
 refine SR fun K2 hK2=>?_
 refine TLc.boxV (lu:=[Enc.v s1.Number,Enc.v s1.Index,Enc.v s1.Data,Enc.v s1.Parity,Enc.v s1.Labels]) nd rfl (Cells_v (s1:Seal_api)) rfl ?_
 refine M rfl rfl (TL.nil (hK2 _ _ ?_))
 refine TK.seq_k fun K3 hK3=>?_
 refine SR fun K4 hK4=>P1 (p_ldRa (l':=Enc.cl (s1:Seal_api)) ty50 rfl rfl rfl rfl rfl (Nat.le_of_ble_eq_true rfl)) rfl rfl ?_
 obtain ⟨r5,hr5,hX⟩:=bind_some hX
 refine TL.cvX rfl rfl rfl (fun _=>⟨rfl,⟨rfl,trivial⟩⟩) (fun e=>ok_cartridgeref10_RightSeal s1 _ hr5) ?_
 refine P1 (p_not rfl) rfl rfl (TL.nil (hK4 _ _ ?_))
 refine TK.cond (b:=(!r5)) rfl (fun hc=>?_) (fun hc=>?_)
 ·have hX:=ite_t hc hX
  refine SR fun K6 hK6=>M rfl rfl (TL.nil (hK6 _ _ ?_))
  refine TK.wk 2 (L ([]:(List UInt8))) rfl Wk_nil ?_
  refine TK.ret ?_
  try dsimp only[thenQ]
  exact R1 rfl hX
 ·have hX:=ite_f hc hX
  refine TK.skip ?_
  refine hK3 _ _ (SR fun K7 hK7=>P1 (p_bld (l:=[.nils]) ty102 rfl all102 rfl (fun _=>trivial)) rfl rfl ?_)
  refine TLc.boxO (lu:=[.nils]) nd rfl (Cells_agg rfl (allA.mem ⟨trivial,trivial⟩)) rfl fun b8 nd=>?_
  refine M rfl rfl (TL.nil (hK7 _ _ ?_))
  refine TK.ownC (α:=UInt8) nd (j:=0) rfl 0 5 (.inl rfl) fun b9 nd=>?_
  refine SR fun K10 hK10=>M rfl rfl (P1 (p_faR fs50_0 Dc rfl) rfl rfl (P1 (p_ldR (v:=Enc.v s1.Number) ty3 rfl rfl rfl rfl rfl rfl) rfl rfl ?_))
  obtain ⟨r11,hr11,hX⟩:=bind_some hX
  refine TL.pick [1,0] nd Dc fun nd=>?_
  refine TL.tcX [(b8,RV 102 [OL (α:=UInt8) b9 ([]:List UInt8)]),(b9,RL (α:=UInt8) 5 ([]:List UInt8))] [] rfl nd (dlt rfl) rfl ⟨rfl,⟨rfl,⟨rfl,trivial⟩⟩⟩ (ok_cartridgeref1_Writer_Int s1.Number ([]:List UInt8) b8 b9 (Nd.take nd 2 rfl) _ hr11) ?_
  rintro _ _ hQ nd
  obtain ⟨b13,rfl,rfl⟩:=hQ
  refine TL.nil (hK10 _ _ (SR fun K14 hK14=>M rfl rfl (P1 (p_faR fs50_1 Dc rfl) rfl rfl (P1 (p_ldR (v:=Enc.v s1.Index) ty3 rfl rfl rfl rfl rfl rfl) rfl rfl (P1 (p_cvt src3 kd5 rfl (cv_u8 _)) rfl rfl ?_)))))
  obtain ⟨r15,hr15,hX⟩:=bind_some hX
  refine TL.tcX [(b8,RV 102 [OL b13 r11]),(b13,RL (α:=UInt8) 5 r11)] [] rfl nd (dlt rfl) rfl ⟨rfl,⟨rfl,⟨rfl,trivial⟩⟩⟩ (ok_cartridgeref1_Writer_Byte (u8 s1.Index) r11 b8 b13 (Nd.take nd 2 rfl) _ hr15) ?_
  rintro _ _ hQ nd
  obtain ⟨b17,rfl,rfl⟩:=hQ
  refine TL.nil (hK14 _ _ (SR fun K18 hK18=>M rfl rfl (P1 (p_faR fs50_2 Dc rfl) rfl rfl (P1 (p_ldR (v:=Enc.v s1.Data) ty3 rfl rfl rfl rfl rfl rfl) rfl rfl (P1 (p_cvt src3 kd5 rfl (cv_u8 _)) rfl rfl ?_)))))
  obtain ⟨r19,hr19,hX⟩:=bind_some hX
  refine TL.tcX [(b8,RV 102 [OL b17 r15]),(b17,RL (α:=UInt8) 5 r15)] [] rfl nd (dlt rfl) rfl ⟨rfl,⟨rfl,⟨rfl,trivial⟩⟩⟩ (ok_cartridgeref1_Writer_Byte (u8 s1.Data) r15 b8 b17 (Nd.take nd 2 rfl) _ hr19) ?_
  rintro _ _ hQ nd
  obtain ⟨b21,rfl,rfl⟩:=hQ
  refine TL.nil (hK18 _ _ (SR fun K22 hK22=>M rfl rfl (P1 (p_faR fs50_3 Dc rfl) rfl rfl (P1 (p_ldR (v:=Enc.v s1.Parity) ty3 rfl rfl rfl rfl rfl rfl) rfl rfl (P1 (p_cvt src3 kd5 rfl (cv_u8 _)) rfl rfl ?_)))))
  obtain ⟨r23,hr23,hX⟩:=bind_some hX
  refine TL.tcX [(b8,RV 102 [OL b21 r19]),(b21,RL (α:=UInt8) 5 r19)] [] rfl nd (dlt rfl) rfl ⟨rfl,⟨rfl,⟨rfl,trivial⟩⟩⟩ (ok_cartridgeref1_Writer_Byte (u8 s1.Parity) r19 b8 b21 (Nd.take nd 2 rfl) _ hr23) ?_
  rintro _ _ hQ nd
  obtain ⟨b25,rfl,rfl⟩:=hQ
  refine TL.nil (hK22 _ _ ?_)
  refine TK.seq_k fun K26 hK26=>?_
  refine SR fun K27 hK27=>M rfl rfl (TL.nil (hK27 _ _ ?_))
  refine TK.block ?_
  obtain ⟨o28,hO28,hA28⟩:=bind_some hX
  have E28:∀(l35:List UInt8) (env:Env) (h:Hp),(∃b34 b33,keepE [3] env=[(3,true,.ref b33 0 1)]∧Nd [(b34,RL (α:=UInt8) 5 l35),(b33,RV 102 [OL b34 l35])]∧HSub [(b34,RL (α:=UInt8) 5 l35),(b33,RV 102 [OL b34 l35])] h)→X.cartridgeref10_SealBytes_e28 l35=some r→K26 env h:=by
   intro l35 env h hE hX
   obtain ⟨b34,b33,henv,nd,hs⟩:=hE
   unfold X.cartridgeref10_SealBytes_e28 at hX
   refine hK26 _ _ (TK.keep [3] ?_)
   rw[henv]
   refine TK.subH hs ?_
   refine SR fun K36 hK36=>M rfl rfl (P1 (p_ncR rfl (fun _=>refOK_of nd (j:=1) rfl rfl)) rfl rfl (P1 (p_faV fs102_0 Dc rfl nd (j:=1) rfl rfl) rfl rfl (P1 (p_ldV (v:=OL b34 l35) ty25 rfl rfl nd (j:=1) rfl rfl rfl rfl rfl) rfl rfl (M rfl rfl (TL.nil (hK36 _ _ ?_))))))
   refine TK.layR (l2':=[Enc.v l35]) [(2,L l35)] nd (j:=0) rfl 1 rfl rfl ⟨fix_OL nd (j:=0) rfl,trivial⟩ ⟨⟨_,rfl,fix_OL nd (j:=0) rfl,rfl⟩,trivial⟩ fun nd=>?_
   refine TK.ret ?_
   try dsimp only[thenQ]
   exact R1 rfl hX
  refine TK.iter [1,3,4] (fun s env h=>match s with|(l31,i32)=>∃b30 b29,env=[(1,true,.vref (ofL [Enc.v s1.Number,Enc.v s1.Index,Enc.v s1.Data,Enc.v s1.Parity,Enc.v s1.Labels]) 5 0),(3,true,.ref b29 0 1),(4,true,Enc.v i32)]∧Nd [(b30,RL (α:=UInt8) 5 l31),(b29,RV 102 [OL b30 l31])]∧HSub [(b30,RL (α:=UInt8) 5 l31),(b29,RV 102 [OL b30 l31])] h) hO28 ⟨b25,b8,rfl,(Nd.pick nd (is:=[1,0]) Dc),(HSub.pick nd (is:=[1,0]) Dc)⟩ ?_
  rintro ⟨l31,i32⟩ env h x28x ⟨b30,b29,rfl,nd,hs⟩ hX hR28
  refine TK.subH hs ?_
  unfold X.cartridgeref10_SealBytes_s28 at hX
  try dsimp only at hX
  refine TK.seq_k fun K37 hK37=>?_
  refine SR fun K38 hK38=>M rfl rfl (P1 (p_faR fs50_4 Dc rfl) rfl rfl (P1 (p_ldR (v:=Enc.v s1.Labels) ty47 rfl rfl rfl rfl rfl rfl) rfl rfl (P1 (p_lenL (xs:=s1.Labels) kd47 rfl) rfl rfl (P1 (p_lss rfl rfl) rfl rfl (TL.nil (hK38 _ _ ?_))))))
  refine TK.cond (b:=(decide (i32<(s1.Labels.length:Int)))) rfl (fun hc=>?_) (fun hc=>?_)
  ·have hX:=ite_t hc hX
   refine TK.skip ?_
   refine hK37 _ _ ?_
   refine TK.seq_k fun K39 hK39=>?_
   refine TK.block ?_
   refine TK.reg ?_
   refine M rfl rfl (P1 (p_faR fs50_4 Dc rfl) rfl rfl (P1 (p_ldR (v:=Enc.v s1.Labels) ty47 rfl rfl rfl rfl rfl rfl) rfl rfl (M rfl rfl ?_)))
   obtain ⟨e40,he40,hX⟩:=bind_some hX
   refine P1 (p_iaL (xs:=s1.Labels) kd47 ty3 rfl rfl rfl (fun _=>he40)) rfl rfl (P1 (p_ldE (xs:=s1.Labels) (a:=e40) (e40:Int) ty3 rfl rfl (fun _=>he40) rfl rfl rfl) rfl rfl ?_)
   obtain ⟨r41,hr41,hX⟩:=bind_some hX
   refine TL.pick [1,0] nd Dc fun nd=>?_
   refine TL.tcX [(b29,RV 102 [OL b30 l31]),(b30,RL (α:=UInt8) 5 l31)] [] rfl nd (dlt rfl) rfl ⟨rfl,⟨rfl,⟨rfl,trivial⟩⟩⟩ (ok_cartridgeref1_Writer_Int e40 l31 b29 b30 (Nd.take nd 2 rfl) _ hr41) ?_
   rintro _ _ hQ nd
   obtain ⟨b43,rfl,rfl⟩:=hQ
   refine TL.nil (hK39 _ _ ?_)
   refine TK.reg ?_
   refine M rfl rfl (P1 (p_add rfl rfl) rfl rfl (M rfl rfl (TL.nil ?_)))
   exact ⟨_,(some_in hX).symm,b43,b29,rfl,(Nd.pick nd (is:=[1,0]) Dc),(HSub.pick nd (is:=[1,0]) Dc)⟩
  ·have hX:=ite_f hc hX
   refine TK.exit ?_
   obtain rfl:=hR28 _ (some_in hX).symm
   exact E28 l31 _ _ ⟨b30,b29,rfl,(Nd.pick nd (is:=[0,1]) Dc),(HSub.pick nd (is:=[0,1]) Dc)⟩ hA28
theorem ok_cartridgeref10_Make_kp0 (blank3:(List Tape_api)) (number4:Int) (data1:(List Tape_api)) (b2:Nat) (nd:Nd [(b2,RL (α:=Tape_api) 54 data1)]) (r:((List Tape_api)×Int)) (hX:X.cartridgeref10_Make_kp0 blank3 number4 data1=some r):TCX Try.prog 52 [OL (α:=Tape_api) b2 data1,Enc.v (blank3:(List Tape_api)),Enc.v (number4:Int)] [(b2,RL (α:=Tape_api) 54 data1)] (fun rv h'=>rv= .tup 2 (ofL [Enc.v (r.1:(List Tape_api)),Enc.v (r.2:Int)])∧h'=[(b2,RL (α:=Tape_api) 54 data1)]):=by
 refine TCX.of b52 (Nat.le_of_ble_eq_true rfl) ?_
 unfold k52
 unfold X.cartridgeref10_Make_kp0 at hX
 refine SR fun K5 hK5=>M rfl rfl (M rfl rfl (TL.nil (hK5 _ _ (SR fun K6 hK6=>M rfl rfl (M rfl rfl (P1 (p_lenR kd48 rfl (fun _=>refOK_of nd (j:=0) rfl rfl)) rfl rfl (M rfl rfl (P1 (p_lenL (xs:=blank3) kd48 rfl) rfl rfl ?_))))))))
 refine P1 (p_bld (l:=[Enc.v number4,Enc.v ((0:Int):Int),Enc.v ((data1.length:Int):Int),Enc.v ((blank3.length:Int):Int),.nils]) ty50 rfl all50 rfl (fun _=>⟨⟨rfl,trivial,rfl⟩,⟨rfl,trivial,rfl⟩,⟨rfl,trivial,rfl⟩,trivial⟩)) rfl rfl ?_
 refine TLc.alO (l:=[Enc.v ((0:Int):Int),Enc.v ((0:Int):Int),Enc.v ((0:Int):Int),Enc.v ((0:Int):Int),.nils]) nd ty50 ti50_z rfl rfl fun b7 nd=>?_
 refine TLc.stV (lu:=[Enc.v number4,Enc.v ((0:Int):Int),Enc.v ((data1.length:Int):Int),Enc.v ((blank3.length:Int):Int),.nils]) nd ty50 rfl (j:=0) rfl rfl rfl (Cells_agg rfl (allA.mem ⟨trivial,trivial,trivial,trivial,trivial,trivial⟩)) rfl rfl [Enc.v number4,Enc.v ((0:Int):Int),Enc.v ((data1.length:Int):Int),Enc.v ((blank3.length:Int):Int),.nils] rfl fun nd=>?_
 refine TL.nil (hK6 _ _ ?_)
 refine TK.ownC (α:=Int) nd (j:=0) rfl 4 3 (.inl rfl) fun b8 nd=>?_
 refine SR fun K9 hK9=>M rfl rfl (TL.nil (hK9 _ _ (SR fun K10 hK10=>M rfl rfl ?_)))
 obtain ⟨r11,hr11,hX⟩:=bind_some hX
 refine TL.lookX [L data1] rfl rfl rfl (fun _=>⟨rfl,⟨rfl,trivial⟩⟩) ⟨look_OL nd (j:=2) rfl,trivial⟩ (fun e=>ok_cartridgeref10_StripeLen data1 _ hr11) (trivial) ?_
 refine P1 (p_eql rfl rfl) rfl rfl (M rfl rfl (TL.nil (hK10 _ _ ?_)))
 refine TK.seq_k fun K12 hK12=>?_
 refine SR fun K13 hK13=>M rfl rfl (TL.nil (hK13 _ _ ?_))
 refine TK.block ?_
 obtain ⟨o14,hO14,hA14⟩:=bind_some hX
 have E14:∀(c28:Int) (c29:Int) (c30:Int) (c31:Int) (l33:List Int) (lost34:Bool) (bad35:Bool) (env:Env) (h:Hp),(∃b32 b27,keepE [0,1,8,9,10] env=[(0,true,OL b2 data1),(1,true,Enc.v blank3),(8,true,.ref b27 0 5),(9,true,Enc.v lost34),(10,true,Enc.v bad35)]∧Nd [(b2,RL (α:=Tape_api) 54 data1),(b32,RL (α:=Int) 3 l33),(b27,RV 50 [Enc.v c28,Enc.v c29,Enc.v c30,Enc.v c31,OL b32 l33])]∧HSub [(b2,RL (α:=Tape_api) 54 data1),(b32,RL (α:=Int) 3 l33),(b27,RV 50 [Enc.v c28,Enc.v c29,Enc.v c30,Enc.v c31,OL b32 l33])] h)→X.cartridgeref10_Make_kp0_e14 blank3 data1 c28 c29 c30 c31 l33 lost34 bad35=some r→K12 env h:=by
  intro c28 c29 c30 c31 l33 lost34 bad35 env h hE hX
  obtain ⟨b32,b27,henv,nd,hs⟩:=hE
  unfold X.cartridgeref10_Make_kp0_e14 at hX
  refine hK12 _ _ (TK.keep [0,1,8,9,10] ?_)
  rw[henv]
  refine TK.subH hs ?_
  refine TK.seq_k fun K36 hK36=>?_
  refine SR fun K37 hK37=>M rfl rfl (TL.nil (hK37 _ _ ?_))
  refine TK.block ?_
  obtain ⟨o38,hO38,hA38⟩:=bind_some hX
  have E38:∀(c51:Int) (c52:Int) (c53:Int) (c54:Int) (l56:List Int) (lost57:Bool) (env:Env) (h:Hp),(∃b55 b50,keepE [0,1,8,9,10] env=[(0,true,OL b2 data1),(1,true,Enc.v blank3),(8,true,.ref b50 0 5),(9,true,Enc.v lost57),(10,true,Enc.v bad35)]∧Nd [(b2,RL (α:=Tape_api) 54 data1),(b55,RL (α:=Int) 3 l56),(b50,RV 50 [Enc.v c51,Enc.v c52,Enc.v c53,Enc.v c54,OL b55 l56])]∧HSub [(b2,RL (α:=Tape_api) 54 data1),(b55,RL (α:=Int) 3 l56),(b50,RV 50 [Enc.v c51,Enc.v c52,Enc.v c53,Enc.v c54,OL b55 l56])] h)→X.cartridgeref10_Make_kp0_e38 bad35 blank3 data1 c51 c52 c53 c54 l56 lost57=some r→K36 env h:=by
   intro c51 c52 c53 c54 l56 lost57 env h hE hX
   obtain ⟨b55,b50,henv,nd,hs⟩:=hE
   unfold X.cartridgeref10_Make_kp0_e38 at hX
   refine hK36 _ _ (TK.keep [0,1,8,9,10] ?_)
   rw[henv]
   refine TK.subH hs ?_
   refine TK.seq_k fun K58 hK58=>?_
   refine SR fun K59 hK59=>?_
   refine TL.layR (l2':=[Enc.v c51,Enc.v c52,Enc.v c53,Enc.v c54,Enc.v l56]) [] nd (j:=1) rfl 2 rfl rfl ⟨fix_id _,fix_id _,fix_id _,fix_id _,fix_OL nd (j:=1) rfl,trivial⟩ trivial fun nd=>?_
   refine P1 (p_ldVa (l':=Enc.cl ((Seal_api.mk c51 c52 c53 c54 l56):Seal_api)) ty50 rfl rfl nd (j:=1) rfl rfl rfl rfl (Nat.le_of_ble_eq_true rfl)) rfl rfl ?_
   obtain ⟨r60,hr60,hX⟩:=bind_some hX
   refine TL.cvX rfl rfl rfl (fun _=>⟨rfl,⟨rfl,trivial⟩⟩) (fun e=>ok_cartridgeref10_RightSeal (Seal_api.mk c51 c52 c53 c54 l56) _ hr60) ?_
   refine P1 (p_not rfl) rfl rfl (M rfl rfl ?_)
   refine TLc.p (gc:=(!((!r60)))) (p_mv rfl (hg:=fun e=>rfl)) (gcF1 rfl) rfl ?_
   refine P1 (p_or rfl rfl (fun e=>⟨rfl,fun h=>(not_t h)⟩)) rfl rfl (M rfl rfl ?_)
   refine TLc.p (gc:=(!(((!r60)||lost57)))) (p_mv rfl (hg:=fun e=>rfl)) (gcF1 rfl) rfl ?_
   refine P1 (p_or rfl rfl (fun e=>⟨rfl,fun h=>(not_t h)⟩)) rfl rfl (TL.nil (hK59 _ _ ?_))
   refine TK.cond (b:=(((!r60)||lost57)||bad35)) rfl (fun hc=>?_) (fun hc=>?_)
   ·have hX:=ite_t hc hX
    refine SR fun K61 hK61=>M rfl rfl (M rfl rfl (TL.nil (hK61 _ _ ?_)))
    refine TK.wk 6 (L ([]:(List Tape_api))) rfl Wk_nil ?_
    refine TK.pick [0] nd Dc fun nd=>?_
    refine TK.ret ?_
    try dsimp only[thenQ]
    exact retX (v:= .tup 2 (ofL [Enc.v (([]:(List Tape_api)):(List Tape_api)),Enc.v ((1:Int):Int)])) (resN (vs:=[Enc.v (([]:(List Tape_api)):(List Tape_api)),Enc.v ((1:Int):Int)]) ⟨rfl,rfl,trivial⟩) (by obtain rfl:=some_in hX;exact ⟨rfl,rfl⟩) nd (inH_tup (l:=[Enc.v (([]:(List Tape_api)):(List Tape_api)),Enc.v ((1:Int):Int)]) ⟨inH_val (v_val _),inH_val (v_val _),trivial⟩) ⟨rowIn_RL,trivial⟩
   ·have hX:=ite_f hc hX
    refine TK.skip ?_
    refine hK58 _ _ ?_
    refine TK.seq_k fun K62 hK62=>?_
    refine SR fun K63 hK63=>M rfl rfl (TL.nil (hK63 _ _ ?_))
    refine TK.block ?_
    obtain ⟨o64,hO64,hA64⟩:=bind_some hX
    have E64:∀(env:Env) (h:Hp),(∃b69,keepE [0,1,8] env=[(0,true,OL b2 data1),(1,true,Enc.v blank3),(8,true,.ref b69 0 5)]∧Nd [(b2,RL (α:=Tape_api) 54 data1),(b69,RV 50 [Enc.v c51,Enc.v c52,Enc.v c53,Enc.v c54,Enc.v l56])]∧HSub [(b2,RL (α:=Tape_api) 54 data1),(b69,RV 50 [Enc.v c51,Enc.v c52,Enc.v c53,Enc.v c54,Enc.v l56])] h)→X.cartridgeref10_Make_kp0_e64 blank3 data1 c51 c52 c53 c54 l56=some r→K62 env h:=by
     intro env h hE hX
     obtain ⟨b69,henv,nd,hs⟩:=hE
     unfold X.cartridgeref10_Make_kp0_e64 at hX
     refine hK62 _ _ (TK.keep [0,1,8] ?_)
     rw[henv]
     refine TK.subH hs ?_
     refine TK.seq_k fun K70 hK70=>?_
     refine SR fun K71 hK71=>M rfl rfl (TL.nil (hK71 _ _ ?_))
     refine TK.block ?_
     obtain ⟨o72,hO72,hA72⟩:=bind_some hX
     have E72:∀(env:Env) (h:Hp),(∃b77,keepE [0,1,8] env=[(0,true,OL b2 data1),(1,true,Enc.v blank3),(8,true,.ref b77 0 5)]∧Nd [(b2,RL (α:=Tape_api) 54 data1),(b77,RV 50 [Enc.v c51,Enc.v c52,Enc.v c53,Enc.v c54,Enc.v l56])]∧HSub [(b2,RL (α:=Tape_api) 54 data1),(b77,RV 50 [Enc.v c51,Enc.v c52,Enc.v c53,Enc.v c54,Enc.v l56])] h)→X.cartridgeref10_Make_kp0_e72 blank3 data1 c51 c52 c53 c54 l56=some r→K70 env h:=by
      intro env h hE hX
      obtain ⟨b77,henv,nd,hs⟩:=hE
      unfold X.cartridgeref10_Make_kp0_e72 at hX
      refine hK70 _ _ (TK.keep [0,1,8] ?_)
      rw[henv]
      refine TK.subH hs ?_
      refine SR fun K78 hK78=>M rfl rfl (M rfl rfl (P1 (p_lenL (xs:=blank3) kd48 rfl) rfl rfl ?_))
      obtain ⟨r79,hr79,hX⟩:=bind_some hX
      refine TL.tcX [(b2,RL (α:=Tape_api) 54 data1)] [(b77,RV 50 [Enc.v c51,Enc.v c52,Enc.v c53,Enc.v c54,Enc.v l56])] rfl nd (dlt rfl) rfl ⟨rfl,⟨rfl,⟨rfl,trivial⟩⟩⟩ (ok_cartridgeref10_Parity_kp0 (blank3.length:Int) data1 b2 (Nd.take nd 1 rfl) _ hr79) ?_
      rintro _ _ hQ nd
      obtain ⟨rfl,rfl⟩:=hQ
      refine M rfl rfl (P1 (p_ex rfl rfl Dc) rfl rfl (P1 (p_ex rfl rfl Dc) rfl rfl (M rfl rfl (M rfl rfl (TL.nil (hK78 _ _ ?_))))))
      refine TK.seq_k fun K80 hK80=>?_
      refine SR fun K81 hK81=>M rfl rfl (P1 (p_neq rfl rfl) rfl rfl (TL.nil (hK81 _ _ ?_)))
      refine TK.cond (b:=(r79.2 !=(0:Int))) rfl (fun hc=>?_) (fun hc=>?_)
      ·have hX:=ite_t hc hX
       refine SR fun K82 hK82=>M rfl rfl (M rfl rfl (M rfl rfl (TL.nil (hK82 _ _ ?_))))
       refine TK.wk 6 (L ([]:(List Tape_api))) rfl Wk_nil ?_
       refine TK.pick [0] nd Dc fun nd=>?_
       refine TK.ret ?_
       try dsimp only[thenQ]
       exact retX (v:= .tup 2 (ofL [Enc.v (([]:(List Tape_api)):(List Tape_api)),Enc.v r79.2])) (resN (vs:=[Enc.v (([]:(List Tape_api)):(List Tape_api)),Enc.v r79.2]) ⟨rfl,rfl,trivial⟩) (by obtain rfl:=some_in hX;exact ⟨rfl,rfl⟩) nd (inH_tup (l:=[Enc.v (([]:(List Tape_api)):(List Tape_api)),Enc.v r79.2]) ⟨inH_val (v_val _),inH_val (v_val _),trivial⟩) ⟨rowIn_RL,trivial⟩
      ·have hX:=ite_f hc hX
       refine TK.skip ?_
       refine hK80 _ _ (SR fun K83 hK83=>M rfl rfl (TL.nil (hK83 _ _ ?_)))
       refine TK.ownL (α:=Tape_api) 20 54 nd rfl (.inl rfl) fun b84 nd=>?_
       refine TK.seq_k fun K85 hK85=>?_
       refine SR fun K86 hK86=>M rfl rfl (TL.nil (hK86 _ _ ?_))
       refine TK.block ?_
       obtain ⟨o87,hO87,hA87⟩:=bind_some hX
       have E87:∀(l100:List Tape_api) (env:Env) (h:Hp),(∃b99,keepE [0,20] env=[(0,true,OL b2 data1),(20,true,OL b99 l100)]∧Nd [(b2,RL (α:=Tape_api) 54 data1),(b99,RL (α:=Tape_api) 54 l100)]∧HSub [(b2,RL (α:=Tape_api) 54 data1),(b99,RL (α:=Tape_api) 54 l100)] h)→X.cartridgeref10_Make_kp0_e87 l100=some r→K85 env h:=by
        intro l100 env h hE hX
        obtain ⟨b99,henv,nd,hs⟩:=hE
        unfold X.cartridgeref10_Make_kp0_e87 at hX
        refine hK85 _ _ (TK.keep [0,20] ?_)
        rw[henv]
        refine TK.subH hs ?_
        refine SR fun K101 hK101=>M rfl rfl (M rfl rfl (M rfl rfl (TL.nil (hK101 _ _ ?_))))
        refine TK.lay [(6,L l100)] nd (j:=1) rfl ⟨⟨_,rfl,fix_OL nd (j:=1) rfl,rfl⟩,trivial⟩ fun nd=>?_
        refine TK.ret ?_
        try dsimp only[thenQ]
        exact retX (v:= .tup 2 (ofL [Enc.v l100,Enc.v ((0:Int):Int)])) (resN (vs:=[Enc.v l100,Enc.v ((0:Int):Int)]) ⟨rfl,rfl,trivial⟩) (by obtain rfl:=some_in hX;exact ⟨rfl,rfl⟩) nd (inH_tup (l:=[Enc.v l100,Enc.v ((0:Int):Int)]) ⟨inH_val (v_val _),inH_val (v_val _),trivial⟩) ⟨rowIn_RL,trivial⟩
       refine TK.iter [0,1,8,18,20,21] (fun s env h=>match s with|(c90,c91,c92,c93,c94,out96,i97)=>∃b89 b95,env=[(0,true,OL b2 data1),(1,true,Enc.v blank3),(8,true,.ref b89 0 5),(18,true,Enc.v (r79.1:(List (List (List UInt8))))),(20,true,OL b95 out96),(21,true,Enc.v i97)]∧Nd [(b2,RL (α:=Tape_api) 54 data1),(b89,RV 50 [Enc.v c90,Enc.v c91,Enc.v c92,Enc.v c93,Enc.v c94]),(b95,RL (α:=Tape_api) 54 out96)]∧HSub [(b2,RL (α:=Tape_api) 54 data1),(b89,RV 50 [Enc.v c90,Enc.v c91,Enc.v c92,Enc.v c93,Enc.v c94]),(b95,RL (α:=Tape_api) 54 out96)] h) hO87 ⟨b77,b84,rfl,(Nd.pick nd (is:=[1,2,0]) Dc),(HSub.pick nd (is:=[1,2,0]) Dc)⟩ ?_
       rintro ⟨c90,c91,c92,c93,c94,out96,i97⟩ env h x87x ⟨b89,b95,rfl,nd,hs⟩ hX hR87
       refine TK.subH hs ?_
       unfold X.cartridgeref10_Make_kp0_s87 at hX
       try dsimp only at hX
       refine TK.seq_k fun K102 hK102=>?_
       refine SR fun K103 hK103=>M rfl rfl (M rfl rfl (P1 (p_lenL (xs:=blank3) kd48 rfl) rfl rfl (P1 (p_lss rfl rfl) rfl rfl (TL.nil (hK103 _ _ ?_)))))
       refine TK.cond (b:=(decide (i97<(blank3.length:Int)))) rfl (fun hc=>?_) (fun hc=>?_)
       ·have hX:=ite_t hc hX
        refine TK.skip ?_
        refine hK102 _ _ ?_
        refine TK.seq_k fun K104 hK104=>?_
        refine TK.block ?_
        refine TK.seq_k fun K105 hK105=>?_
        have ndS:Nd [(b2,RL (α:=Tape_api) 54 data1),(b89,RV 50 [Enc.v c90,Enc.v c91,Enc.v c92,Enc.v c93,Enc.v c94]),(b95,RL (α:=Tape_api) 54 out96)]:=Nd.pick nd (is:=[0,1,2]) Dc
        refine TK.drwX (h:=[]) (hS:=[(b2,RL (α:=Tape_api) 54 data1),(b89,RV 50 [Enc.v c90,Enc.v c91,Enc.v c92,Enc.v c93,Enc.v c94]),(b95,RL (α:=Tape_api) 54 out96)]) [(0,0),(0,1),(0,2),(0,3),(0,4),(0,5),(0,6),(0,7),(0,8),(0,9),(0,10),(2,11),(2,12)] mixed (by kernel_rfl) (HSub_app nd) ?_
        refine DM rfl rfl rfl ?_
        refine DM rfl rfl rfl ?_
        obtain ⟨e106,he106,hX⟩:=bind_some hX
        refine D0 rfl (p_iaL (xs:=blank3) kd48 ty54 rfl rfl rfl (fun _=>he106)) rfl rfl ?_
        refine D0 rfl (p_faE fs54_0 Dc rfl) rfl rfl ?_
        refine D0 rfl (p_ldE (xs:=blank3) (a:=e106) (e106.Label:Int) ty3 rfl rfl (fun _=>he106) rfl rfl rfl) rfl rfl ?_
        refine DM rfl rfl rfl ?_
        refine DM rfl rfl rfl ?_
        obtain ⟨e107,he107,hX⟩:=bind_some hX
        refine D0 rfl (p_iaL (xs:=blank3) kd48 ty54 rfl rfl rfl (fun _=>he107)) rfl rfl ?_
        refine D0 rfl (p_faE fs54_1 Dc rfl) rfl rfl ?_
        refine D0 rfl (p_ldE (xs:=blank3) (a:=e107) (e107.Cap:Int) ty3 rfl rfl (fun _=>he107) rfl rfl rfl) rfl rfl ?_
        refine D0 rfl (p_bld (l:=[Enc.v e106.Label,Enc.v e107.Cap,.nils,Enc.v false]) ty54 rfl all54 rfl (fun _=>⟨⟨rfl,trivial,rfl⟩,⟨rfl,trivial,rfl⟩,trivial⟩)) rfl rfl ?_
        refine DR2 rfl rfl ?_
        refine TLc.alO (l:=[Enc.v ((0:Int):Int),Enc.v ((0:Int):Int),.nils,Enc.v false]) nd ty54 ti54_z rfl rfl fun b108 nd=>?_
        refine TL.nil ⟨_,[(b108,RV 54 [Enc.v ((0:Int):Int),Enc.v ((0:Int):Int),.nils,Enc.v false])],rfl,rfl,HSub_app nd,?_⟩
        refine DR2n rfl ?_
        refine TLc.stV (lu:=[Enc.v e106.Label,Enc.v e107.Cap,.nils,Enc.v false]) nd ty54 rfl (j:=0) rfl rfl rfl (Cells_agg rfl (allA.mem ⟨trivial,trivial,trivial,trivial,trivial⟩)) rfl rfl [Enc.v e106.Label,Enc.v e107.Cap,.nils,Enc.v false] rfl fun nd=>?_
        refine TL.nil ⟨.nilp,[(b108,RV 54 [Enc.v e106.Label,Enc.v e107.Cap,.nils,Enc.v false])],rfl,rfl,HSub_app nd,?_⟩
        refine DRend ?_
        refine hK105 _ _ ?_
        refine TK.ownC (α:=(List UInt8)) nd (j:=0) rfl 2 25 (.inl rfl) fun b109 nd=>?_
        refine TK.seq_k fun K110 hK110=>?_
        have ndS:Nd [(b108,RV 54 [Enc.v e106.Label,Enc.v e107.Cap,OL (α:=(List UInt8)) b109 ([]:List (List UInt8)),Enc.v false]),(b2,RL (α:=Tape_api) 54 data1),(b89,RV 50 [Enc.v c90,Enc.v c91,Enc.v c92,Enc.v c93,Enc.v c94]),(b95,RL (α:=Tape_api) 54 out96)]:=Nd.pick nd (is:=[1,2,3,4]) Dc
        refine TK.drwX (h:=[(b109,RL (α:=(List UInt8)) 25 ([]:List (List UInt8)))]) (hS:=[(b108,RV 54 [Enc.v e106.Label,Enc.v e107.Cap,OL (α:=(List UInt8)) b109 ([]:List (List UInt8)),Enc.v false]),(b2,RL (α:=Tape_api) 54 data1),(b89,RV 50 [Enc.v c90,Enc.v c91,Enc.v c92,Enc.v c93,Enc.v c94]),(b95,RL (α:=Tape_api) 54 out96)]) [(0,0),(0,1),(0,2),(0,3),(2,4),(2,5),(0,6),(0,7),(2,8),(0,9),(3,10)] mixed (by kernel_rfl) (HSub_app nd) ?_
        refine D0 rfl (p_faV fs54_2 Dc rfl ndS (j:=0) rfl rfl) rfl rfl ?_
        refine D0 rfl (p_ldV (v:=OL (α:=(List UInt8)) b109 ([]:List (List UInt8))) ty22 rfl rfl ndS (j:=0) rfl rfl rfl rfl rfl) rfl rfl ?_
        refine D0 rfl (p_faV fs54_0 Dc rfl ndS (j:=0) rfl rfl) rfl rfl ?_
        refine D0 rfl (p_ldV (v:=Enc.v e106.Label) ty3 rfl rfl ndS (j:=0) rfl rfl rfl rfl rfl) rfl rfl ?_
        refine DR2 rfl rfl ?_
        refine TLc.litO nd ([(80:UInt8)]:List UInt8) kd25 ty5 rfl ⟨⟨rfl,rfl⟩,trivial⟩ rfl rfl rfl fun b111 nd=>?_
        refine TL.nil ⟨_,[(b111,RL (α:=UInt8) 5 ([(80:UInt8)]:List UInt8)),(b109,RL (α:=(List UInt8)) 25 ([]:List (List UInt8)))],rfl,rfl,HSub_app nd,?_⟩
        refine DR2 rfl rfl ?_
        refine TLc.cvtF (xs:=([(80:UInt8)]:List UInt8)) nd kd25 kd5 rfl (j:=0) rfl (by simp) rfl fun nd=>?_
        refine TL.nil ⟨_,[(b109,RL (α:=(List UInt8)) 25 ([]:List (List UInt8)))],rfl,rfl,HSub_app nd,?_⟩
        obtain ⟨r112,hr112,hX⟩:=bind_some hX
        refine DR0 (gc:=true) rfl (vok_c rfl (fun _=>⟨rfl,⟨rfl,⟨rfl,⟨rfl,⟨rfl,trivial⟩⟩⟩⟩⟩) (fun e=>ok_cartridgeref10_frame (1:Int) e106.Label (0:Int) ([(80:UInt8)]:List UInt8) _ hr112)) rfl rfl ?_
        refine DR0 (gc:=true) rfl (vok_lit (C:=cx) ([r112]:List (List UInt8)) kd22 ty25 rfl ⟨⟨rfl,rfl⟩,trivial⟩ rfl rfl) rfl rfl ?_
        obtain ⟨u113,hu113,hX⟩:=bind_some hX
        refine DR2 rfl rfl ?_
        refine TLc.appO nd kd22 bo22 ty25 rfl rfl (j:=0) rfl rfl (Src_L _) Dc (need_t hu113) rfl fun nd=>?_
        refine TL.nil ⟨_,[(b109,RL (α:=(List UInt8)) 25 (([]:List (List UInt8))++([r112]:List (List UInt8))))],rfl,rfl,HSub_app nd,?_⟩
        refine D0 rfl (p_faV fs54_2 Dc rfl ndS (j:=0) rfl rfl) rfl rfl ?_
        refine DR3n rfl ?_
        refine TLc.stV (lu:=[OL (α:=(List UInt8)) b109 (([]:List (List UInt8))++([r112]:List (List UInt8)))]) nd ty22 rfl (j:=1) rfl rfl rfl (Cells_rs (refOK_of nd (j:=0) rfl rfl)) rfl rfl [Enc.v e106.Label,Enc.v e107.Cap,OL (α:=(List UInt8)) b109 (([]:List (List UInt8))++([r112]:List (List UInt8))),Enc.v false] rfl fun nd=>?_
        refine TL.nil ⟨rfl,?_⟩
        refine DRende ?_
        refine hK110 _ _ ?_
        refine TK.seq_k fun K114 hK114=>?_
        refine SR fun K115 hK115=>M rfl rfl (TL.nil (hK115 _ _ ?_))
        refine TK.block ?_
        obtain ⟨o116,hO116,hA116⟩:=bind_some hX
        have E116:∀(c131:Int) (c132:Int) (l134:List (List UInt8)) (c135:Bool) (env:Env) (h:Hp),(∃b128 b129 b133 b130,keepE [0,1,8,18,20,21,22] env=[(0,true,OL b2 data1),(1,true,Enc.v blank3),(8,true,.ref b128 0 5),(18,true,Enc.v (r79.1:(List (List (List UInt8))))),(20,true,OL b129 out96),(21,true,Enc.v i97),(22,true,.ref b130 0 4)]∧Nd [(b2,RL (α:=Tape_api) 54 data1),(b128,RV 50 [Enc.v c90,Enc.v c91,Enc.v c92,Enc.v c93,Enc.v c94]),(b129,RL (α:=Tape_api) 54 out96),(b133,RL (α:=(List UInt8)) 25 l134),(b130,RV 54 [Enc.v c131,Enc.v c132,OL b133 l134,Enc.v c135])]∧HSub [(b2,RL (α:=Tape_api) 54 data1),(b128,RV 50 [Enc.v c90,Enc.v c91,Enc.v c92,Enc.v c93,Enc.v c94]),(b129,RL (α:=Tape_api) 54 out96),(b133,RL (α:=(List UInt8)) 25 l134),(b130,RV 54 [Enc.v c131,Enc.v c132,OL b133 l134,Enc.v c135])] h)→X.cartridgeref10_Make_kp0_e116 r79 i97 c90 data1 c92 c93 c94 out96 c131 c132 l134 c135=some x87x→K114 env h:=by
         intro c131 c132 l134 c135 env h hE hX
         obtain ⟨b128,b129,b133,b130,henv,nd,hs⟩:=hE
         unfold X.cartridgeref10_Make_kp0_e116 at hX
         refine hK114 _ _ (TK.keep [0,1,8,18,20,21,22] ?_)
         rw[henv]
         refine TK.subH hs ?_
         refine SR fun K136 hK136=>M rfl rfl (P1 (p_lenR kd48 rfl (fun _=>refOK_of nd (j:=0) rfl rfl)) rfl rfl (M rfl rfl (P1 (p_add rfl rfl) rfl rfl (P1 (p_faV fs50_1 Dc rfl nd (j:=1) rfl rfl) rfl rfl ?_))))
         refine TLc.stV (lu:=Enc.cl ((wr ((data1.length:Int)+i97)):Int)) nd ty3 rfl (j:=1) rfl rfl rfl (Cells_v ((wr ((data1.length:Int)+i97)):Int)) rfl rfl [Enc.v c90,Enc.v ((wr ((data1.length:Int)+i97)):Int),Enc.v c92,Enc.v c93,Enc.v c94] rfl fun nd=>?_
         refine TL.nil (hK136 _ _ ?_)
         refine TK.seq_k fun K137 hK137=>?_
         refine TK.pick [3,0,1,2,4] nd Dc fun nd=>?_
         have ndS:Nd [(b2,RL (α:=Tape_api) 54 data1),(b128,RV 50 [Enc.v c90,Enc.v ((wr ((data1.length:Int)+i97)):Int),Enc.v c92,Enc.v c93,Enc.v c94]),(b129,RL (α:=Tape_api) 54 out96),(b130,RV 54 [Enc.v c131,Enc.v c132,OL b133 l134,Enc.v c135])]:=Nd.pick nd (is:=[1,2,3,4]) Dc
         refine TK.drwX (h:=[(b133,RL (α:=(List UInt8)) 25 l134)]) (hS:=[(b2,RL (α:=Tape_api) 54 data1),(b128,RV 50 [Enc.v c90,Enc.v ((wr ((data1.length:Int)+i97)):Int),Enc.v c92,Enc.v c93,Enc.v c94]),(b129,RL (α:=Tape_api) 54 out96),(b130,RV 54 [Enc.v c131,Enc.v c132,OL b133 l134,Enc.v c135])]) [(0,0),(0,1),(0,2),(0,3),(0,4),(0,5),(0,6),(0,7),(0,8),(0,9),(0,10),(0,11),(0,12),(0,13),(2,14),(0,15),(3,16)] mixed (by kernel_rfl) (HSub_app nd) ?_
         refine D0 rfl (p_faV fs54_2 Dc rfl ndS (j:=3) rfl rfl) rfl rfl ?_
         refine D0 rfl (p_ldV (v:=OL b133 l134) ty22 rfl rfl ndS (j:=3) rfl rfl rfl rfl rfl) rfl rfl ?_
         refine D0 rfl (p_faV fs54_0 Dc rfl ndS (j:=3) rfl rfl) rfl rfl ?_
         refine D0 rfl (p_ldV (v:=Enc.v c131) ty3 rfl rfl ndS (j:=3) rfl rfl rfl rfl rfl) rfl rfl ?_
         refine DM rfl rfl rfl ?_
         refine DM rfl rfl rfl ?_
         obtain ⟨e138,he138,hX⟩:=bind_some hX
         refine D0 rfl (p_iaL (xs:=r79.1) kd111 ty22 rfl rfl rfl (fun _=>he138)) rfl rfl ?_
         refine D0 rfl (p_ldE (xs:=r79.1) (a:=e138) (e138:(List (List UInt8))) ty22 rfl rfl (fun _=>he138) rfl rfl rfl) rfl rfl ?_
         refine D0 rfl (p_lenL (xs:=e138) kd22 rfl) rfl rfl ?_
         refine D0 rfl (p_add rfl rfl) rfl rfl ?_
         refine D0 rfl (p_ldVa (l':=Enc.cl ((Seal_api.mk c90 (wr ((data1.length:Int)+i97)) c92 c93 c94):Seal_api)) ty50 rfl rfl ndS (j:=1) rfl rfl rfl rfl (Nat.le_of_ble_eq_true rfl)) rfl rfl ?_
         obtain ⟨r139,hr139,hX⟩:=bind_some hX
         refine DR0 (gc:=true) rfl (vok_c rfl (fun _=>⟨rfl,⟨rfl,trivial⟩⟩) (fun e=>ok_cartridgeref10_SealBytes (Seal_api.mk c90 (wr ((data1.length:Int)+i97)) c92 c93 c94) _ hr139)) rfl rfl ?_
         obtain ⟨r140,hr140,hX⟩:=bind_some hX
         refine DR0 (gc:=true) rfl (vok_c rfl (fun _=>⟨rfl,⟨rfl,⟨rfl,⟨rfl,⟨rfl,trivial⟩⟩⟩⟩⟩) (fun e=>ok_cartridgeref10_frame (5:Int) c131 (wr ((e138.length:Int)+(1:Int))) r139 _ hr140)) rfl rfl ?_
         refine DR0 (gc:=true) rfl (vok_lit (C:=cx) ([r140]:List (List UInt8)) kd22 ty25 rfl ⟨⟨rfl,rfl⟩,trivial⟩ rfl rfl) rfl rfl ?_
         obtain ⟨u141,hu141,hX⟩:=bind_some hX
         refine DR2 rfl rfl ?_
         refine TLc.appO nd kd22 bo22 ty25 rfl rfl (j:=0) rfl rfl (Src_L _) Dc (need_t hu141) rfl fun nd=>?_
         refine TL.nil ⟨_,[(b133,RL (α:=(List UInt8)) 25 (l134++([r140]:List (List UInt8))))],rfl,rfl,HSub_app nd,?_⟩
         refine D0 rfl (p_faV fs54_2 Dc rfl ndS (j:=3) rfl rfl) rfl rfl ?_
         refine DR3n rfl ?_
         refine TLc.stV (lu:=[OL (α:=(List UInt8)) b133 (l134++([r140]:List (List UInt8)))]) nd ty22 rfl (j:=4) rfl rfl rfl (Cells_rs (refOK_of nd (j:=0) rfl rfl)) rfl rfl [Enc.v c131,Enc.v c132,OL (α:=(List UInt8)) b133 (l134++([r140]:List (List UInt8))),Enc.v c135] rfl fun nd=>?_
         refine TL.nil ⟨rfl,?_⟩
         refine DRende ?_
         refine hK137 _ _ ?_
         refine TK.reg ?_
         refine M rfl rfl ?_
         refine TL.layR (l2':=[Enc.v c131,Enc.v c132,Enc.v ((l134++([r140]:List (List UInt8))):(List (List UInt8))),Enc.v c135]) [] nd (j:=0) rfl 4 rfl rfl ⟨fix_id _,fix_id _,fix_OL nd (j:=0) rfl,fix_id _,trivial⟩ trivial fun nd=>?_
         refine P1 (p_ldVa (l':=Enc.cl ((Tape_api.mk c131 c132 (l134++([r140]:List (List UInt8))) c135):Tape_api)) ty54 rfl rfl nd (j:=3) rfl rfl rfl rfl (Nat.le_of_ble_eq_true rfl)) rfl rfl ?_
         refine TLc.lit ([(Tape_api.mk c131 c132 (l134++([r140]:List (List UInt8))) c135)]:List Tape_api) kd48 ty54 rfl ⟨⟨rfl,rfl⟩,trivial⟩ rfl rfl rfl ?_
         obtain ⟨u142,hu142,hX⟩:=bind_some hX
         refine TLc.appO nd kd48 bo48 ty54 rfl rfl (j:=2) rfl rfl (Src_L _) Dc (need_t hu142) rfl fun nd=>?_
         refine M rfl rfl (TL.nil (hK104 _ _ ?_))
         refine TK.reg ?_
         refine M rfl rfl (P1 (p_add rfl rfl) rfl rfl (M rfl rfl (TL.nil ?_)))
         exact ⟨_,(some_in hX).symm,b128,b129,rfl,(Nd.pick nd (is:=[0,1,2]) Dc),(HSub.pick nd (is:=[0,1,2]) Dc)⟩
        refine TK.iter [0,1,8,18,20,21,22,23] (fun s env h=>match s with|(c121,c122,l124,c125,n126)=>∃b118 b119 b123 b120,env=[(0,true,OL b2 data1),(1,true,Enc.v blank3),(8,true,.ref b118 0 5),(18,true,Enc.v (r79.1:(List (List (List UInt8))))),(20,true,OL b119 out96),(21,true,Enc.v i97),(22,true,.ref b120 0 4),(23,true,Enc.v n126)]∧Nd [(b2,RL (α:=Tape_api) 54 data1),(b118,RV 50 [Enc.v c90,Enc.v c91,Enc.v c92,Enc.v c93,Enc.v c94]),(b119,RL (α:=Tape_api) 54 out96),(b123,RL (α:=(List UInt8)) 25 l124),(b120,RV 54 [Enc.v c121,Enc.v c122,OL b123 l124,Enc.v c125])]∧HSub [(b2,RL (α:=Tape_api) 54 data1),(b118,RV 50 [Enc.v c90,Enc.v c91,Enc.v c92,Enc.v c93,Enc.v c94]),(b119,RL (α:=Tape_api) 54 out96),(b123,RL (α:=(List UInt8)) 25 l124),(b120,RV 54 [Enc.v c121,Enc.v c122,OL b123 l124,Enc.v c125])] h) hO116 ⟨b89,b95,b109,b108,rfl,(Nd.pick nd (is:=[2,3,4,0,1]) Dc),(HSub.pick nd (is:=[2,3,4,0,1]) Dc)⟩ ?_
        rintro ⟨c121,c122,l124,c125,n126⟩ env h x116x ⟨b118,b119,b123,b120,rfl,nd,hs⟩ hX hR116
        refine TK.subH hs ?_
        unfold X.cartridgeref10_Make_kp0_s116 at hX
        try dsimp only at hX
        refine TK.seq_k fun K143 hK143=>?_
        refine SR fun K144 hK144=>M rfl rfl (M rfl rfl (M rfl rfl ?_))
        obtain ⟨e145,he145,hX⟩:=bind_some hX
        refine P1 (p_iaL (xs:=r79.1) kd111 ty22 rfl rfl rfl (fun _=>he145)) rfl rfl (P1 (p_ldE (xs:=r79.1) (a:=e145) (e145:(List (List UInt8))) ty22 rfl rfl (fun _=>he145) rfl rfl rfl) rfl rfl (P1 (p_lenL (xs:=e145) kd22 rfl) rfl rfl (P1 (p_lss rfl rfl) rfl rfl (TL.nil (hK144 _ _ ?_)))))
        refine TK.cond (b:=(decide (n126<(e145.length:Int)))) rfl (fun hc=>?_) (fun hc=>?_)
        ·have hX:=ite_t hc hX
         refine TK.skip ?_
         refine hK143 _ _ ?_
         refine TK.seq_k fun K146 hK146=>?_
         refine TK.block ?_
         refine TK.pick [3,0,1,2,4] nd Dc fun nd=>?_
         have ndS:Nd [(b2,RL (α:=Tape_api) 54 data1),(b118,RV 50 [Enc.v c90,Enc.v c91,Enc.v c92,Enc.v c93,Enc.v c94]),(b119,RL (α:=Tape_api) 54 out96),(b120,RV 54 [Enc.v c121,Enc.v c122,OL b123 l124,Enc.v c125])]:=Nd.pick nd (is:=[1,2,3,4]) Dc
         refine TK.drwX (h:=[(b123,RL (α:=(List UInt8)) 25 l124)]) (hS:=[(b2,RL (α:=Tape_api) 54 data1),(b118,RV 50 [Enc.v c90,Enc.v c91,Enc.v c92,Enc.v c93,Enc.v c94]),(b119,RL (α:=Tape_api) 54 out96),(b120,RV 54 [Enc.v c121,Enc.v c122,OL b123 l124,Enc.v c125])]) [(0,0),(0,1),(0,2),(0,3),(0,4),(0,5),(0,6),(0,7),(0,8),(0,9),(0,10),(0,11),(0,12),(0,13),(0,14),(2,15),(0,16),(3,17)] mixed (by kernel_rfl) (HSub_app nd) ?_
         refine D0 rfl (p_faV fs54_2 Dc rfl ndS (j:=3) rfl rfl) rfl rfl ?_
         refine D0 rfl (p_ldV (v:=OL b123 l124) ty22 rfl rfl ndS (j:=3) rfl rfl rfl rfl rfl) rfl rfl ?_
         refine D0 rfl (p_faV fs54_0 Dc rfl ndS (j:=3) rfl rfl) rfl rfl ?_
         refine D0 rfl (p_ldV (v:=Enc.v c121) ty3 rfl rfl ndS (j:=3) rfl rfl rfl rfl rfl) rfl rfl ?_
         refine DM rfl rfl rfl ?_
         refine D0 rfl (p_add rfl rfl) rfl rfl ?_
         refine DM rfl rfl rfl ?_
         refine DM rfl rfl rfl ?_
         obtain ⟨e147,he147,hX⟩:=bind_some hX
         refine D0 rfl (p_iaL (xs:=r79.1) kd111 ty22 rfl rfl rfl (fun _=>he147)) rfl rfl ?_
         refine D0 rfl (p_ldE (xs:=r79.1) (a:=e147) (e147:(List (List UInt8))) ty22 rfl rfl (fun _=>he147) rfl rfl rfl) rfl rfl ?_
         refine DM rfl rfl rfl ?_
         obtain ⟨e148,he148,hX⟩:=bind_some hX
         refine D0 rfl (p_iaL (xs:=e147) kd22 ty25 rfl rfl rfl (fun _=>he148)) rfl rfl ?_
         refine D0 rfl (p_ldE (xs:=e147) (a:=e148) (e148:(List UInt8)) ty25 rfl rfl (fun _=>he148) rfl rfl rfl) rfl rfl ?_
         obtain ⟨r149,hr149,hX⟩:=bind_some hX
         refine DR0 (gc:=true) rfl (vok_c rfl (fun _=>⟨rfl,⟨rfl,⟨rfl,⟨rfl,⟨rfl,trivial⟩⟩⟩⟩⟩) (fun e=>ok_cartridgeref10_frame (6:Int) c121 (wr (n126+(1:Int))) e148 _ hr149)) rfl rfl ?_
         refine DR0 (gc:=true) rfl (vok_lit (C:=cx) ([r149]:List (List UInt8)) kd22 ty25 rfl ⟨⟨rfl,rfl⟩,trivial⟩ rfl rfl) rfl rfl ?_
         obtain ⟨u150,hu150,hX⟩:=bind_some hX
         refine DR2 rfl rfl ?_
         refine TLc.appO nd kd22 bo22 ty25 rfl rfl (j:=0) rfl rfl (Src_L _) Dc (need_t hu150) rfl fun nd=>?_
         refine TL.nil ⟨_,[(b123,RL (α:=(List UInt8)) 25 (l124++([r149]:List (List UInt8))))],rfl,rfl,HSub_app nd,?_⟩
         refine D0 rfl (p_faV fs54_2 Dc rfl ndS (j:=3) rfl rfl) rfl rfl ?_
         refine DR3n rfl ?_
         refine TLc.stV (lu:=[OL (α:=(List UInt8)) b123 (l124++([r149]:List (List UInt8)))]) nd ty22 rfl (j:=4) rfl rfl rfl (Cells_rs (refOK_of nd (j:=0) rfl rfl)) rfl rfl [Enc.v c121,Enc.v c122,OL (α:=(List UInt8)) b123 (l124++([r149]:List (List UInt8))),Enc.v c125] rfl fun nd=>?_
         refine TL.nil ⟨rfl,?_⟩
         refine DRende ?_
         refine hK146 _ _ ?_
         refine TK.reg ?_
         refine M rfl rfl (P1 (p_add rfl rfl) rfl rfl (M rfl rfl (TL.nil ?_)))
         exact ⟨_,(some_in hX).symm,b118,b119,b123,b120,rfl,(Nd.pick nd (is:=[1,2,3,0,4]) Dc),(HSub.pick nd (is:=[1,2,3,0,4]) Dc)⟩
        ·have hX:=ite_f hc hX
         refine TK.exit ?_
         obtain rfl:=hR116 _ (some_in hX).symm
         exact E116 c121 c122 l124 c125 _ _ ⟨b118,b119,b123,b120,rfl,(Nd.pick nd (is:=[0,1,2,3,4]) Dc),(HSub.pick nd (is:=[0,1,2,3,4]) Dc)⟩ hA116
       ·have hX:=ite_f hc hX
        refine TK.exit ?_
        obtain rfl:=hR87 _ (some_in hX).symm
        exact E87 out96 _ _ ⟨b95,rfl,(Nd.pick nd (is:=[0,2]) Dc),(HSub.pick nd (is:=[0,2]) Dc)⟩ hA87
     refine TK.iter [0,1,8,17] (fun s env h=>match s with|i75=>∃b74,env=[(0,true,OL b2 data1),(1,true,Enc.v blank3),(8,true,.ref b74 0 5),(17,true,Enc.v i75)]∧Nd [(b2,RL (α:=Tape_api) 54 data1),(b74,RV 50 [Enc.v c51,Enc.v c52,Enc.v c53,Enc.v c54,Enc.v l56])]∧HSub [(b2,RL (α:=Tape_api) 54 data1),(b74,RV 50 [Enc.v c51,Enc.v c52,Enc.v c53,Enc.v c54,Enc.v l56])] h) hO72 ⟨b69,rfl,(Nd.pick nd (is:=[0,1]) Dc),(HSub.pick nd (is:=[0,1]) Dc)⟩ ?_
     rintro i75 env h x72x ⟨b74,rfl,nd,hs⟩ hX hR72
     refine TK.subH hs ?_
     unfold X.cartridgeref10_Make_kp0_s72 at hX
     try dsimp only at hX
     refine TK.seq_k fun K151 hK151=>?_
     refine SR fun K152 hK152=>M rfl rfl (M rfl rfl (P1 (p_lenL (xs:=blank3) kd48 rfl) rfl rfl (P1 (p_lss rfl rfl) rfl rfl (TL.nil (hK152 _ _ ?_)))))
     refine TK.cond (b:=(decide (i75<(blank3.length:Int)))) rfl (fun hc=>?_) (fun hc=>?_)
     ·have hX:=ite_t hc hX
      refine TK.skip ?_
      refine hK151 _ _ ?_
      refine TK.seq_k fun K153 hK153=>?_
      refine TK.block ?_
      refine TK.seq_k fun K154 hK154=>?_
      have ndS:Nd [(b2,RL (α:=Tape_api) 54 data1),(b74,RV 50 [Enc.v c51,Enc.v c52,Enc.v c53,Enc.v c54,Enc.v l56])]:=Nd.pick nd (is:=[0,1]) Dc
      refine TK.drwX (h:=[]) (hS:=[(b2,RL (α:=Tape_api) 54 data1),(b74,RV 50 [Enc.v c51,Enc.v c52,Enc.v c53,Enc.v c54,Enc.v l56])]) [(0,0),(0,1),(0,2),(0,3),(0,4),(0,5),(0,6),(0,7),(0,8)] mixed (by kernel_rfl) (HSub_app nd) ?_
      refine DM rfl rfl rfl ?_
      obtain ⟨r155,hr155,hX⟩:=bind_some hX
      refine DR0 (gc:=true) rfl (vok_lookX [L data1] rfl (fun _=>⟨rfl,⟨rfl,trivial⟩⟩) ⟨look_OL ndS (j:=0) rfl,trivial⟩ (fun e=>ok_cartridgeref10_StripeLen data1 _ hr155) (trivial)) rfl rfl ?_
      refine D0 rfl (p_add rfl rfl) rfl rfl ?_
      refine DM rfl rfl rfl ?_
      refine DM rfl rfl rfl ?_
      obtain ⟨e156,he156,hX⟩:=bind_some hX
      refine D0 rfl (p_iaL (xs:=blank3) kd48 ty54 rfl rfl rfl (fun _=>he156)) rfl rfl ?_
      refine D0 rfl (p_faE fs54_1 Dc rfl) rfl rfl ?_
      refine D0 rfl (p_ldE (xs:=blank3) (a:=e156) (e156.Cap:Int) ty3 rfl rfl (fun _=>he156) rfl rfl rfl) rfl rfl ?_
      refine D0 rfl (p_gtr rfl rfl) rfl rfl ?_
      refine DRend ?_
      refine hK154 _ _ ?_
      refine TK.cond (b:=(decide ((wr (r155+(2:Int)))>e156.Cap))) rfl (fun hc=>?_) (fun hc=>?_)
      ·have hX:=ite_t hc hX
       refine SR fun K157 hK157=>M rfl rfl (M rfl rfl (TL.nil (hK157 _ _ ?_)))
       refine TK.wk 6 (L ([]:(List Tape_api))) rfl Wk_nil ?_
       refine TK.pick [0] nd Dc fun nd=>?_
       refine TK.ret ?_
       obtain rfl:=hR72 _ (some_in hX).symm
       replace hX:=hA72
       try dsimp only[thenQ]
       exact retX (v:= .tup 2 (ofL [Enc.v (([]:(List Tape_api)):(List Tape_api)),Enc.v ((6:Int):Int)])) (resN (vs:=[Enc.v (([]:(List Tape_api)):(List Tape_api)),Enc.v ((6:Int):Int)]) ⟨rfl,rfl,trivial⟩) (by obtain rfl:=some_in hX;exact ⟨rfl,rfl⟩) nd (inH_tup (l:=[Enc.v (([]:(List Tape_api)):(List Tape_api)),Enc.v ((6:Int):Int)]) ⟨inH_val (v_val _),inH_val (v_val _),trivial⟩) ⟨rowIn_RL,trivial⟩
      ·have hX:=ite_f hc hX
       refine TK.skip ?_
       refine hK153 _ _ ?_
       refine TK.reg ?_
       refine M rfl rfl (P1 (p_add rfl rfl) rfl rfl (M rfl rfl (TL.nil ?_)))
       exact ⟨_,(some_in hX).symm,b74,rfl,(Nd.pick nd (is:=[0,1]) Dc),(HSub.pick nd (is:=[0,1]) Dc)⟩
     ·have hX:=ite_f hc hX
      refine TK.exit ?_
      obtain rfl:=hR72 _ (some_in hX).symm
      exact E72 _ _ ⟨b74,rfl,(Nd.pick nd (is:=[0,1]) Dc),(HSub.pick nd (is:=[0,1]) Dc)⟩ hA72
    refine TK.iter [0,1,8,16] (fun s env h=>match s with|i67=>∃b66,env=[(0,true,OL b2 data1),(1,true,Enc.v blank3),(8,true,.ref b66 0 5),(16,true,Enc.v i67)]∧Nd [(b2,RL (α:=Tape_api) 54 data1),(b66,RV 50 [Enc.v c51,Enc.v c52,Enc.v c53,Enc.v c54,Enc.v l56])]∧HSub [(b2,RL (α:=Tape_api) 54 data1),(b66,RV 50 [Enc.v c51,Enc.v c52,Enc.v c53,Enc.v c54,Enc.v l56])] h) hO64 ⟨b50,rfl,(Nd.pick nd (is:=[0,1]) Dc),(HSub.pick nd (is:=[0,1]) Dc)⟩ ?_
    rintro i67 env h x64x ⟨b66,rfl,nd,hs⟩ hX hR64
    refine TK.subH hs ?_
    unfold X.cartridgeref10_Make_kp0_s64 at hX
    try dsimp only at hX
    refine TK.seq_k fun K158 hK158=>?_
    refine SR fun K159 hK159=>M rfl rfl (M rfl rfl (P1 (p_lenL (xs:=blank3) kd48 rfl) rfl rfl (P1 (p_lss rfl rfl) rfl rfl (TL.nil (hK159 _ _ ?_)))))
    refine TK.cond (b:=(decide (i67<(blank3.length:Int)))) rfl (fun hc=>?_) (fun hc=>?_)
    ·have hX:=ite_t hc hX
     refine TK.skip ?_
     refine hK158 _ _ ?_
     refine TK.seq_k fun K160 hK160=>?_
     refine TK.block ?_
     refine SR fun K161 hK161=>M rfl rfl (M rfl rfl ?_)
     obtain ⟨e162,he162,hX⟩:=bind_some hX
     refine P1 (p_iaL (xs:=blank3) kd48 ty54 rfl rfl rfl (fun _=>he162)) rfl rfl (P1 (p_faE fs54_2 Dc rfl) rfl rfl (P1 (p_ldE (xs:=blank3) (a:=e162) (e162.Blocks:(List (List UInt8))) ty22 rfl rfl (fun _=>he162) rfl rfl rfl) rfl rfl (P1 (p_lenL (xs:=e162.Blocks) kd22 rfl) rfl rfl (P1 (p_gtr rfl rfl) rfl rfl (TL.nil (hK161 _ _ ?_))))))
     refine TK.cond (b:=(decide ((e162.Blocks.length:Int)>(0:Int)))) rfl (fun hc=>?_) (fun hc=>?_)
     ·have hX:=ite_t hc hX
      refine SR fun K163 hK163=>M rfl rfl (M rfl rfl (TL.nil (hK163 _ _ ?_)))
      refine TK.wk 6 (L ([]:(List Tape_api))) rfl Wk_nil ?_
      refine TK.pick [0] nd Dc fun nd=>?_
      refine TK.ret ?_
      obtain rfl:=hR64 _ (some_in hX).symm
      replace hX:=hA64
      try dsimp only[thenQ]
      exact retX (v:= .tup 2 (ofL [Enc.v (([]:(List Tape_api)):(List Tape_api)),Enc.v ((11:Int):Int)])) (resN (vs:=[Enc.v (([]:(List Tape_api)):(List Tape_api)),Enc.v ((11:Int):Int)]) ⟨rfl,rfl,trivial⟩) (by obtain rfl:=some_in hX;exact ⟨rfl,rfl⟩) nd (inH_tup (l:=[Enc.v (([]:(List Tape_api)):(List Tape_api)),Enc.v ((11:Int):Int)]) ⟨inH_val (v_val _),inH_val (v_val _),trivial⟩) ⟨rowIn_RL,trivial⟩
     ·have hX:=ite_f hc hX
      refine TK.skip ?_
      refine hK160 _ _ ?_
      refine TK.reg ?_
      refine M rfl rfl (P1 (p_add rfl rfl) rfl rfl (M rfl rfl (TL.nil ?_)))
      exact ⟨_,(some_in hX).symm,b66,rfl,(Nd.pick nd (is:=[0,1]) Dc),(HSub.pick nd (is:=[0,1]) Dc)⟩
    ·have hX:=ite_f hc hX
     refine TK.exit ?_
     obtain rfl:=hR64 _ (some_in hX).symm
     exact E64 _ _ ⟨b66,rfl,(Nd.pick nd (is:=[0,1]) Dc),(HSub.pick nd (is:=[0,1]) Dc)⟩ hA64
  refine TK.iter [0,1,8,9,10,15] (fun s env h=>match s with|(c41,c42,c43,c44,l46,lost47,i48)=>∃b45 b40,env=[(0,true,OL b2 data1),(1,true,Enc.v blank3),(8,true,.ref b40 0 5),(9,true,Enc.v lost47),(10,true,Enc.v bad35),(15,true,Enc.v i48)]∧Nd [(b2,RL (α:=Tape_api) 54 data1),(b45,RL (α:=Int) 3 l46),(b40,RV 50 [Enc.v c41,Enc.v c42,Enc.v c43,Enc.v c44,OL b45 l46])]∧HSub [(b2,RL (α:=Tape_api) 54 data1),(b45,RL (α:=Int) 3 l46),(b40,RV 50 [Enc.v c41,Enc.v c42,Enc.v c43,Enc.v c44,OL b45 l46])] h) hO38 ⟨b32,b27,rfl,(Nd.pick nd (is:=[0,1,2]) Dc),(HSub.pick nd (is:=[0,1,2]) Dc)⟩ ?_
  rintro ⟨c41,c42,c43,c44,l46,lost47,i48⟩ env h x38x ⟨b45,b40,rfl,nd,hs⟩ hX hR38
  refine TK.subH hs ?_
  unfold X.cartridgeref10_Make_kp0_s38 at hX
  try dsimp only at hX
  refine TK.seq_k fun K164 hK164=>?_
  refine SR fun K165 hK165=>M rfl rfl (M rfl rfl (P1 (p_lenL (xs:=blank3) kd48 rfl) rfl rfl (P1 (p_lss rfl rfl) rfl rfl (TL.nil (hK165 _ _ ?_)))))
  refine TK.cond (b:=(decide (i48<(blank3.length:Int)))) rfl (fun hc=>?_) (fun hc=>?_)
  ·have hX:=ite_t hc hX
   refine TK.skip ?_
   refine hK164 _ _ ?_
   refine TK.seq_k fun K166 hK166=>?_
   refine TK.block ?_
   refine TK.seq_k fun K167 hK167=>?_
   refine TK.pick [1,2,0] nd Dc fun nd=>?_
   have ndS:Nd [(b2,RL (α:=Tape_api) 54 data1)]:=Nd.pick nd (is:=[2]) Dc
   refine TK.drwX (h:=[(b45,RL (α:=Int) 3 l46),(b40,RV 50 [Enc.v c41,Enc.v c42,Enc.v c43,Enc.v c44,OL b45 l46])]) (hS:=[(b2,RL (α:=Tape_api) 54 data1)]) [(1,0),(1,1),(0,2),(0,3),(0,4),(0,5),(0,6),(0,7),(2,8),(1,9),(2,10)] mixed (by kernel_rfl) (HSub_app nd) ?_
   refine DR1 (gc:=true) rfl (vok_p (C:=cx) (p_faV fs50_4 Dc rfl nd (j:=1) rfl rfl)) rfl rfl ?_
   refine DR1 (gc:=true) rfl (vok_p (C:=cx) (p_ldV (v:=OL b45 l46) ty47 rfl rfl nd (j:=1) rfl rfl rfl rfl rfl)) rfl rfl ?_
   refine DM rfl rfl rfl ?_
   refine DM rfl rfl rfl ?_
   obtain ⟨e168,he168,hX⟩:=bind_some hX
   refine D0 rfl (p_iaL (xs:=blank3) kd48 ty54 rfl rfl rfl (fun _=>he168)) rfl rfl ?_
   refine D0 rfl (p_faE fs54_0 Dc rfl) rfl rfl ?_
   refine D0 rfl (p_ldE (xs:=blank3) (a:=e168) (e168.Label:Int) ty3 rfl rfl (fun _=>he168) rfl rfl rfl) rfl rfl ?_
   refine DR0 (gc:=true) rfl (vok_lit (C:=cx) ([e168.Label]:List Int) kd47 ty3 rfl ⟨⟨rfl,rfl⟩,trivial⟩ rfl rfl) rfl rfl ?_
   obtain ⟨u169,hu169,hX⟩:=bind_some hX
   refine DR2 rfl rfl ?_
   refine TLc.appO nd kd47 bo47 ty3 rfl rfl (j:=0) rfl rfl (Src_L _) Dc (need_t hu169) rfl fun nd=>?_
   refine TL.nil ⟨_,[(b45,RL (α:=Int) 3 (l46++([e168.Label]:List Int))),(b40,RV 50 [Enc.v c41,Enc.v c42,Enc.v c43,Enc.v c44,OL b45 l46])],rfl,rfl,HSub_app nd,?_⟩
   refine DR1 (gc:=true) rfl (vok_p (C:=cx) (p_faV fs50_4 Dc rfl nd (j:=1) rfl rfl)) rfl rfl ?_
   refine DR2n rfl ?_
   refine TLc.stV (lu:=[OL (α:=Int) b45 (l46++([e168.Label]:List Int))]) nd ty47 rfl (j:=1) rfl rfl rfl (Cells_rs (refOK_of nd (j:=0) rfl rfl)) rfl rfl [Enc.v c41,Enc.v c42,Enc.v c43,Enc.v c44,OL (α:=Int) b45 (l46++([e168.Label]:List Int))] rfl fun nd=>?_
   refine TL.nil ⟨.nilp,[(b45,RL (α:=Int) 3 (l46++([e168.Label]:List Int))),(b40,RV 50 [Enc.v c41,Enc.v c42,Enc.v c43,Enc.v c44,OL (α:=Int) b45 (l46++([e168.Label]:List Int))])],rfl,rfl,HSub_app nd,?_⟩
   refine DRend ?_
   refine hK167 _ _ ?_
   refine TK.reg ?_
   refine M rfl rfl (M rfl rfl ?_)
   refine TLc.p (gc:=(!lost47)) (p_mv rfl (hg:=fun e=>rfl)) (gcF1 rfl) rfl ?_
   refine TLc.p (gc:=(!lost47)) (p_mv rfl (hg:=fun e=>rfl)) (gcF1 rfl) rfl ?_
   obtain ⟨e170,he170,hX⟩:=bind_some hX
   refine TLc.p (gc:=(!lost47)) (p_iaL (xs:=blank3) kd48 ty54 rfl rfl rfl (fun e=>optG_t he170 e) (hg:=fun e=>⟨e,e⟩)) (gcF1 rfl) rfl ?_
   refine TLc.p (gc:=(!lost47)) (p_faE fs54_3 Dc rfl (hg:=fun e=>e)) (gcF1 rfl) rfl ?_
   refine TLc.p (gc:=(!lost47)) (p_ldE (xs:=blank3) (a:=e170) (e170.Lost:Bool) ty4 rfl rfl (fun e=>optG_t he170 e) rfl rfl rfl (hg:=fun e=>e)) (gcF1 rfl) rfl ?_
   refine P1 (p_or rfl rfl (fun e=>⟨rfl,fun h=>(not_t h)⟩)) rfl rfl (M rfl rfl (TL.nil (hK166 _ _ ?_)))
   refine TK.reg ?_
   refine M rfl rfl (P1 (p_add rfl rfl) rfl rfl (M rfl rfl (TL.nil ?_)))
   exact ⟨_,(some_in hX).symm,b45,b40,rfl,(Nd.pick nd (is:=[2,0,1]) Dc),(HSub.pick nd (is:=[2,0,1]) Dc)⟩
  ·have hX:=ite_f hc hX
   refine TK.exit ?_
   obtain rfl:=hR38 _ (some_in hX).symm
   exact E38 c41 c42 c43 c44 l46 lost47 _ _ ⟨b45,b40,rfl,(Nd.pick nd (is:=[0,1,2]) Dc),(HSub.pick nd (is:=[0,1,2]) Dc)⟩ hA38
 refine TK.iter [0,1,8,9,10,11] (fun s env h=>match s with|(c17,c18,c19,c20,l22,lost23,bad24,i25)=>∃b21 b16,env=[(0,true,OL b2 data1),(1,true,Enc.v blank3),(8,true,.ref b16 0 5),(9,true,Enc.v lost23),(10,true,Enc.v bad24),(11,true,Enc.v i25)]∧Nd [(b2,RL (α:=Tape_api) 54 data1),(b21,RL (α:=Int) 3 l22),(b16,RV 50 [Enc.v c17,Enc.v c18,Enc.v c19,Enc.v c20,OL b21 l22])]∧HSub [(b2,RL (α:=Tape_api) 54 data1),(b21,RL (α:=Int) 3 l22),(b16,RV 50 [Enc.v c17,Enc.v c18,Enc.v c19,Enc.v c20,OL b21 l22])] h) hO14 ⟨b8,b7,rfl,(Nd.pick nd (is:=[2,0,1]) Dc),(HSub.pick nd (is:=[2,0,1]) Dc)⟩ ?_
 rintro ⟨c17,c18,c19,c20,l22,lost23,bad24,i25⟩ env h x14x ⟨b21,b16,rfl,nd,hs⟩ hX hR14
 refine TK.subH hs ?_
 unfold X.cartridgeref10_Make_kp0_s14 at hX
 try dsimp only at hX
 refine TK.seq_k fun K171 hK171=>?_
 refine SR fun K172 hK172=>M rfl rfl (M rfl rfl (P1 (p_lenR kd48 rfl (fun _=>refOK_of nd (j:=0) rfl rfl)) rfl rfl (P1 (p_lss rfl rfl) rfl rfl (TL.nil (hK172 _ _ ?_)))))
 refine TK.cond (b:=(decide (i25<(data1.length:Int)))) rfl (fun hc=>?_) (fun hc=>?_)
 ·have hX:=ite_t hc hX
  refine TK.skip ?_
  refine hK171 _ _ ?_
  refine TK.seq_k fun K173 hK173=>?_
  refine TK.block ?_
  refine TK.seq_k fun K174 hK174=>?_
  refine TK.pick [1,2,0] nd Dc fun nd=>?_
  have ndS:Nd [(b2,RL (α:=Tape_api) 54 data1)]:=Nd.pick nd (is:=[2]) Dc
  refine TK.drwX (h:=[(b21,RL (α:=Int) 3 l22),(b16,RV 50 [Enc.v c17,Enc.v c18,Enc.v c19,Enc.v c20,OL b21 l22])]) (hS:=[(b2,RL (α:=Tape_api) 54 data1)]) [(1,0),(1,1),(0,2),(0,3),(0,4),(0,5),(0,6),(0,7),(2,8),(1,9),(2,10)] mixed (by kernel_rfl) (HSub_app nd) ?_
  refine DR1 (gc:=true) rfl (vok_p (C:=cx) (p_faV fs50_4 Dc rfl nd (j:=1) rfl rfl)) rfl rfl ?_
  refine DR1 (gc:=true) rfl (vok_p (C:=cx) (p_ldV (v:=OL b21 l22) ty47 rfl rfl nd (j:=1) rfl rfl rfl rfl rfl)) rfl rfl ?_
  refine DM rfl rfl rfl ?_
  refine DM rfl rfl rfl ?_
  obtain ⟨e175,he175,hX⟩:=bind_some hX
  refine D0 rfl (p_iaO (xs:=data1) kd48 ty54 rfl rfl rfl ndS (j:=0) rfl (fun _=>he175)) rfl rfl ?_
  refine D0 rfl (p_faO (xs:=data1) fs54_0 Dc rfl ndS (j:=0) rfl) rfl rfl ?_
  refine D0 rfl (p_ldO (xs:=data1) (a:=e175) (e175.Label:Int) ty3 rfl rfl ndS (j:=0) rfl (fun _=>he175) rfl rfl rfl) rfl rfl ?_
  refine DR0 (gc:=true) rfl (vok_lit (C:=cx) ([e175.Label]:List Int) kd47 ty3 rfl ⟨⟨rfl,rfl⟩,trivial⟩ rfl rfl) rfl rfl ?_
  obtain ⟨u176,hu176,hX⟩:=bind_some hX
  refine DR2 rfl rfl ?_
  refine TLc.appO nd kd47 bo47 ty3 rfl rfl (j:=0) rfl rfl (Src_L _) Dc (need_t hu176) rfl fun nd=>?_
  refine TL.nil ⟨_,[(b21,RL (α:=Int) 3 (l22++([e175.Label]:List Int))),(b16,RV 50 [Enc.v c17,Enc.v c18,Enc.v c19,Enc.v c20,OL b21 l22])],rfl,rfl,HSub_app nd,?_⟩
  refine DR1 (gc:=true) rfl (vok_p (C:=cx) (p_faV fs50_4 Dc rfl nd (j:=1) rfl rfl)) rfl rfl ?_
  refine DR2n rfl ?_
  refine TLc.stV (lu:=[OL (α:=Int) b21 (l22++([e175.Label]:List Int))]) nd ty47 rfl (j:=1) rfl rfl rfl (Cells_rs (refOK_of nd (j:=0) rfl rfl)) rfl rfl [Enc.v c17,Enc.v c18,Enc.v c19,Enc.v c20,OL (α:=Int) b21 (l22++([e175.Label]:List Int))] rfl fun nd=>?_
  refine TL.nil ⟨.nilp,[(b21,RL (α:=Int) 3 (l22++([e175.Label]:List Int))),(b16,RV 50 [Enc.v c17,Enc.v c18,Enc.v c19,Enc.v c20,OL (α:=Int) b21 (l22++([e175.Label]:List Int))])],rfl,rfl,HSub_app nd,?_⟩
  refine DRend ?_
  refine hK174 _ _ (SR fun K177 hK177=>M rfl rfl (M rfl rfl ?_))
  refine TLc.p (gc:=(!lost23)) (p_mv rfl (hg:=fun e=>rfl)) (gcF1 rfl) rfl ?_
  refine TLc.p (gc:=(!lost23)) (p_mv rfl (hg:=fun e=>rfl)) (gcF1 rfl) rfl ?_
  obtain ⟨e178,he178,hX⟩:=bind_some hX
  refine TLc.p (gc:=(!lost23)) (p_iaO (xs:=data1) kd48 ty54 rfl rfl rfl nd (j:=2) rfl (fun e=>optG_t he178 e) (hg:=fun e=>⟨e,e⟩)) (gcF1 rfl) rfl ?_
  refine TLc.p (gc:=(!lost23)) (p_faO (xs:=data1) fs54_3 Dc rfl nd (j:=2) rfl (hg:=fun e=>e)) (gcF1 rfl) rfl ?_
  refine TLc.p (gc:=(!lost23)) (p_ldO (xs:=data1) (a:=e178) (e178.Lost:Bool) ty4 rfl rfl nd (j:=2) rfl (fun e=>optG_t he178 e) rfl rfl rfl (hg:=fun e=>e)) (gcF1 rfl) rfl ?_
  refine P1 (p_or rfl rfl (fun e=>⟨rfl,fun h=>(not_t h)⟩)) rfl rfl (M rfl rfl (TL.nil (hK177 _ _ (SR fun K179 hK179=>M rfl rfl (TL.nil (hK179 _ _ ?_))))))
  refine TK.block ?_
  obtain ⟨o180,hO180,hA180⟩:=bind_some hX
  have E180:∀(bad189:Bool) (env:Env) (h:Hp),(∃b188 b187,keepE [0,1,8,9,10,11] env=[(0,true,OL b2 data1),(1,true,Enc.v blank3),(8,true,.ref b187 0 5),(9,true,Enc.v ((lost23||e178.Lost):Bool)),(10,true,Enc.v bad189),(11,true,Enc.v i25)]∧Nd [(b2,RL (α:=Tape_api) 54 data1),(b188,RL (α:=Int) 3 (l22++([e175.Label]:List Int))),(b187,RV 50 [Enc.v c17,Enc.v c18,Enc.v c19,Enc.v c20,OL (α:=Int) b188 (l22++([e175.Label]:List Int))])]∧HSub [(b2,RL (α:=Tape_api) 54 data1),(b188,RL (α:=Int) 3 (l22++([e175.Label]:List Int))),(b187,RV 50 [Enc.v c17,Enc.v c18,Enc.v c19,Enc.v c20,OL (α:=Int) b188 (l22++([e175.Label]:List Int))])] h)→X.cartridgeref10_Make_kp0_e180 c17 c18 c19 c20 l22 e175 lost23 e178 i25 bad189=some x14x→K173 env h:=by
   intro bad189 env h hE hX
   obtain ⟨b188,b187,henv,nd,hs⟩:=hE
   unfold X.cartridgeref10_Make_kp0_e180 at hX
   refine hK173 _ _ (TK.keep [0,1,8,9,10,11] ?_)
   rw[henv]
   refine TK.subH hs ?_
   refine TK.reg ?_
   refine M rfl rfl (P1 (p_add rfl rfl) rfl rfl (M rfl rfl (TL.nil ?_)))
   exact ⟨_,(some_in hX).symm,b188,b187,rfl,(Nd.pick nd (is:=[0,1,2]) Dc),(HSub.pick nd (is:=[0,1,2]) Dc)⟩
  refine TK.iter [0,1,8,9,10,11,12] (fun s env h=>match s with|(bad184,n185)=>∃b183 b182,env=[(0,true,OL b2 data1),(1,true,Enc.v blank3),(8,true,.ref b182 0 5),(9,true,Enc.v ((lost23||e178.Lost):Bool)),(10,true,Enc.v bad184),(11,true,Enc.v i25),(12,true,Enc.v n185)]∧Nd [(b2,RL (α:=Tape_api) 54 data1),(b183,RL (α:=Int) 3 (l22++([e175.Label]:List Int))),(b182,RV 50 [Enc.v c17,Enc.v c18,Enc.v c19,Enc.v c20,OL (α:=Int) b183 (l22++([e175.Label]:List Int))])]∧HSub [(b2,RL (α:=Tape_api) 54 data1),(b183,RL (α:=Int) 3 (l22++([e175.Label]:List Int))),(b182,RV 50 [Enc.v c17,Enc.v c18,Enc.v c19,Enc.v c20,OL (α:=Int) b183 (l22++([e175.Label]:List Int))])] h) hO180 ⟨b21,b16,rfl,(Nd.pick nd (is:=[2,0,1]) Dc),(HSub.pick nd (is:=[2,0,1]) Dc)⟩ ?_
  rintro ⟨bad184,n185⟩ env h x180x ⟨b183,b182,rfl,nd,hs⟩ hX hR180
  refine TK.subH hs ?_
  unfold X.cartridgeref10_Make_kp0_s180 at hX
  try dsimp only at hX
  refine TK.seq_k fun K190 hK190=>?_
  refine SR fun K191 hK191=>M rfl rfl (M rfl rfl (M rfl rfl ?_))
  obtain ⟨e192,he192,hX⟩:=bind_some hX
  refine P1 (p_iaO (xs:=data1) kd48 ty54 rfl rfl rfl nd (j:=0) rfl (fun _=>he192)) rfl rfl (P1 (p_faO (xs:=data1) fs54_2 Dc rfl nd (j:=0) rfl) rfl rfl (P1 (p_ldO (xs:=data1) (a:=e192) (e192.Blocks:(List (List UInt8))) ty22 rfl rfl nd (j:=0) rfl (fun _=>he192) rfl rfl rfl) rfl rfl (P1 (p_lenL (xs:=e192.Blocks) kd22 rfl) rfl rfl (P1 (p_lss rfl rfl) rfl rfl (TL.nil (hK191 _ _ ?_))))))
  refine TK.cond (b:=(decide (n185<(e192.Blocks.length:Int)))) rfl (fun hc=>?_) (fun hc=>?_)
  ·have hX:=ite_t hc hX
   refine TK.skip ?_
   refine hK190 _ _ ?_
   refine TK.seq_k fun K193 hK193=>?_
   refine TK.block ?_
   refine SR fun K194 hK194=>M rfl rfl (M rfl rfl ?_)
   obtain ⟨e195,he195,hX⟩:=bind_some hX
   refine P1 (p_iaO (xs:=data1) kd48 ty54 rfl rfl rfl nd (j:=0) rfl (fun _=>he195)) rfl rfl (P1 (p_ldO (xs:=data1) (a:=e195) (e195:Tape_api) ty54 rfl rfl nd (j:=0) rfl (fun _=>he195) rfl rfl rfl) rfl rfl (M rfl rfl ?_))
   obtain ⟨r196,hr196,hX⟩:=bind_some hX
   refine TL.cvX rfl rfl rfl (fun _=>⟨rfl,⟨rfl,⟨rfl,trivial⟩⟩⟩) (fun e=>ok_cartridgeref10_Good e195 n185 _ hr196) ?_
   refine M rfl rfl (P1 (p_ex rfl rfl Dc) rfl rfl (P1 (p_ex rfl rfl Dc) rfl rfl ?_))
   refine TLc.alO (l:=[Enc.v ((0:Int):Int),Enc.v ((0:Int):Int),Enc.v ((0:Int):Int),.nils]) nd ty68 ti68_z rfl rfl fun b197 nd=>?_
   refine TLc.stV (lu:=Enc.cl (r196.1:Unit_api)) nd ty68 rfl (j:=0) rfl rfl rfl (Cells_v (r196.1:Unit_api)) rfl rfl [Enc.v r196.1.Kind,Enc.v r196.1.Label,Enc.v r196.1.Number,Enc.v r196.1.Load] rfl fun nd=>?_
   refine M rfl rfl (TL.nil (hK194 _ _ ?_))
   refine TK.reg ?_
   refine M rfl rfl (M rfl rfl ?_)
   refine TLc.p (gc:=(!bad184)) (p_mv rfl (hg:=fun e=>rfl)) (gcF1 rfl) rfl ?_
   refine TLc.p (gc:=(!bad184)) (p_not rfl (hg:=fun e=>e)) (gcF1 rfl) rfl ?_
   refine P1 (p_or rfl rfl (fun e=>⟨rfl,fun h=>(not_t h)⟩)) rfl rfl (M rfl rfl (TL.nil (hK193 _ _ ?_)))
   refine TK.reg ?_
   refine M rfl rfl (P1 (p_add rfl rfl) rfl rfl (M rfl rfl (TL.nil ?_)))
   exact ⟨_,(some_in hX).symm,b183,b182,rfl,(Nd.pick nd (is:=[1,2,3]) Dc),(HSub.pick nd (is:=[1,2,3]) Dc)⟩
  ·have hX:=ite_f hc hX
   refine TK.exit ?_
   obtain rfl:=hR180 _ (some_in hX).symm
   exact E180 bad184 _ _ ⟨b183,b182,rfl,(Nd.pick nd (is:=[0,1,2]) Dc),(HSub.pick nd (is:=[0,1,2]) Dc)⟩ hA180
 ·have hX:=ite_f hc hX
  refine TK.exit ?_
  obtain rfl:=hR14 _ (some_in hX).symm
  exact E14 c17 c18 c19 c20 l22 lost23 bad24 _ _ ⟨b21,b16,rfl,(Nd.pick nd (is:=[0,1,2]) Dc),(HSub.pick nd (is:=[0,1,2]) Dc)⟩ hA14
theorem bc_cartridgeref10_ReadSeal:BodyC cx 94 51 [.c 2 50,.t 3] k94:=⟨Enters.of Try.func94 (by kernel_rfl) (by kernel_rfl),_,_,Try.func94,rfl,by kernel_rfl,rfl,rfl⟩
theorem ok_cartridgeref10_ReadSeal (b1:(List UInt8)) (r:(Seal_api×Int)) (hX:X.cartridgeref10_ReadSeal b1=some r):Fun Try.prog 94 [Enc.v (b1:(List UInt8))] (·= .tup 2 (ofL [Enc.v r.1,Enc.v r.2])):=by
 refine Fun.ofC (C:=cx) bc_cartridgeref10_ReadSeal (Nat.le_of_ble_eq_true rfl) (allVal.mem ⟨(by exact (v_val _)),trivial⟩) ?_
 unfold k94
 have nd:Nd []:=Nd_nil
 unfold X.cartridgeref10_ReadSeal at hX
 refine SR fun K2 hK2=>?_
 refine TLc.alO (l:=[Enc.v ((0:Int):Int),Enc.v ((0:Int):Int),Enc.v ((0:Int):Int),Enc.v ((0:Int):Int),.nils]) nd ty50 ti50_z rfl rfl fun b3 nd=>?_
 refine M rfl rfl (TL.nil (hK2 _ _ ?_))
 refine TK.ownC (α:=Int) nd (j:=0) rfl 4 3 (.inl rfl) fun b4 nd=>?_
 refine SR fun K5 hK5=>M rfl rfl ?_
 obtain ⟨r6,hr6,hX⟩:=bind_some hX
 refine TL.tcX [] [(b4,RL (α:=Int) 3 ([]:List Int)),(b3,RV 50 [Enc.v ((0:Int):Int),Enc.v ((0:Int):Int),Enc.v ((0:Int):Int),Enc.v ((0:Int):Int),OL (α:=Int) b4 ([]:List Int)])] rfl nd (dlt rfl) rfl ⟨rfl,⟨rfl,trivial⟩⟩ (ok_cartridgeref1_NewReader b1 (Nd.take nd 0 rfl) _ hr6) ?_
 rintro _ _ hQ nd
 obtain ⟨b7,rfl,rfl⟩:=hQ
 refine M rfl rfl (TL.nil (hK5 _ _ (SR fun K8 hK8=>M rfl rfl ?_)))
 obtain ⟨r9,hr9,hX⟩:=bind_some hX
 refine TL.tcX [(b7,RV 211 [Enc.v r6.1,Enc.v r6.2])] [(b4,RL (α:=Int) 3 ([]:List Int)),(b3,RV 50 [Enc.v ((0:Int):Int),Enc.v ((0:Int):Int),Enc.v ((0:Int):Int),Enc.v ((0:Int):Int),OL (α:=Int) b4 ([]:List Int)])] rfl nd (dlt rfl) rfl ⟨rfl,⟨rfl,trivial⟩⟩ (ok_cartridgeref1_Reader_Int r6.1 r6.2 b7 (Nd.take nd 1 rfl) _ hr9) ?_
 rintro _ _ hQ nd
 obtain ⟨rfl,rfl⟩:=hQ
 refine M rfl rfl ?_
 obtain ⟨r11,hr11,hX⟩:=bind_some hX
 refine TL.tcX [(b7,RV 211 [Enc.v r9.2.1,Enc.v r9.2.2])] [(b4,RL (α:=Int) 3 ([]:List Int)),(b3,RV 50 [Enc.v ((0:Int):Int),Enc.v ((0:Int):Int),Enc.v ((0:Int):Int),Enc.v ((0:Int):Int),OL (α:=Int) b4 ([]:List Int)])] rfl nd (dlt rfl) rfl ⟨rfl,⟨rfl,trivial⟩⟩ (ok_cartridgeref1_Reader_Byte r9.2.1 r9.2.2 b7 (Nd.take nd 1 rfl) _ hr11) ?_
 rintro _ _ hQ nd
 obtain ⟨rfl,rfl⟩:=hQ
 refine P1 (p_cvt src5 kd3 rfl (cv_8 r11.1)) rfl rfl (M rfl rfl ?_)
 obtain ⟨r13,hr13,hX⟩:=bind_some hX
 refine TL.tcX [(b7,RV 211 [Enc.v r11.2.1,Enc.v r11.2.2])] [(b4,RL (α:=Int) 3 ([]:List Int)),(b3,RV 50 [Enc.v ((0:Int):Int),Enc.v ((0:Int):Int),Enc.v ((0:Int):Int),Enc.v ((0:Int):Int),OL (α:=Int) b4 ([]:List Int)])] rfl nd (dlt rfl) rfl ⟨rfl,⟨rfl,trivial⟩⟩ (ok_cartridgeref1_Reader_Byte r11.2.1 r11.2.2 b7 (Nd.take nd 1 rfl) _ hr13) ?_
 rintro _ _ hQ nd
 obtain ⟨rfl,rfl⟩:=hQ
 refine P1 (p_cvt src5 kd3 rfl (cv_8 r13.1)) rfl rfl (M rfl rfl ?_)
 obtain ⟨r15,hr15,hX⟩:=bind_some hX
 refine TL.tcX [(b7,RV 211 [Enc.v r13.2.1,Enc.v r13.2.2])] [(b4,RL (α:=Int) 3 ([]:List Int)),(b3,RV 50 [Enc.v ((0:Int):Int),Enc.v ((0:Int):Int),Enc.v ((0:Int):Int),Enc.v ((0:Int):Int),OL (α:=Int) b4 ([]:List Int)])] rfl nd (dlt rfl) rfl ⟨rfl,⟨rfl,trivial⟩⟩ (ok_cartridgeref1_Reader_Byte r13.2.1 r13.2.2 b7 (Nd.take nd 1 rfl) _ hr15) ?_
 rintro _ _ hQ nd
 obtain ⟨rfl,rfl⟩:=hQ
 refine P1 (p_cvt src5 kd3 rfl (cv_8 r15.1)) rfl rfl (P1 (p_bld (l:=[Enc.v r9.1,Enc.v ((r11.1.toNat:Int):Int),Enc.v ((r13.1.toNat:Int):Int),Enc.v ((r15.1.toNat:Int):Int),.nils]) ty50 rfl all50 rfl (fun _=>⟨⟨rfl,trivial,rfl⟩,⟨rfl,trivial,rfl⟩,⟨rfl,trivial,rfl⟩,⟨rfl,trivial,rfl⟩,trivial⟩)) rfl rfl ?_)
 refine TLc.alO (l:=[Enc.v ((0:Int):Int),Enc.v ((0:Int):Int),Enc.v ((0:Int):Int),Enc.v ((0:Int):Int),.nils]) nd ty50 ti50_z rfl rfl fun b17 nd=>?_
 refine TLc.stV (lu:=[Enc.v r9.1,Enc.v ((r11.1.toNat:Int):Int),Enc.v ((r13.1.toNat:Int):Int),Enc.v ((r15.1.toNat:Int):Int),.nils]) nd ty50 rfl (j:=0) rfl rfl rfl (Cells_agg rfl (allA.mem ⟨trivial,trivial,trivial,trivial,trivial,trivial⟩)) rfl rfl [Enc.v r9.1,Enc.v ((r11.1.toNat:Int):Int),Enc.v ((r13.1.toNat:Int):Int),Enc.v ((r15.1.toNat:Int):Int),.nils] rfl fun nd=>?_
 refine TL.nil (hK8 _ _ ?_)
 refine TK.ownC (α:=Int) nd (j:=0) rfl 4 3 (.inl rfl) fun b18 nd=>?_
 refine TK.seq_k fun K19 hK19=>?_
 refine TK.block ?_
 obtain ⟨o20,hO20,hA20⟩:=bind_some hX
 have E20:∀(c36:Int) (c37:Int) (c38:Int) (c39:Int) (l41:List Int) (env:Env) (h:Hp),(∃b34 b33 b40 b35,keepE [0,2,5] env=[(0,true,Enc.v b1),(2,true,.ref b33 0 5),(5,true,.ref b35 0 5)]∧Nd [(b34,RL (α:=Int) 3 ([]:List Int)),(b33,RV 50 [Enc.v ((0:Int):Int),Enc.v ((0:Int):Int),Enc.v ((0:Int):Int),Enc.v ((0:Int):Int),OL (α:=Int) b34 ([]:List Int)]),(b40,RL (α:=Int) 3 l41),(b35,RV 50 [Enc.v c36,Enc.v c37,Enc.v c38,Enc.v c39,OL b40 l41])]∧HSub [(b34,RL (α:=Int) 3 ([]:List Int)),(b33,RV 50 [Enc.v ((0:Int):Int),Enc.v ((0:Int):Int),Enc.v ((0:Int):Int),Enc.v ((0:Int):Int),OL (α:=Int) b34 ([]:List Int)]),(b40,RL (α:=Int) 3 l41),(b35,RV 50 [Enc.v c36,Enc.v c37,Enc.v c38,Enc.v c39,OL b40 l41])] h)→X.cartridgeref10_ReadSeal_e20 b1 c36 c37 c38 c39 l41=some r→K19 env h:=by
  intro c36 c37 c38 c39 l41 env h hE hX
  obtain ⟨b34,b33,b40,b35,henv,nd,hs⟩:=hE
  unfold X.cartridgeref10_ReadSeal_e20 at hX
  refine hK19 _ _ (TK.keep [0,2,5] ?_)
  rw[henv]
  refine TK.subH hs ?_
  refine SR fun K42 hK42=>?_
  refine TL.layR (l2':=[Enc.v c36,Enc.v c37,Enc.v c38,Enc.v c39,Enc.v l41]) [] nd (j:=2) rfl 3 rfl rfl ⟨fix_id _,fix_id _,fix_id _,fix_id _,fix_OL nd (j:=2) rfl,trivial⟩ trivial fun nd=>?_
  refine P1 (p_ldVa (l':=Enc.cl ((Seal_api.mk c36 c37 c38 c39 l41):Seal_api)) ty50 rfl rfl nd (j:=2) rfl rfl rfl rfl (Nat.le_of_ble_eq_true rfl)) rfl rfl ?_
  obtain ⟨r43,hr43,hX⟩:=bind_some hX
  refine TL.cvX rfl rfl rfl (fun _=>⟨rfl,⟨rfl,trivial⟩⟩) (fun e=>ok_cartridgeref10_SealBytes (Seal_api.mk c36 c37 c38 c39 l41) _ hr43) ?_
  refine M rfl rfl (TL.nil (hK42 _ _ ?_))
  refine TK.seq_k fun K44 hK44=>?_
  refine SR fun K45 hK45=>M rfl rfl (P1 (p_lenL (xs:=r43) kd25 rfl) rfl rfl (P1 (p_eql rfl rfl) rfl rfl (M rfl rfl ?_)))
  refine TLc.p (gc:=(!(((r43.length:Int)==(0:Int))))) (p_mv rfl (hg:=fun e=>rfl)) (gcF1 rfl) rfl ?_
  refine TL.ofV (gc:=(!(((r43.length:Int)==(0:Int))))) (vok_cvtBS (C:=cx) (gc:=(!(((r43.length:Int)==(0:Int))))) (xs:=r43) kd25 kd5 kd9 rfl (look_v (v:=Enc.v r43) (v_val _)) (hg:=fun e=>e)) (gcF1 rfl) rfl ?_
  refine TLc.p (gc:=(!(((r43.length:Int)==(0:Int))))) (p_mv rfl (hg:=fun e=>rfl)) (gcF1 rfl) rfl ?_
  refine TL.ofV (gc:=(!(((r43.length:Int)==(0:Int))))) (vok_cvtBS (C:=cx) (gc:=(!(((r43.length:Int)==(0:Int))))) (xs:=b1) kd25 kd5 kd9 rfl (look_v (v:=Enc.v b1) (v_val _)) (hg:=fun e=>e)) (gcF1 rfl) rfl ?_
  refine TLc.p (gc:=(!(((r43.length:Int)==(0:Int))))) (ps_neq (s:=(Str.mk r43)) (r:=(Str.mk b1)) rfl rfl (hg:=fun e=>⟨e,e⟩)) (gcF1 rfl) rfl ?_
  refine P1 (p_or rfl rfl (fun e=>⟨rfl,fun h=>(not_t h)⟩)) rfl rfl (TL.nil (hK45 _ _ ?_))
  refine TK.cond (b:=(((r43.length:Int)==(0:Int))||(!((Str.mk r43).l==(Str.mk b1).l)))) rfl (fun hc=>?_) (fun hc=>?_)
  ·have hX:=ite_t hc hX
   refine SR fun K46 hK46=>P1 (p_bld (l:=[Enc.v ((0:Int):Int),Enc.v ((0:Int):Int),Enc.v ((0:Int):Int),Enc.v ((0:Int):Int),.nils]) ty50 rfl all50 rfl (fun _=>trivial)) rfl rfl ?_
   refine TLc.stV (lu:=[Enc.v ((0:Int):Int),Enc.v ((0:Int):Int),Enc.v ((0:Int):Int),Enc.v ((0:Int):Int),.nils]) nd ty50 rfl (j:=1) rfl rfl rfl (Cells_agg rfl (allA.mem ⟨trivial,trivial,trivial,trivial,trivial,trivial⟩)) rfl rfl [Enc.v ((0:Int):Int),Enc.v ((0:Int):Int),Enc.v ((0:Int):Int),Enc.v ((0:Int):Int),.nils] rfl fun nd=>?_
   refine M rfl rfl (TL.nil (hK46 _ _ ?_))
   refine TK.ownC (α:=Int) nd (j:=1) rfl 4 3 (.inl rfl) fun b47 nd=>?_
   refine TK.layR (l2':=[Enc.v ((0:Int):Int),Enc.v ((0:Int):Int),Enc.v ((0:Int):Int),Enc.v ((0:Int):Int),Enc.v (([]:List Int):(List Int))]) [] nd (j:=0) rfl 2 rfl rfl ⟨fix_id _,fix_id _,fix_id _,fix_id _,fix_OL nd (j:=0) rfl,trivial⟩ trivial fun nd=>?_
   refine TK.ret ?_
   try dsimp only[thenQ]
   exact retC [Enc.v ((Seal_api.mk (0:Int) (0:Int) (0:Int) (0:Int) ([]:List Int)):Seal_api),Enc.v ((2:Int):Int)] ⟨p_ldVa (l':=Enc.cl ((Seal_api.mk (0:Int) (0:Int) (0:Int) (0:Int) ([]:List Int)):Seal_api)) ty50 rfl rfl nd (j:=1) rfl rfl rfl rfl (Nat.le_of_ble_eq_true rfl),p_mv rfl,trivial⟩ (by obtain rfl:=some_in hX;rfl) (tup_val (allVal.mem ⟨v_val _,v_val _,trivial⟩))
  ·have hX:=ite_f hc hX
   refine TK.skip ?_
   refine hK44 _ _ (SR fun K48 hK48=>P1 (p_ldVa (l':=Enc.cl ((Seal_api.mk c36 c37 c38 c39 l41):Seal_api)) ty50 rfl rfl nd (j:=2) rfl rfl rfl rfl (Nat.le_of_ble_eq_true rfl)) rfl rfl ?_)
   refine TLc.stV (lu:=Enc.cl ((Seal_api.mk c36 c37 c38 c39 l41):Seal_api)) nd ty50 rfl (j:=1) rfl rfl rfl (Cells_v ((Seal_api.mk c36 c37 c38 c39 l41):Seal_api)) rfl rfl [Enc.v ((Seal_api.mk c36 c37 c38 c39 l41).Number:Int),Enc.v ((Seal_api.mk c36 c37 c38 c39 l41).Index:Int),Enc.v ((Seal_api.mk c36 c37 c38 c39 l41).Data:Int),Enc.v ((Seal_api.mk c36 c37 c38 c39 l41).Parity:Int),Enc.v ((Seal_api.mk c36 c37 c38 c39 l41).Labels:(List Int))] rfl fun nd=>?_
   refine M rfl rfl (TL.nil (hK48 _ _ ?_))
   refine TK.ret ?_
   try dsimp only[thenQ]
   exact retC [Enc.v ((Seal_api.mk c36 c37 c38 c39 l41):Seal_api),Enc.v ((0:Int):Int)] ⟨p_ldVa (l':=Enc.cl ((Seal_api.mk c36 c37 c38 c39 l41):Seal_api)) ty50 rfl rfl nd (j:=1) rfl rfl rfl rfl (Nat.le_of_ble_eq_true rfl),p_mv rfl,trivial⟩ (by obtain rfl:=some_in hX;rfl) (tup_val (allVal.mem ⟨v_val _,v_val _,trivial⟩))
 refine TK.iter [0,2,4,5] (fun s env h=>match s with|(c24,c25,c27,c28,c29,c30,l32)=>∃b22 b21 b23 b31 b26,env=[(0,true,Enc.v b1),(2,true,.ref b21 0 5),(4,true,.ref b23 0 2),(5,true,.ref b26 0 5)]∧Nd [(b22,RL (α:=Int) 3 ([]:List Int)),(b21,RV 50 [Enc.v ((0:Int):Int),Enc.v ((0:Int):Int),Enc.v ((0:Int):Int),Enc.v ((0:Int):Int),OL (α:=Int) b22 ([]:List Int)]),(b23,RV 211 [Enc.v c24,Enc.v c25]),(b31,RL (α:=Int) 3 l32),(b26,RV 50 [Enc.v c27,Enc.v c28,Enc.v c29,Enc.v c30,OL b31 l32])]∧HSub [(b22,RL (α:=Int) 3 ([]:List Int)),(b21,RV 50 [Enc.v ((0:Int):Int),Enc.v ((0:Int):Int),Enc.v ((0:Int):Int),Enc.v ((0:Int):Int),OL (α:=Int) b22 ([]:List Int)]),(b23,RV 211 [Enc.v c24,Enc.v c25]),(b31,RL (α:=Int) 3 l32),(b26,RV 50 [Enc.v c27,Enc.v c28,Enc.v c29,Enc.v c30,OL b31 l32])] h) hO20 ⟨b4,b3,b7,b18,b17,rfl,(Nd.pick nd (is:=[3,4,2,0,1]) Dc),(HSub.pick nd (is:=[3,4,2,0,1]) Dc)⟩ ?_
 rintro ⟨c24,c25,c27,c28,c29,c30,l32⟩ env h x20x ⟨b22,b21,b23,b31,b26,rfl,nd,hs⟩ hX hR20
 refine TK.subH hs ?_
 unfold X.cartridgeref10_ReadSeal_s20 at hX
 try dsimp only at hX
 refine TK.seq_k fun K49 hK49=>?_
 refine SR fun K50 hK50=>M rfl rfl ?_
 obtain ⟨r51,hr51,hX⟩:=bind_some hX
 refine TL.lookX [.vref (ofL [Enc.v c24,Enc.v c25]) 2 0] rfl rfl rfl (fun _=>⟨rfl,⟨rfl,trivial⟩⟩) ⟨look_ref (l:=[Enc.v c24,Enc.v c25]) nd (j:=2) rfl ⟨look_v (v:=Enc.v c24) (v_val _),look_v (v:=Enc.v c25) (v_val _),trivial⟩,trivial⟩ (fun e=>ok_cartridgeref1_Reader_Left c24 c25 _ hr51) (trivial) ?_
 refine P1 (p_geq rfl rfl) rfl rfl (M rfl rfl ?_)
 refine TLc.p (gc:=((decide (r51≥(4:Int))))) (p_faV fs50_4 Dc rfl nd (j:=4) rfl rfl (hg:=fun e=>rfl)) (gcT1 rfl) rfl ?_
 refine TLc.p (gc:=((decide (r51≥(4:Int))))) (p_ldV (v:=OL b31 l32) ty47 rfl rfl nd (j:=4) rfl rfl rfl rfl rfl (hg:=fun e=>e)) (gcT1 rfl) rfl ?_
 refine TLc.p (gc:=((decide (r51≥(4:Int))))) (p_lenR kd47 rfl (fun _=>refOK_of nd (j:=3) rfl rfl) (hg:=fun e=>e)) (gcT1 rfl) rfl ?_
 refine TLc.p (gc:=((decide (r51≥(4:Int))))) (p_lss rfl rfl (hg:=fun e=>⟨e,rfl⟩)) (gcT1 rfl) rfl ?_
 refine P1 (p_and rfl rfl (fun e=>⟨rfl,fun h=>h⟩)) rfl rfl (TL.nil (hK50 _ _ ?_))
 refine TK.cond (b:=((decide (r51≥(4:Int)))&&(decide ((l32.length:Int)<(14:Int))))) rfl (fun hc=>?_) (fun hc=>?_)
 ·have hX:=ite_t hc hX
  refine TK.skip ?_
  refine hK49 _ _ ?_
  refine TK.block ?_
  refine TK.pick [2,3,0,1,4] nd Dc fun nd=>?_
  have ndS:Nd [(b22,RL (α:=Int) 3 ([]:List Int)),(b21,RV 50 [Enc.v ((0:Int):Int),Enc.v ((0:Int):Int),Enc.v ((0:Int):Int),Enc.v ((0:Int):Int),OL (α:=Int) b22 ([]:List Int)]),(b26,RV 50 [Enc.v c27,Enc.v c28,Enc.v c29,Enc.v c30,OL b31 l32])]:=Nd.pick nd (is:=[2,3,4]) Dc
  refine TK.drwX (h:=[(b23,RV 211 [Enc.v c24,Enc.v c25]),(b31,RL (α:=Int) 3 l32)]) (hS:=[(b22,RL (α:=Int) 3 ([]:List Int)),(b21,RV 50 [Enc.v ((0:Int):Int),Enc.v ((0:Int):Int),Enc.v ((0:Int):Int),Enc.v ((0:Int):Int),OL (α:=Int) b22 ([]:List Int)]),(b26,RV 50 [Enc.v c27,Enc.v c28,Enc.v c29,Enc.v c30,OL b31 l32])]) [(0,0),(0,1),(0,2),(2,3),(0,4),(2,5),(0,6),(3,7)] mixed (by kernel_rfl) (HSub_app nd) ?_
  refine D0 rfl (p_faV fs50_4 Dc rfl ndS (j:=2) rfl rfl) rfl rfl ?_
  refine D0 rfl (p_ldV (v:=OL b31 l32) ty47 rfl rfl ndS (j:=2) rfl rfl rfl rfl rfl) rfl rfl ?_
  refine DM rfl rfl rfl ?_
  obtain ⟨r52,hr52,hX⟩:=bind_some hX
  refine DR2 rfl rfl ?_
  refine TL.tcX [(b23,RV 211 [Enc.v c24,Enc.v c25])] [(b31,RL (α:=Int) 3 l32),(b22,RL (α:=Int) 3 ([]:List Int)),(b21,RV 50 [Enc.v ((0:Int):Int),Enc.v ((0:Int):Int),Enc.v ((0:Int):Int),Enc.v ((0:Int):Int),OL (α:=Int) b22 ([]:List Int)]),(b26,RV 50 [Enc.v c27,Enc.v c28,Enc.v c29,Enc.v c30,OL b31 l32])] rfl nd (dlt rfl) rfl ⟨rfl,⟨rfl,trivial⟩⟩ (ok_cartridgeref1_Reader_Int c24 c25 b23 (Nd.take nd 1 rfl) _ hr52) ?_
  rintro _ _ hQ nd
  obtain ⟨rfl,rfl⟩:=hQ
  refine TL.nil ⟨_,[(b23,RV 211 [Enc.v r52.2.1,Enc.v r52.2.2]),(b31,RL (α:=Int) 3 l32)],rfl,rfl,HSub_app nd,?_⟩
  refine DR0 (gc:=true) rfl (vok_lit (C:=cx) ([r52.1]:List Int) kd47 ty3 rfl ⟨⟨rfl,rfl⟩,trivial⟩ rfl rfl) rfl rfl ?_
  obtain ⟨u54,hu54,hX⟩:=bind_some hX
  refine DR2 rfl rfl ?_
  refine TLc.appO nd kd47 bo47 ty3 rfl rfl (j:=1) rfl rfl (Src_L _) Dc (need_t hu54) rfl fun nd=>?_
  refine TL.nil ⟨_,[(b23,RV 211 [Enc.v r52.2.1,Enc.v r52.2.2]),(b31,RL (α:=Int) 3 (l32++([r52.1]:List Int)))],rfl,rfl,HSub_app nd,?_⟩
  refine D0 rfl (p_faV fs50_4 Dc rfl ndS (j:=2) rfl rfl) rfl rfl ?_
  refine DR3n rfl ?_
  refine TLc.stV (lu:=[OL (α:=Int) b31 (l32++([r52.1]:List Int))]) nd ty47 rfl (j:=4) rfl rfl rfl (Cells_rs (refOK_of nd (j:=1) rfl rfl)) rfl rfl [Enc.v c27,Enc.v c28,Enc.v c29,Enc.v c30,OL (α:=Int) b31 (l32++([r52.1]:List Int))] rfl fun nd=>?_
  refine TL.nil ⟨rfl,?_⟩
  refine DRende ?_
  exact ⟨_,(some_in hX).symm,b22,b21,b23,b31,b26,rfl,(Nd.pick nd (is:=[2,3,0,1,4]) Dc),(HSub.pick nd (is:=[2,3,0,1,4]) Dc)⟩
 ·have hX:=ite_f hc hX
  refine TK.exit ?_
  obtain rfl:=hR20 _ (some_in hX).symm
  exact E20 c27 c28 c29 c30 l32 _ _ ⟨b22,b21,b31,b26,rfl,(Nd.pick nd (is:=[0,1,3,4]) Dc),(HSub.pick nd (is:=[0,1,3,4]) Dc)⟩ hA20
end Go.Proofs.Ytndjbcnpgggddaa
