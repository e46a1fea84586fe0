import Derived.Test.YtfpldlnbhjmckaaGreatXFn
import Derived.Test.YtfpldlnbhjmckaaGreatXS
import Derived.Test.YtfpldlnbhjmckaaGreatAmK0
import Derived.Test.YtfpldlnbhjmckaaGreatAmK1
import Derived.Test.YtfpldlnbhjmckaaGreatXP1
namespace Go.Proofs.YtfpldlnbhjmckaaGreat
open Go.AM Go.AX
set_option linter.unusedVariables false
set_option maxRecDepth 20000
theorem ok_cartridgeref10_Make (data1:(List Tape_api)) (blank2:(List Tape_api)) (number3:Int) (r:((List Tape_api)×Int)) (hX:X.cartridgeref10_Make data1 blank2 number3=some r):Fun Tryz.prog 8 [Enc.v (data1:(List Tape_api)),Enc.v (blank2:(List Tape_api)),Enc.v (number3:Int)] (·= .tup 2 (ofL [Enc.v r.1,Enc.v r.2])):=by
 refine Fun.of b8 (Nat.le_of_ble_eq_true rfl) (allVal.mem ⟨(by exact (v_val _)),(by exact (v_val _)),(by exact (v_val _)),trivial⟩) ?_
 unfold k8
 have nd:Nd []:=Nd_nil
 unfold X.cartridgeref10_Make at hX
 refine SR fun K4 hK4=>M rfl rfl (M rfl rfl (TL.nil (hK4 _ _ (SR fun K5 hK5=>M rfl rfl (M rfl rfl (P1 (p_lenL (xs:=data1) kd22 rfl) rfl rfl (M rfl rfl (P1 (p_lenL (xs:=blank2) kd22 rfl) rfl rfl ?_))))))))
 refine P1 (p_bld (l:=[Enc.v number3,Enc.v ((0:Int):Int),Enc.v ((data1.length:Int):Int),Enc.v ((blank2.length:Int):Int),.nils]) ty38 rfl all38 rfl (fun _=>⟨⟨rfl,trivial,rfl⟩,⟨rfl,trivial,rfl⟩,⟨rfl,trivial,rfl⟩,trivial⟩)) rfl rfl ?_
 refine TLc.alO (l:=[Enc.v ((0:Int):Int),Enc.v ((0:Int):Int),Enc.v ((0:Int):Int),Enc.v ((0:Int):Int),.nils]) nd ty38 ti38_z rfl rfl fun b6 nd=>?_
 refine TLc.stV (lu:=[Enc.v number3,Enc.v ((0:Int):Int),Enc.v ((data1.length:Int):Int),Enc.v ((blank2.length:Int):Int),.nils]) nd ty38 rfl (j:=0) rfl rfl rfl (Cells_agg rfl (allA.mem ⟨trivial,trivial,trivial,trivial,trivial,trivial⟩)) rfl rfl [Enc.v number3,Enc.v ((0:Int):Int),Enc.v ((data1.length:Int):Int),Enc.v ((blank2.length:Int):Int),.nils] rfl fun nd=>?_
 refine TL.nil (hK5 _ _ ?_)
 refine TK.ownC (α:=Int) nd (j:=0) rfl 4 3 (.inl rfl) fun b7 nd=>?_
 refine SR fun K8 hK8=>M rfl rfl (TL.nil (hK8 _ _ (SR fun K9 hK9=>M rfl rfl ?_)))
 obtain ⟨r10,hr10,hX⟩:=bind_some hX
 refine TL.cvX rfl rfl rfl (fun _=>⟨rfl,⟨rfl,trivial⟩⟩) (fun e=>ok_cartridgeref10_StripeLen data1 _ hr10) ?_
 refine P1 (p_eql rfl rfl) rfl rfl (M rfl rfl (TL.nil (hK9 _ _ ?_)))
 refine TK.seq_k fun K11 hK11=>?_
 refine SR fun K12 hK12=>M rfl rfl (TL.nil (hK12 _ _ ?_))
 refine TK.block ?_
 obtain ⟨o13,hO13,hA13⟩:=bind_some hX
 have E13:∀(c25:Int) (c26:Int) (c27:Int) (c28:Int) (l30:List Int) (lost31:Bool) (bad32:Bool) (env:Env) (h:Hp),(∃b29 b24,keepE [0,1,8,9,10] env=[(0,true,Enc.v data1),(1,true,Enc.v blank2),(8,true,.ref b24 0 5),(9,true,Enc.v lost31),(10,true,Enc.v bad32)]∧Nd [(b29,RL (α:=Int) 3 l30),(b24,RV 38 [Enc.v c25,Enc.v c26,Enc.v c27,Enc.v c28,OL b29 l30])]∧HSub [(b29,RL (α:=Int) 3 l30),(b24,RV 38 [Enc.v c25,Enc.v c26,Enc.v c27,Enc.v c28,OL b29 l30])] h)→X.cartridgeref10_Make_e13 blank2 data1 c25 c26 c27 c28 l30 lost31 bad32=some r→K11 env h:=by
  intro c25 c26 c27 c28 l30 lost31 bad32 env h hE hX
  obtain ⟨b29,b24,henv,nd,hs⟩:=hE
  unfold X.cartridgeref10_Make_e13 at hX
  refine hK11 _ _ (TK.keep [0,1,8,9,10] ?_)
  rw[henv]
  refine TK.subH hs ?_
  refine TK.seq_k fun K33 hK33=>?_
  refine SR fun K34 hK34=>M rfl rfl (TL.nil (hK34 _ _ ?_))
  refine TK.block ?_
  obtain ⟨o35,hO35,hA35⟩:=bind_some hX
  have E35:∀(c46:Int) (c47:Int) (c48:Int) (c49:Int) (l51:List Int) (lost52:Bool) (env:Env) (h:Hp),(∃b50 b45,keepE [0,1,8,9,10] env=[(0,true,Enc.v data1),(1,true,Enc.v blank2),(8,true,.ref b45 0 5),(9,true,Enc.v lost52),(10,true,Enc.v bad32)]∧Nd [(b50,RL (α:=Int) 3 l51),(b45,RV 38 [Enc.v c46,Enc.v c47,Enc.v c48,Enc.v c49,OL b50 l51])]∧HSub [(b50,RL (α:=Int) 3 l51),(b45,RV 38 [Enc.v c46,Enc.v c47,Enc.v c48,Enc.v c49,OL b50 l51])] h)→X.cartridgeref10_Make_e35 bad32 blank2 data1 c46 c47 c48 c49 l51 lost52=some r→K33 env h:=by
   intro c46 c47 c48 c49 l51 lost52 env h hE hX
   obtain ⟨b50,b45,henv,nd,hs⟩:=hE
   unfold X.cartridgeref10_Make_e35 at hX
   refine hK33 _ _ (TK.keep [0,1,8,9,10] ?_)
   rw[henv]
   refine TK.subH hs ?_
   refine TK.seq_k fun K53 hK53=>?_
   refine SR fun K54 hK54=>?_
   refine TL.layR (l2':=[Enc.v c46,Enc.v c47,Enc.v c48,Enc.v c49,Enc.v l51]) [] nd (j:=0) rfl 1 rfl rfl ⟨fix_id _,fix_id _,fix_id _,fix_id _,fix_OL nd (j:=0) rfl,trivial⟩ trivial fun nd=>?_
   refine P1 (p_ldVa (l':=Enc.cl ((Seal_api.mk c46 c47 c48 c49 l51):Seal_api)) ty38 rfl rfl nd (j:=0) rfl rfl rfl rfl (Nat.le_of_ble_eq_true rfl)) rfl rfl ?_
   obtain ⟨r55,hr55,hX⟩:=bind_some hX
   refine TL.cvX rfl rfl rfl (fun _=>⟨rfl,⟨rfl,trivial⟩⟩) (fun e=>ok_cartridgeref10_RightSeal (Seal_api.mk c46 c47 c48 c49 l51) _ hr55) ?_
   refine P1 (p_not rfl) rfl rfl (M rfl rfl ?_)
   refine TLc.p (gc:=(!((!r55)))) (p_mv rfl (hg:=fun e=>rfl)) (gcF1 rfl) rfl ?_
   refine P1 (p_or rfl rfl (fun e=>⟨rfl,fun h=>(not_t h)⟩)) rfl rfl (M rfl rfl ?_)
   refine TLc.p (gc:=(!(((!r55)||lost52)))) (p_mv rfl (hg:=fun e=>rfl)) (gcF1 rfl) rfl ?_
   refine P1 (p_or rfl rfl (fun e=>⟨rfl,fun h=>(not_t h)⟩)) rfl rfl (TL.nil (hK54 _ _ ?_))
   refine TK.cond (b:=(((!r55)||lost52)||bad32)) rfl (fun hc=>?_) (fun hc=>?_)
   ·have hX:=ite_t hc hX
    refine SR fun K56 hK56=>M rfl rfl (M rfl rfl (TL.nil (hK56 _ _ ?_)))
    refine TK.wk 6 (L ([]:(List Tape_api))) rfl Wk_nil ?_
    refine TK.ret ?_
    try dsimp only[thenQ]
    exact retN (vs:=[Enc.v (([]:(List Tape_api)):(List Tape_api)),Enc.v ((1:Int):Int)]) ⟨rfl,rfl,trivial⟩ (by obtain rfl:=some_in hX;rfl) (allVal.mem ⟨v_val _,v_val _,trivial⟩)
   ·have hX:=ite_f hc hX
    refine TK.skip ?_
    refine hK53 _ _ ?_
    refine TK.seq_k fun K57 hK57=>?_
    refine SR fun K58 hK58=>M rfl rfl (TL.nil (hK58 _ _ ?_))
    refine TK.block ?_
    obtain ⟨o59,hO59,hA59⟩:=bind_some hX
    have E59:∀(env:Env) (h:Hp),(∃b62,keepE [0,1,8] env=[(0,true,Enc.v data1),(1,true,Enc.v blank2),(8,true,.ref b62 0 5)]∧Nd [(b62,RV 38 [Enc.v c46,Enc.v c47,Enc.v c48,Enc.v c49,Enc.v l51])]∧HSub [(b62,RV 38 [Enc.v c46,Enc.v c47,Enc.v c48,Enc.v c49,Enc.v l51])] h)→X.cartridgeref10_Make_e59 blank2 data1 c46 c47 c48 c49 l51=some r→K57 env h:=by
     intro env h hE hX
     obtain ⟨b62,henv,nd,hs⟩:=hE
     unfold X.cartridgeref10_Make_e59 at hX
     refine hK57 _ _ (TK.keep [0,1,8] ?_)
     rw[henv]
     refine TK.subH hs ?_
     refine TK.seq_k fun K63 hK63=>?_
     refine SR fun K64 hK64=>M rfl rfl (TL.nil (hK64 _ _ ?_))
     refine TK.block ?_
     obtain ⟨o65,hO65,hA65⟩:=bind_some hX
     have E65:∀(env:Env) (h:Hp),(∃b68,keepE [0,1,8] env=[(0,true,Enc.v data1),(1,true,Enc.v blank2),(8,true,.ref b68 0 5)]∧Nd [(b68,RV 38 [Enc.v c46,Enc.v c47,Enc.v c48,Enc.v c49,Enc.v l51])]∧HSub [(b68,RV 38 [Enc.v c46,Enc.v c47,Enc.v c48,Enc.v c49,Enc.v l51])] h)→X.cartridgeref10_Make_e65 data1 blank2 c46 c47 c48 c49 l51=some r→K63 env h:=by
      intro env h hE hX
      obtain ⟨b68,henv,nd,hs⟩:=hE
      unfold X.cartridgeref10_Make_e65 at hX
      refine hK63 _ _ (TK.keep [0,1,8] ?_)
      rw[henv]
      refine TK.subH hs ?_
      refine SR fun K69 hK69=>M rfl rfl (M rfl rfl (P1 (p_lenL (xs:=blank2) kd22 rfl) rfl rfl ?_))
      obtain ⟨r70,hr70,hX⟩:=bind_some hX
      refine TL.cvX rfl rfl rfl (fun _=>⟨rfl,⟨rfl,⟨rfl,trivial⟩⟩⟩) (fun e=>ok_cartridgeref10_Parity data1 (blank2.length:Int) _ hr70) ?_
      refine M rfl rfl (P1 (p_ex rfl rfl Dc) rfl rfl (P1 (p_ex rfl rfl Dc) rfl rfl (M rfl rfl (M rfl rfl (TL.nil (hK69 _ _ ?_))))))
      refine TK.seq_k fun K71 hK71=>?_
      refine SR fun K72 hK72=>M rfl rfl (P1 (p_neq rfl rfl) rfl rfl (TL.nil (hK72 _ _ ?_)))
      refine TK.cond (b:=(r70.2 !=(0:Int))) rfl (fun hc=>?_) (fun hc=>?_)
      ·have hX:=ite_t hc hX
       refine SR fun K73 hK73=>M rfl rfl (M rfl rfl (M rfl rfl (TL.nil (hK73 _ _ ?_))))
       refine TK.wk 6 (L ([]:(List Tape_api))) rfl Wk_nil ?_
       refine TK.ret ?_
       try dsimp only[thenQ]
       exact retN (vs:=[Enc.v (([]:(List Tape_api)):(List Tape_api)),Enc.v r70.2]) ⟨rfl,rfl,trivial⟩ (by obtain rfl:=some_in hX;rfl) (allVal.mem ⟨v_val _,v_val _,trivial⟩)
      ·have hX:=ite_f hc hX
       refine TK.skip ?_
       refine hK71 _ _ (SR fun K74 hK74=>M rfl rfl (TL.nil (hK74 _ _ ?_)))
       refine TK.ownL (α:=Tape_api) 20 49 nd rfl (.inl rfl) fun b75 nd=>?_
       refine TK.seq_k fun K76 hK76=>?_
       refine SR fun K77 hK77=>M rfl rfl (TL.nil (hK77 _ _ ?_))
       refine TK.block ?_
       obtain ⟨o78,hO78,hA78⟩:=bind_some hX
       have E78:∀(l89:List Tape_api) (env:Env) (h:Hp),(∃b88,keepE [20] env=[(20,true,OL b88 l89)]∧Nd [(b88,RL (α:=Tape_api) 49 l89)]∧HSub [(b88,RL (α:=Tape_api) 49 l89)] h)→X.cartridgeref10_Make_e78 l89=some r→K76 env h:=by
        intro l89 env h hE hX
        obtain ⟨b88,henv,nd,hs⟩:=hE
        unfold X.cartridgeref10_Make_e78 at hX
        refine hK76 _ _ (TK.keep [20] ?_)
        rw[henv]
        refine TK.subH hs ?_
        refine SR fun K90 hK90=>M rfl rfl (M rfl rfl (M rfl rfl (TL.nil (hK90 _ _ ?_))))
        refine TK.lay [(6,L l89)] nd (j:=0) rfl ⟨⟨_,rfl,fix_OL nd (j:=0) rfl,rfl⟩,trivial⟩ fun nd=>?_
        refine TK.ret ?_
        try dsimp only[thenQ]
        exact retN (vs:=[Enc.v l89,Enc.v ((0:Int):Int)]) ⟨rfl,rfl,trivial⟩ (by obtain rfl:=some_in hX;rfl) (allVal.mem ⟨v_val _,v_val _,trivial⟩)
       refine TK.iter [0,1,8,18,20,21] (fun s env h=>match s with|(c80,c81,c82,c83,c84,out86,i87)=>∃b79 b85,env=[(0,true,Enc.v data1),(1,true,Enc.v blank2),(8,true,.ref b79 0 5),(18,true,Enc.v (r70.1:(List (List (List UInt8))))),(20,true,OL b85 out86),(21,true,Enc.v i87)]∧Nd [(b79,RV 38 [Enc.v c80,Enc.v c81,Enc.v c82,Enc.v c83,Enc.v c84]),(b85,RL (α:=Tape_api) 49 out86)]∧HSub [(b79,RV 38 [Enc.v c80,Enc.v c81,Enc.v c82,Enc.v c83,Enc.v c84]),(b85,RL (α:=Tape_api) 49 out86)] h) hO78 ⟨b68,b75,rfl,(Nd.pick nd (is:=[1,0]) Dc),(HSub.pick nd (is:=[1,0]) Dc)⟩ ?_
       rintro ⟨c80,c81,c82,c83,c84,out86,i87⟩ env h x78x ⟨b79,b85,rfl,nd,hs⟩ hX hR78
       refine TK.subH hs ?_
       unfold X.cartridgeref10_Make_s78 at hX
       try dsimp only at hX
       refine TK.seq_k fun K91 hK91=>?_
       refine SR fun K92 hK92=>M rfl rfl (M rfl rfl (P1 (p_lenL (xs:=blank2) kd22 rfl) rfl rfl (P1 (p_lss rfl rfl) rfl rfl (TL.nil (hK92 _ _ ?_)))))
       refine TK.cond (b:=(decide (i87<(blank2.length:Int)))) rfl (fun hc=>?_) (fun hc=>?_)
       ·have hX:=ite_t hc hX
        refine TK.skip ?_
        refine hK91 _ _ ?_
        refine TK.seq_k fun K93 hK93=>?_
        refine TK.block ?_
        refine TK.seq_k fun K94 hK94=>?_
        have ndS:Nd [(b79,RV 38 [Enc.v c80,Enc.v c81,Enc.v c82,Enc.v c83,Enc.v c84]),(b85,RL (α:=Tape_api) 49 out86)]:=Nd.pick nd (is:=[0,1]) Dc
        refine TK.drwX (h:=[]) (hS:=[(b79,RV 38 [Enc.v c80,Enc.v c81,Enc.v c82,Enc.v c83,Enc.v c84]),(b85,RL (α:=Tape_api) 49 out86)]) [(0,0),(0,1),(0,2),(0,3),(0,4),(0,5),(0,6),(0,7),(0,8),(0,9),(0,10),(2,11),(2,12)] mixed (by kernel_rfl) (HSub_app nd) ?_
        refine DM rfl rfl rfl ?_
        refine DM rfl rfl rfl ?_
        obtain ⟨e95,he95,hX⟩:=bind_some hX
        refine D0 rfl (p_iaL (xs:=blank2) kd22 ty49 rfl rfl rfl (fun _=>he95)) rfl rfl ?_
        refine D0 rfl (p_faE fs49_0 Dc rfl) rfl rfl ?_
        refine D0 rfl (p_ldE (xs:=blank2) (a:=e95) (e95.Label:Int) ty3 rfl rfl (fun _=>he95) rfl rfl rfl) rfl rfl ?_
        refine DM rfl rfl rfl ?_
        refine DM rfl rfl rfl ?_
        obtain ⟨e96,he96,hX⟩:=bind_some hX
        refine D0 rfl (p_iaL (xs:=blank2) kd22 ty49 rfl rfl rfl (fun _=>he96)) rfl rfl ?_
        refine D0 rfl (p_faE fs49_1 Dc rfl) rfl rfl ?_
        refine D0 rfl (p_ldE (xs:=blank2) (a:=e96) (e96.Cap:Int) ty3 rfl rfl (fun _=>he96) rfl rfl rfl) rfl rfl ?_
        refine D0 rfl (p_bld (l:=[Enc.v e95.Label,Enc.v e96.Cap,.nils,Enc.v false]) ty49 rfl all49 rfl (fun _=>⟨⟨rfl,trivial,rfl⟩,⟨rfl,trivial,rfl⟩,trivial⟩)) rfl rfl ?_
        refine DR2 rfl rfl ?_
        refine TLc.alO (l:=[Enc.v ((0:Int):Int),Enc.v ((0:Int):Int),.nils,Enc.v false]) nd ty49 ti49_z rfl rfl fun b97 nd=>?_
        refine TL.nil ⟨_,[(b97,RV 49 [Enc.v ((0:Int):Int),Enc.v ((0:Int):Int),.nils,Enc.v false])],rfl,rfl,HSub_app nd,?_⟩
        refine DR2n rfl ?_
        refine TLc.stV (lu:=[Enc.v e95.Label,Enc.v e96.Cap,.nils,Enc.v false]) nd ty49 rfl (j:=0) rfl rfl rfl (Cells_agg rfl (allA.mem ⟨trivial,trivial,trivial,trivial,trivial⟩)) rfl rfl [Enc.v e95.Label,Enc.v e96.Cap,.nils,Enc.v false] rfl fun nd=>?_
        refine TL.nil ⟨.nilp,[(b97,RV 49 [Enc.v e95.Label,Enc.v e96.Cap,.nils,Enc.v false])],rfl,rfl,HSub_app nd,?_⟩
        refine DRend ?_
        refine hK94 _ _ ?_
        refine TK.ownC (α:=(List UInt8)) nd (j:=0) rfl 2 42 (.inl rfl) fun b98 nd=>?_
        refine TK.seq_k fun K99 hK99=>?_
        have ndS:Nd [(b97,RV 49 [Enc.v e95.Label,Enc.v e96.Cap,OL (α:=(List UInt8)) b98 ([]:List (List UInt8)),Enc.v false]),(b79,RV 38 [Enc.v c80,Enc.v c81,Enc.v c82,Enc.v c83,Enc.v c84]),(b85,RL (α:=Tape_api) 49 out86)]:=Nd.pick nd (is:=[1,2,3]) Dc
        refine TK.drwX (h:=[(b98,RL (α:=(List UInt8)) 42 ([]:List (List UInt8)))]) (hS:=[(b97,RV 49 [Enc.v e95.Label,Enc.v e96.Cap,OL (α:=(List UInt8)) b98 ([]:List (List UInt8)),Enc.v false]),(b79,RV 38 [Enc.v c80,Enc.v c81,Enc.v c82,Enc.v c83,Enc.v c84]),(b85,RL (α:=Tape_api) 49 out86)]) [(0,0),(0,1),(0,2),(0,3),(2,4),(2,5),(0,6),(0,7),(2,8),(0,9),(3,10)] mixed (by kernel_rfl) (HSub_app nd) ?_
        refine D0 rfl (p_faV fs49_2 Dc rfl ndS (j:=0) rfl rfl) rfl rfl ?_
        refine D0 rfl (p_ldV (v:=OL (α:=(List UInt8)) b98 ([]:List (List UInt8))) ty47 rfl rfl ndS (j:=0) rfl rfl rfl rfl rfl) rfl rfl ?_
        refine D0 rfl (p_faV fs49_0 Dc rfl ndS (j:=0) rfl rfl) rfl rfl ?_
        refine D0 rfl (p_ldV (v:=Enc.v e95.Label) ty3 rfl rfl ndS (j:=0) rfl rfl rfl rfl rfl) rfl rfl ?_
        refine DR2 rfl rfl ?_
        refine TLc.litO nd ([(80:UInt8)]:List UInt8) kd42 ty5 rfl ⟨⟨rfl,rfl⟩,trivial⟩ rfl rfl rfl fun b100 nd=>?_
        refine TL.nil ⟨_,[(b100,RL (α:=UInt8) 5 ([(80:UInt8)]:List UInt8)),(b98,RL (α:=(List UInt8)) 42 ([]:List (List UInt8)))],rfl,rfl,HSub_app nd,?_⟩
        refine DR2 rfl rfl ?_
        refine TLc.cvtF (xs:=([(80:UInt8)]:List UInt8)) nd kd42 kd5 rfl (j:=0) rfl (by simp) rfl fun nd=>?_
        refine TL.nil ⟨_,[(b98,RL (α:=(List UInt8)) 42 ([]:List (List UInt8)))],rfl,rfl,HSub_app nd,?_⟩
        obtain ⟨r101,hr101,hX⟩:=bind_some hX
        refine DR0 (gc:=true) rfl (vok_c rfl (fun _=>⟨rfl,⟨rfl,⟨rfl,⟨rfl,⟨rfl,trivial⟩⟩⟩⟩⟩) (fun e=>ok_cartridgeref10_frame (1:Int) e95.Label (0:Int) ([(80:UInt8)]:List UInt8) _ hr101)) rfl rfl ?_
        refine DR0 (gc:=true) rfl (vok_lit (C:=cx) ([r101]:List (List UInt8)) kd47 ty42 rfl ⟨⟨rfl,rfl⟩,trivial⟩ rfl rfl) rfl rfl ?_
        obtain ⟨u102,hu102,hX⟩:=bind_some hX
        refine DR2 rfl rfl ?_
        refine TLc.appO nd kd47 bo47 ty42 rfl rfl (j:=0) rfl rfl (Src_L _) Dc (need_t hu102) rfl fun nd=>?_
        refine TL.nil ⟨_,[(b98,RL (α:=(List UInt8)) 42 (([]:List (List UInt8))++([r101]:List (List UInt8))))],rfl,rfl,HSub_app nd,?_⟩
        refine D0 rfl (p_faV fs49_2 Dc rfl ndS (j:=0) rfl rfl) rfl rfl ?_
        refine DR3n rfl ?_
        refine TLc.stV (lu:=[OL (α:=(List UInt8)) b98 (([]:List (List UInt8))++([r101]:List (List UInt8)))]) nd ty47 rfl (j:=1) rfl rfl rfl (Cells_rs (refOK_of nd (j:=0) rfl rfl)) rfl rfl [Enc.v e95.Label,Enc.v e96.Cap,OL (α:=(List UInt8)) b98 (([]:List (List UInt8))++([r101]:List (List UInt8))),Enc.v false] rfl fun nd=>?_
        refine TL.nil ⟨rfl,?_⟩
        refine DRende ?_
        refine hK99 _ _ ?_
        refine TK.seq_k fun K103 hK103=>?_
        refine SR fun K104 hK104=>M rfl rfl (TL.nil (hK104 _ _ ?_))
        refine TK.block ?_
        obtain ⟨o105,hO105,hA105⟩:=bind_some hX
        have E105:∀(c118:Int) (c119:Int) (l121:List (List UInt8)) (c122:Bool) (env:Env) (h:Hp),(∃b115 b116 b120 b117,keepE [0,1,8,18,20,21,22] env=[(0,true,Enc.v data1),(1,true,Enc.v blank2),(8,true,.ref b115 0 5),(18,true,Enc.v (r70.1:(List (List (List UInt8))))),(20,true,OL b116 out86),(21,true,Enc.v i87),(22,true,.ref b117 0 4)]∧Nd [(b115,RV 38 [Enc.v c80,Enc.v c81,Enc.v c82,Enc.v c83,Enc.v c84]),(b116,RL (α:=Tape_api) 49 out86),(b120,RL (α:=(List UInt8)) 42 l121),(b117,RV 49 [Enc.v c118,Enc.v c119,OL b120 l121,Enc.v c122])]∧HSub [(b115,RV 38 [Enc.v c80,Enc.v c81,Enc.v c82,Enc.v c83,Enc.v c84]),(b116,RL (α:=Tape_api) 49 out86),(b120,RL (α:=(List UInt8)) 42 l121),(b117,RV 49 [Enc.v c118,Enc.v c119,OL b120 l121,Enc.v c122])] h)→X.cartridgeref10_Make_e105 r70 i87 c80 data1 c82 c83 c84 out86 c118 c119 l121 c122=some x78x→K103 env h:=by
         intro c118 c119 l121 c122 env h hE hX
         obtain ⟨b115,b116,b120,b117,henv,nd,hs⟩:=hE
         unfold X.cartridgeref10_Make_e105 at hX
         refine hK103 _ _ (TK.keep [0,1,8,18,20,21,22] ?_)
         rw[henv]
         refine TK.subH hs ?_
         refine SR fun K123 hK123=>M rfl rfl (P1 (p_lenL (xs:=data1) kd22 rfl) rfl rfl (M rfl rfl (P1 (p_add rfl rfl) rfl rfl (P1 (p_faV fs38_1 Dc rfl nd (j:=0) rfl rfl) rfl rfl ?_))))
         refine TLc.stV (lu:=Enc.cl ((wr ((data1.length:Int)+i87)):Int)) nd ty3 rfl (j:=0) rfl rfl rfl (Cells_v ((wr ((data1.length:Int)+i87)):Int)) rfl rfl [Enc.v c80,Enc.v ((wr ((data1.length:Int)+i87)):Int),Enc.v c82,Enc.v c83,Enc.v c84] rfl fun nd=>?_
         refine TL.nil (hK123 _ _ ?_)
         refine TK.seq_k fun K124 hK124=>?_
         refine TK.pick [2,0,1,3] nd Dc fun nd=>?_
         have ndS:Nd [(b115,RV 38 [Enc.v c80,Enc.v ((wr ((data1.length:Int)+i87)):Int),Enc.v c82,Enc.v c83,Enc.v c84]),(b116,RL (α:=Tape_api) 49 out86),(b117,RV 49 [Enc.v c118,Enc.v c119,OL b120 l121,Enc.v c122])]:=Nd.pick nd (is:=[1,2,3]) Dc
         refine TK.drwX (h:=[(b120,RL (α:=(List UInt8)) 42 l121)]) (hS:=[(b115,RV 38 [Enc.v c80,Enc.v ((wr ((data1.length:Int)+i87)):Int),Enc.v c82,Enc.v c83,Enc.v c84]),(b116,RL (α:=Tape_api) 49 out86),(b117,RV 49 [Enc.v c118,Enc.v c119,OL b120 l121,Enc.v c122])]) [(0,0),(0,1),(0,2),(0,3),(0,4),(0,5),(0,6),(0,7),(0,8),(0,9),(0,10),(0,11),(0,12),(0,13),(2,14),(0,15),(3,16)] mixed (by kernel_rfl) (HSub_app nd) ?_
         refine D0 rfl (p_faV fs49_2 Dc rfl ndS (j:=2) rfl rfl) rfl rfl ?_
         refine D0 rfl (p_ldV (v:=OL b120 l121) ty47 rfl rfl ndS (j:=2) rfl rfl rfl rfl rfl) rfl rfl ?_
         refine D0 rfl (p_faV fs49_0 Dc rfl ndS (j:=2) rfl rfl) rfl rfl ?_
         refine D0 rfl (p_ldV (v:=Enc.v c118) ty3 rfl rfl ndS (j:=2) rfl rfl rfl rfl rfl) rfl rfl ?_
         refine DM rfl rfl rfl ?_
         refine DM rfl rfl rfl ?_
         obtain ⟨e125,he125,hX⟩:=bind_some hX
         refine D0 rfl (p_iaL (xs:=r70.1) kd54 ty47 rfl rfl rfl (fun _=>he125)) rfl rfl ?_
         refine D0 rfl (p_ldE (xs:=r70.1) (a:=e125) (e125:(List (List UInt8))) ty47 rfl rfl (fun _=>he125) rfl rfl rfl) rfl rfl ?_
         refine D0 rfl (p_lenL (xs:=e125) kd47 rfl) rfl rfl ?_
         refine D0 rfl (p_add rfl rfl) rfl rfl ?_
         refine D0 rfl (p_ldVa (l':=Enc.cl ((Seal_api.mk c80 (wr ((data1.length:Int)+i87)) c82 c83 c84):Seal_api)) ty38 rfl rfl ndS (j:=0) rfl rfl rfl rfl (Nat.le_of_ble_eq_true rfl)) rfl rfl ?_
         obtain ⟨r126,hr126,hX⟩:=bind_some hX
         refine DR0 (gc:=true) rfl (vok_c rfl (fun _=>⟨rfl,⟨rfl,trivial⟩⟩) (fun e=>ok_cartridgeref10_SealBytes (Seal_api.mk c80 (wr ((data1.length:Int)+i87)) c82 c83 c84) _ hr126)) rfl rfl ?_
         obtain ⟨r127,hr127,hX⟩:=bind_some hX
         refine DR0 (gc:=true) rfl (vok_c rfl (fun _=>⟨rfl,⟨rfl,⟨rfl,⟨rfl,⟨rfl,trivial⟩⟩⟩⟩⟩) (fun e=>ok_cartridgeref10_frame (5:Int) c118 (wr ((e125.length:Int)+(1:Int))) r126 _ hr127)) rfl rfl ?_
         refine DR0 (gc:=true) rfl (vok_lit (C:=cx) ([r127]:List (List UInt8)) kd47 ty42 rfl ⟨⟨rfl,rfl⟩,trivial⟩ rfl rfl) rfl rfl ?_
         obtain ⟨u128,hu128,hX⟩:=bind_some hX
         refine DR2 rfl rfl ?_
         refine TLc.appO nd kd47 bo47 ty42 rfl rfl (j:=0) rfl rfl (Src_L _) Dc (need_t hu128) rfl fun nd=>?_
         refine TL.nil ⟨_,[(b120,RL (α:=(List UInt8)) 42 (l121++([r127]:List (List UInt8))))],rfl,rfl,HSub_app nd,?_⟩
         refine D0 rfl (p_faV fs49_2 Dc rfl ndS (j:=2) rfl rfl) rfl rfl ?_
         refine DR3n rfl ?_
         refine TLc.stV (lu:=[OL (α:=(List UInt8)) b120 (l121++([r127]:List (List UInt8)))]) nd ty47 rfl (j:=3) rfl rfl rfl (Cells_rs (refOK_of nd (j:=0) rfl rfl)) rfl rfl [Enc.v c118,Enc.v c119,OL (α:=(List UInt8)) b120 (l121++([r127]:List (List UInt8))),Enc.v c122] rfl fun nd=>?_
         refine TL.nil ⟨rfl,?_⟩
         refine DRende ?_
         refine hK124 _ _ ?_
         refine TK.reg ?_
         refine M rfl rfl ?_
         refine TL.layR (l2':=[Enc.v c118,Enc.v c119,Enc.v ((l121++([r127]:List (List UInt8))):(List (List UInt8))),Enc.v c122]) [] nd (j:=0) rfl 3 rfl rfl ⟨fix_id _,fix_id _,fix_OL nd (j:=0) rfl,fix_id _,trivial⟩ trivial fun nd=>?_
         refine P1 (p_ldVa (l':=Enc.cl ((Tape_api.mk c118 c119 (l121++([r127]:List (List UInt8))) c122):Tape_api)) ty49 rfl rfl nd (j:=2) rfl rfl rfl rfl (Nat.le_of_ble_eq_true rfl)) rfl rfl ?_
         refine TLc.lit ([(Tape_api.mk c118 c119 (l121++([r127]:List (List UInt8))) c122)]:List Tape_api) kd22 ty49 rfl ⟨⟨rfl,rfl⟩,trivial⟩ rfl rfl rfl ?_
         obtain ⟨u129,hu129,hX⟩:=bind_some hX
         refine TLc.appO nd kd22 bo22 ty49 rfl rfl (j:=1) rfl rfl (Src_L _) Dc (need_t hu129) rfl fun nd=>?_
         refine M rfl rfl (TL.nil (hK93 _ _ ?_))
         refine TK.reg ?_
         refine M rfl rfl (P1 (p_add rfl rfl) rfl rfl (M rfl rfl (TL.nil ?_)))
         exact ⟨_,(some_in hX).symm,b115,b116,rfl,(Nd.pick nd (is:=[0,1]) Dc),(HSub.pick nd (is:=[0,1]) Dc)⟩
        refine TK.iter [0,1,8,18,20,21,22,23] (fun s env h=>match s with|(c109,c110,l112,c113,n114)=>∃b106 b107 b111 b108,env=[(0,true,Enc.v data1),(1,true,Enc.v blank2),(8,true,.ref b106 0 5),(18,true,Enc.v (r70.1:(List (List (List UInt8))))),(20,true,OL b107 out86),(21,true,Enc.v i87),(22,true,.ref b108 0 4),(23,true,Enc.v n114)]∧Nd [(b106,RV 38 [Enc.v c80,Enc.v c81,Enc.v c82,Enc.v c83,Enc.v c84]),(b107,RL (α:=Tape_api) 49 out86),(b111,RL (α:=(List UInt8)) 42 l112),(b108,RV 49 [Enc.v c109,Enc.v c110,OL b111 l112,Enc.v c113])]∧HSub [(b106,RV 38 [Enc.v c80,Enc.v c81,Enc.v c82,Enc.v c83,Enc.v c84]),(b107,RL (α:=Tape_api) 49 out86),(b111,RL (α:=(List UInt8)) 42 l112),(b108,RV 49 [Enc.v c109,Enc.v c110,OL b111 l112,Enc.v c113])] h) hO105 ⟨b79,b85,b98,b97,rfl,(Nd.pick nd (is:=[2,3,0,1]) Dc),(HSub.pick nd (is:=[2,3,0,1]) Dc)⟩ ?_
        rintro ⟨c109,c110,l112,c113,n114⟩ env h x105x ⟨b106,b107,b111,b108,rfl,nd,hs⟩ hX hR105
        refine TK.subH hs ?_
        unfold X.cartridgeref10_Make_s105 at hX
        try dsimp only at hX
        refine TK.seq_k fun K130 hK130=>?_
        refine SR fun K131 hK131=>M rfl rfl (M rfl rfl (M rfl rfl ?_))
        obtain ⟨e132,he132,hX⟩:=bind_some hX
        refine P1 (p_iaL (xs:=r70.1) kd54 ty47 rfl rfl rfl (fun _=>he132)) rfl rfl (P1 (p_ldE (xs:=r70.1) (a:=e132) (e132:(List (List UInt8))) ty47 rfl rfl (fun _=>he132) rfl rfl rfl) rfl rfl (P1 (p_lenL (xs:=e132) kd47 rfl) rfl rfl (P1 (p_lss rfl rfl) rfl rfl (TL.nil (hK131 _ _ ?_)))))
        refine TK.cond (b:=(decide (n114<(e132.length:Int)))) rfl (fun hc=>?_) (fun hc=>?_)
        ·have hX:=ite_t hc hX
         refine TK.skip ?_
         refine hK130 _ _ ?_
         refine TK.seq_k fun K133 hK133=>?_
         refine TK.block ?_
         refine TK.pick [2,0,1,3] nd Dc fun nd=>?_
         have ndS:Nd [(b106,RV 38 [Enc.v c80,Enc.v c81,Enc.v c82,Enc.v c83,Enc.v c84]),(b107,RL (α:=Tape_api) 49 out86),(b108,RV 49 [Enc.v c109,Enc.v c110,OL b111 l112,Enc.v c113])]:=Nd.pick nd (is:=[1,2,3]) Dc
         refine TK.drwX (h:=[(b111,RL (α:=(List UInt8)) 42 l112)]) (hS:=[(b106,RV 38 [Enc.v c80,Enc.v c81,Enc.v c82,Enc.v c83,Enc.v c84]),(b107,RL (α:=Tape_api) 49 out86),(b108,RV 49 [Enc.v c109,Enc.v c110,OL b111 l112,Enc.v c113])]) [(0,0),(0,1),(0,2),(0,3),(0,4),(0,5),(0,6),(0,7),(0,8),(0,9),(0,10),(0,11),(0,12),(0,13),(0,14),(2,15),(0,16),(3,17)] mixed (by kernel_rfl) (HSub_app nd) ?_
         refine D0 rfl (p_faV fs49_2 Dc rfl ndS (j:=2) rfl rfl) rfl rfl ?_
         refine D0 rfl (p_ldV (v:=OL b111 l112) ty47 rfl rfl ndS (j:=2) rfl rfl rfl rfl rfl) rfl rfl ?_
         refine D0 rfl (p_faV fs49_0 Dc rfl ndS (j:=2) rfl rfl) rfl rfl ?_
         refine D0 rfl (p_ldV (v:=Enc.v c109) ty3 rfl rfl ndS (j:=2) rfl rfl rfl rfl rfl) rfl rfl ?_
         refine DM rfl rfl rfl ?_
         refine D0 rfl (p_add rfl rfl) rfl rfl ?_
         refine DM rfl rfl rfl ?_
         refine DM rfl rfl rfl ?_
         obtain ⟨e134,he134,hX⟩:=bind_some hX
         refine D0 rfl (p_iaL (xs:=r70.1) kd54 ty47 rfl rfl rfl (fun _=>he134)) rfl rfl ?_
         refine D0 rfl (p_ldE (xs:=r70.1) (a:=e134) (e134:(List (List UInt8))) ty47 rfl rfl (fun _=>he134) rfl rfl rfl) rfl rfl ?_
         refine DM rfl rfl rfl ?_
         obtain ⟨e135,he135,hX⟩:=bind_some hX
         refine D0 rfl (p_iaL (xs:=e134) kd47 ty42 rfl rfl rfl (fun _=>he135)) rfl rfl ?_
         refine D0 rfl (p_ldE (xs:=e134) (a:=e135) (e135:(List UInt8)) ty42 rfl rfl (fun _=>he135) rfl rfl rfl) rfl rfl ?_
         obtain ⟨r136,hr136,hX⟩:=bind_some hX
         refine DR0 (gc:=true) rfl (vok_c rfl (fun _=>⟨rfl,⟨rfl,⟨rfl,⟨rfl,⟨rfl,trivial⟩⟩⟩⟩⟩) (fun e=>ok_cartridgeref10_frame (6:Int) c109 (wr (n114+(1:Int))) e135 _ hr136)) rfl rfl ?_
         refine DR0 (gc:=true) rfl (vok_lit (C:=cx) ([r136]:List (List UInt8)) kd47 ty42 rfl ⟨⟨rfl,rfl⟩,trivial⟩ rfl rfl) rfl rfl ?_
         obtain ⟨u137,hu137,hX⟩:=bind_some hX
         refine DR2 rfl rfl ?_
         refine TLc.appO nd kd47 bo47 ty42 rfl rfl (j:=0) rfl rfl (Src_L _) Dc (need_t hu137) rfl fun nd=>?_
         refine TL.nil ⟨_,[(b111,RL (α:=(List UInt8)) 42 (l112++([r136]:List (List UInt8))))],rfl,rfl,HSub_app nd,?_⟩
         refine D0 rfl (p_faV fs49_2 Dc rfl ndS (j:=2) rfl rfl) rfl rfl ?_
         refine DR3n rfl ?_
         refine TLc.stV (lu:=[OL (α:=(List UInt8)) b111 (l112++([r136]:List (List UInt8)))]) nd ty47 rfl (j:=3) rfl rfl rfl (Cells_rs (refOK_of nd (j:=0) rfl rfl)) rfl rfl [Enc.v c109,Enc.v c110,OL (α:=(List UInt8)) b111 (l112++([r136]:List (List UInt8))),Enc.v c113] rfl fun nd=>?_
         refine TL.nil ⟨rfl,?_⟩
         refine DRende ?_
         refine hK133 _ _ ?_
         refine TK.reg ?_
         refine M rfl rfl (P1 (p_add rfl rfl) rfl rfl (M rfl rfl (TL.nil ?_)))
         exact ⟨_,(some_in hX).symm,b106,b107,b111,b108,rfl,(Nd.pick nd (is:=[1,2,0,3]) Dc),(HSub.pick nd (is:=[1,2,0,3]) Dc)⟩
        ·have hX:=ite_f hc hX
         refine TK.exit ?_
         obtain rfl:=hR105 _ (some_in hX).symm
         exact E105 c109 c110 l112 c113 _ _ ⟨b106,b107,b111,b108,rfl,(Nd.pick nd (is:=[0,1,2,3]) Dc),(HSub.pick nd (is:=[0,1,2,3]) Dc)⟩ hA105
       ·have hX:=ite_f hc hX
        refine TK.exit ?_
        obtain rfl:=hR78 _ (some_in hX).symm
        exact E78 out86 _ _ ⟨b85,rfl,(Nd.pick nd (is:=[1]) Dc),(HSub.pick nd (is:=[1]) Dc)⟩ hA78
     refine TK.iter [0,1,8,17] (fun s env h=>match s with|i67=>∃b66,env=[(0,true,Enc.v data1),(1,true,Enc.v blank2),(8,true,.ref b66 0 5),(17,true,Enc.v i67)]∧Nd [(b66,RV 38 [Enc.v c46,Enc.v c47,Enc.v c48,Enc.v c49,Enc.v l51])]∧HSub [(b66,RV 38 [Enc.v c46,Enc.v c47,Enc.v c48,Enc.v c49,Enc.v l51])] h) hO65 ⟨b62,rfl,(Nd.pick nd (is:=[0]) Dc),(HSub.pick nd (is:=[0]) Dc)⟩ ?_
     rintro i67 env h x65x ⟨b66,rfl,nd,hs⟩ hX hR65
     refine TK.subH hs ?_
     unfold X.cartridgeref10_Make_s65 at hX
     try dsimp only at hX
     refine TK.seq_k fun K138 hK138=>?_
     refine SR fun K139 hK139=>M rfl rfl (M rfl rfl (P1 (p_lenL (xs:=blank2) kd22 rfl) rfl rfl (P1 (p_lss rfl rfl) rfl rfl (TL.nil (hK139 _ _ ?_)))))
     refine TK.cond (b:=(decide (i67<(blank2.length:Int)))) rfl (fun hc=>?_) (fun hc=>?_)
     ·have hX:=ite_t hc hX
      refine TK.skip ?_
      refine hK138 _ _ ?_
      refine TK.seq_k fun K140 hK140=>?_
      refine TK.block ?_
      refine TK.seq_k fun K141 hK141=>?_
      have ndS:Nd [(b66,RV 38 [Enc.v c46,Enc.v c47,Enc.v c48,Enc.v c49,Enc.v l51])]:=Nd.pick nd (is:=[0]) Dc
      refine TK.drwX (h:=[]) (hS:=[(b66,RV 38 [Enc.v c46,Enc.v c47,Enc.v c48,Enc.v c49,Enc.v l51])]) [(0,0),(0,1),(0,2),(0,3),(0,4),(0,5),(0,6),(0,7),(0,8)] mixed (by kernel_rfl) (HSub_app nd) ?_
      refine DM rfl rfl rfl ?_
      obtain ⟨r142,hr142,hX⟩:=bind_some hX
      refine DR0 (gc:=true) rfl (vok_c rfl (fun _=>⟨rfl,⟨rfl,trivial⟩⟩) (fun e=>ok_cartridgeref10_StripeLen data1 _ hr142)) rfl rfl ?_
      refine D0 rfl (p_add rfl rfl) rfl rfl ?_
      refine DM rfl rfl rfl ?_
      refine DM rfl rfl rfl ?_
      obtain ⟨e143,he143,hX⟩:=bind_some hX
      refine D0 rfl (p_iaL (xs:=blank2) kd22 ty49 rfl rfl rfl (fun _=>he143)) rfl rfl ?_
      refine D0 rfl (p_faE fs49_1 Dc rfl) rfl rfl ?_
      refine D0 rfl (p_ldE (xs:=blank2) (a:=e143) (e143.Cap:Int) ty3 rfl rfl (fun _=>he143) rfl rfl rfl) rfl rfl ?_
      refine D0 rfl (p_gtr rfl rfl) rfl rfl ?_
      refine DRend ?_
      refine hK141 _ _ ?_
      refine TK.cond (b:=(decide ((wr (r142+(2:Int)))>e143.Cap))) rfl (fun hc=>?_) (fun hc=>?_)
      ·have hX:=ite_t hc hX
       refine SR fun K144 hK144=>M rfl rfl (M rfl rfl (TL.nil (hK144 _ _ ?_)))
       refine TK.wk 6 (L ([]:(List Tape_api))) rfl Wk_nil ?_
       refine TK.ret ?_
       obtain rfl:=hR65 _ (some_in hX).symm
       replace hX:=hA65
       try dsimp only[thenQ]
       exact retN (vs:=[Enc.v (([]:(List Tape_api)):(List Tape_api)),Enc.v ((6:Int):Int)]) ⟨rfl,rfl,trivial⟩ (by obtain rfl:=some_in hX;rfl) (allVal.mem ⟨v_val _,v_val _,trivial⟩)
      ·have hX:=ite_f hc hX
       refine TK.skip ?_
       refine hK140 _ _ ?_
       refine TK.reg ?_
       refine M rfl rfl (P1 (p_add rfl rfl) rfl rfl (M rfl rfl (TL.nil ?_)))
       exact ⟨_,(some_in hX).symm,b66,rfl,(Nd.pick nd (is:=[0]) Dc),(HSub.pick nd (is:=[0]) Dc)⟩
     ·have hX:=ite_f hc hX
      refine TK.exit ?_
      obtain rfl:=hR65 _ (some_in hX).symm
      exact E65 _ _ ⟨b66,rfl,(Nd.pick nd (is:=[0]) Dc),(HSub.pick nd (is:=[0]) Dc)⟩ hA65
    refine TK.iter [0,1,8,16] (fun s env h=>match s with|i61=>∃b60,env=[(0,true,Enc.v data1),(1,true,Enc.v blank2),(8,true,.ref b60 0 5),(16,true,Enc.v i61)]∧Nd [(b60,RV 38 [Enc.v c46,Enc.v c47,Enc.v c48,Enc.v c49,Enc.v l51])]∧HSub [(b60,RV 38 [Enc.v c46,Enc.v c47,Enc.v c48,Enc.v c49,Enc.v l51])] h) hO59 ⟨b45,rfl,(Nd.pick nd (is:=[0]) Dc),(HSub.pick nd (is:=[0]) Dc)⟩ ?_
    rintro i61 env h x59x ⟨b60,rfl,nd,hs⟩ hX hR59
    refine TK.subH hs ?_
    unfold X.cartridgeref10_Make_s59 at hX
    try dsimp only at hX
    refine TK.seq_k fun K145 hK145=>?_
    refine SR fun K146 hK146=>M rfl rfl (M rfl rfl (P1 (p_lenL (xs:=blank2) kd22 rfl) rfl rfl (P1 (p_lss rfl rfl) rfl rfl (TL.nil (hK146 _ _ ?_)))))
    refine TK.cond (b:=(decide (i61<(blank2.length:Int)))) rfl (fun hc=>?_) (fun hc=>?_)
    ·have hX:=ite_t hc hX
     refine TK.skip ?_
     refine hK145 _ _ ?_
     refine TK.seq_k fun K147 hK147=>?_
     refine TK.block ?_
     refine SR fun K148 hK148=>M rfl rfl (M rfl rfl ?_)
     obtain ⟨e149,he149,hX⟩:=bind_some hX
     refine P1 (p_iaL (xs:=blank2) kd22 ty49 rfl rfl rfl (fun _=>he149)) rfl rfl (P1 (p_faE fs49_2 Dc rfl) rfl rfl (P1 (p_ldE (xs:=blank2) (a:=e149) (e149.Blocks:(List (List UInt8))) ty47 rfl rfl (fun _=>he149) rfl rfl rfl) rfl rfl (P1 (p_lenL (xs:=e149.Blocks) kd47 rfl) rfl rfl (P1 (p_gtr rfl rfl) rfl rfl (TL.nil (hK148 _ _ ?_))))))
     refine TK.cond (b:=(decide ((e149.Blocks.length:Int)>(0:Int)))) rfl (fun hc=>?_) (fun hc=>?_)
     ·have hX:=ite_t hc hX
      refine SR fun K150 hK150=>M rfl rfl (M rfl rfl (TL.nil (hK150 _ _ ?_)))
      refine TK.wk 6 (L ([]:(List Tape_api))) rfl Wk_nil ?_
      refine TK.ret ?_
      obtain rfl:=hR59 _ (some_in hX).symm
      replace hX:=hA59
      try dsimp only[thenQ]
      exact retN (vs:=[Enc.v (([]:(List Tape_api)):(List Tape_api)),Enc.v ((11:Int):Int)]) ⟨rfl,rfl,trivial⟩ (by obtain rfl:=some_in hX;rfl) (allVal.mem ⟨v_val _,v_val _,trivial⟩)
     ·have hX:=ite_f hc hX
      refine TK.skip ?_
      refine hK147 _ _ ?_
      refine TK.reg ?_
      refine M rfl rfl (P1 (p_add rfl rfl) rfl rfl (M rfl rfl (TL.nil ?_)))
      exact ⟨_,(some_in hX).symm,b60,rfl,(Nd.pick nd (is:=[0]) Dc),(HSub.pick nd (is:=[0]) Dc)⟩
    ·have hX:=ite_f hc hX
     refine TK.exit ?_
     obtain rfl:=hR59 _ (some_in hX).symm
     exact E59 _ _ ⟨b60,rfl,(Nd.pick nd (is:=[0]) Dc),(HSub.pick nd (is:=[0]) Dc)⟩ hA59
  refine TK.iter [0,1,8,9,10,15] (fun s env h=>match s with|(c37,c38,c39,c40,l42,lost43,i44)=>∃b41 b36,env=[(0,true,Enc.v data1),(1,true,Enc.v blank2),(8,true,.ref b36 0 5),(9,true,Enc.v lost43),(10,true,Enc.v bad32),(15,true,Enc.v i44)]∧Nd [(b41,RL (α:=Int) 3 l42),(b36,RV 38 [Enc.v c37,Enc.v c38,Enc.v c39,Enc.v c40,OL b41 l42])]∧HSub [(b41,RL (α:=Int) 3 l42),(b36,RV 38 [Enc.v c37,Enc.v c38,Enc.v c39,Enc.v c40,OL b41 l42])] h) hO35 ⟨b29,b24,rfl,(Nd.pick nd (is:=[0,1]) Dc),(HSub.pick nd (is:=[0,1]) Dc)⟩ ?_
  rintro ⟨c37,c38,c39,c40,l42,lost43,i44⟩ env h x35x ⟨b41,b36,rfl,nd,hs⟩ hX hR35
  refine TK.subH hs ?_
  unfold X.cartridgeref10_Make_s35 at hX
  try dsimp only at hX
  refine TK.seq_k fun K151 hK151=>?_
  refine SR fun K152 hK152=>M rfl rfl (M rfl rfl (P1 (p_lenL (xs:=blank2) kd22 rfl) rfl rfl (P1 (p_lss rfl rfl) rfl rfl (TL.nil (hK152 _ _ ?_)))))
  refine TK.cond (b:=(decide (i44<(blank2.length:Int)))) rfl (fun hc=>?_) (fun hc=>?_)
  ·have hX:=ite_t hc hX
   refine TK.skip ?_
   refine hK151 _ _ ?_
   refine TK.seq_k fun K153 hK153=>?_
   refine TK.block ?_
   refine TK.seq_k fun K154 hK154=>?_
   have ndS:Nd []:=Nd.pick nd (is:=[]) Dc
   refine TK.drwX (h:=[(b41,RL (α:=Int) 3 l42),(b36,RV 38 [Enc.v c37,Enc.v c38,Enc.v c39,Enc.v c40,OL b41 l42])]) (hS:=[]) [(1,0),(1,1),(0,2),(0,3),(0,4),(0,5),(0,6),(0,7),(2,8),(1,9),(2,10)] mixed (by kernel_rfl) (HSub_app nd) ?_
   refine DR1 (gc:=true) rfl (vok_p (C:=cx) (p_faV fs38_4 Dc rfl nd (j:=1) rfl rfl)) rfl rfl ?_
   refine DR1 (gc:=true) rfl (vok_p (C:=cx) (p_ldV (v:=OL b41 l42) ty36 rfl rfl nd (j:=1) rfl rfl rfl rfl rfl)) rfl rfl ?_
   refine DM rfl rfl rfl ?_
   refine DM rfl rfl rfl ?_
   obtain ⟨e155,he155,hX⟩:=bind_some hX
   refine D0 rfl (p_iaL (xs:=blank2) kd22 ty49 rfl rfl rfl (fun _=>he155)) rfl rfl ?_
   refine D0 rfl (p_faE fs49_0 Dc rfl) rfl rfl ?_
   refine D0 rfl (p_ldE (xs:=blank2) (a:=e155) (e155.Label:Int) ty3 rfl rfl (fun _=>he155) rfl rfl rfl) rfl rfl ?_
   refine DR0 (gc:=true) rfl (vok_lit (C:=cx) ([e155.Label]:List Int) kd36 ty3 rfl ⟨⟨rfl,rfl⟩,trivial⟩ rfl rfl) rfl rfl ?_
   obtain ⟨u156,hu156,hX⟩:=bind_some hX
   refine DR2 rfl rfl ?_
   refine TLc.appO nd kd36 bo36 ty3 rfl rfl (j:=0) rfl rfl (Src_L _) Dc (need_t hu156) rfl fun nd=>?_
   refine TL.nil ⟨_,[(b41,RL (α:=Int) 3 (l42++([e155.Label]:List Int))),(b36,RV 38 [Enc.v c37,Enc.v c38,Enc.v c39,Enc.v c40,OL b41 l42])],rfl,rfl,HSub_app nd,?_⟩
   refine DR1 (gc:=true) rfl (vok_p (C:=cx) (p_faV fs38_4 Dc rfl nd (j:=1) rfl rfl)) rfl rfl ?_
   refine DR2n rfl ?_
   refine TLc.stV (lu:=[OL (α:=Int) b41 (l42++([e155.Label]:List Int))]) nd ty36 rfl (j:=1) rfl rfl rfl (Cells_rs (refOK_of nd (j:=0) rfl rfl)) rfl rfl [Enc.v c37,Enc.v c38,Enc.v c39,Enc.v c40,OL (α:=Int) b41 (l42++([e155.Label]:List Int))] rfl fun nd=>?_
   refine TL.nil ⟨.nilp,[(b41,RL (α:=Int) 3 (l42++([e155.Label]:List Int))),(b36,RV 38 [Enc.v c37,Enc.v c38,Enc.v c39,Enc.v c40,OL (α:=Int) b41 (l42++([e155.Label]:List Int))])],rfl,rfl,HSub_app nd,?_⟩
   refine DRend ?_
   refine hK154 _ _ ?_
   refine TK.reg ?_
   refine M rfl rfl (M rfl rfl ?_)
   refine TLc.p (gc:=(!lost43)) (p_mv rfl (hg:=fun e=>rfl)) (gcF1 rfl) rfl ?_
   refine TLc.p (gc:=(!lost43)) (p_mv rfl (hg:=fun e=>rfl)) (gcF1 rfl) rfl ?_
   obtain ⟨e157,he157,hX⟩:=bind_some hX
   refine TLc.p (gc:=(!lost43)) (p_iaL (xs:=blank2) kd22 ty49 rfl rfl rfl (fun e=>optG_t he157 e) (hg:=fun e=>⟨e,e⟩)) (gcF1 rfl) rfl ?_
   refine TLc.p (gc:=(!lost43)) (p_faE fs49_3 Dc rfl (hg:=fun e=>e)) (gcF1 rfl) rfl ?_
   refine TLc.p (gc:=(!lost43)) (p_ldE (xs:=blank2) (a:=e157) (e157.Lost:Bool) ty4 rfl rfl (fun e=>optG_t he157 e) rfl rfl rfl (hg:=fun e=>e)) (gcF1 rfl) rfl ?_
   refine P1 (p_or rfl rfl (fun e=>⟨rfl,fun h=>(not_t h)⟩)) rfl rfl (M rfl rfl (TL.nil (hK153 _ _ ?_)))
   refine TK.reg ?_
   refine M rfl rfl (P1 (p_add rfl rfl) rfl rfl (M rfl rfl (TL.nil ?_)))
   exact ⟨_,(some_in hX).symm,b41,b36,rfl,(Nd.pick nd (is:=[0,1]) Dc),(HSub.pick nd (is:=[0,1]) Dc)⟩
  ·have hX:=ite_f hc hX
   refine TK.exit ?_
   obtain rfl:=hR35 _ (some_in hX).symm
   exact E35 c37 c38 c39 c40 l42 lost43 _ _ ⟨b41,b36,rfl,(Nd.pick nd (is:=[0,1]) Dc),(HSub.pick nd (is:=[0,1]) Dc)⟩ hA35
 refine TK.iter [0,1,8,9,10,11] (fun s env h=>match s with|(c15,c16,c17,c18,l20,lost21,bad22,i23)=>∃b19 b14,env=[(0,true,Enc.v data1),(1,true,Enc.v blank2),(8,true,.ref b14 0 5),(9,true,Enc.v lost21),(10,true,Enc.v bad22),(11,true,Enc.v i23)]∧Nd [(b19,RL (α:=Int) 3 l20),(b14,RV 38 [Enc.v c15,Enc.v c16,Enc.v c17,Enc.v c18,OL b19 l20])]∧HSub [(b19,RL (α:=Int) 3 l20),(b14,RV 38 [Enc.v c15,Enc.v c16,Enc.v c17,Enc.v c18,OL b19 l20])] h) hO13 ⟨b7,b6,rfl,(Nd.pick nd (is:=[0,1]) Dc),(HSub.pick nd (is:=[0,1]) Dc)⟩ ?_
 rintro ⟨c15,c16,c17,c18,l20,lost21,bad22,i23⟩ env h x13x ⟨b19,b14,rfl,nd,hs⟩ hX hR13
 refine TK.subH hs ?_
 unfold X.cartridgeref10_Make_s13 at hX
 try dsimp only at hX
 refine TK.seq_k fun K158 hK158=>?_
 refine SR fun K159 hK159=>M rfl rfl (M rfl rfl (P1 (p_lenL (xs:=data1) kd22 rfl) rfl rfl (P1 (p_lss rfl rfl) rfl rfl (TL.nil (hK159 _ _ ?_)))))
 refine TK.cond (b:=(decide (i23<(data1.length:Int)))) rfl (fun hc=>?_) (fun hc=>?_)
 ·have hX:=ite_t hc hX
  refine TK.skip ?_
  refine hK158 _ _ ?_
  refine TK.seq_k fun K160 hK160=>?_
  refine TK.block ?_
  refine TK.seq_k fun K161 hK161=>?_
  have ndS:Nd []:=Nd.pick nd (is:=[]) Dc
  refine TK.drwX (h:=[(b19,RL (α:=Int) 3 l20),(b14,RV 38 [Enc.v c15,Enc.v c16,Enc.v c17,Enc.v c18,OL b19 l20])]) (hS:=[]) [(1,0),(1,1),(0,2),(0,3),(0,4),(0,5),(0,6),(0,7),(2,8),(1,9),(2,10)] mixed (by kernel_rfl) (HSub_app nd) ?_
  refine DR1 (gc:=true) rfl (vok_p (C:=cx) (p_faV fs38_4 Dc rfl nd (j:=1) rfl rfl)) rfl rfl ?_
  refine DR1 (gc:=true) rfl (vok_p (C:=cx) (p_ldV (v:=OL b19 l20) ty36 rfl rfl nd (j:=1) rfl rfl rfl rfl rfl)) rfl rfl ?_
  refine DM rfl rfl rfl ?_
  refine DM rfl rfl rfl ?_
  obtain ⟨e162,he162,hX⟩:=bind_some hX
  refine D0 rfl (p_iaL (xs:=data1) kd22 ty49 rfl rfl rfl (fun _=>he162)) rfl rfl ?_
  refine D0 rfl (p_faE fs49_0 Dc rfl) rfl rfl ?_
  refine D0 rfl (p_ldE (xs:=data1) (a:=e162) (e162.Label:Int) ty3 rfl rfl (fun _=>he162) rfl rfl rfl) rfl rfl ?_
  refine DR0 (gc:=true) rfl (vok_lit (C:=cx) ([e162.Label]:List Int) kd36 ty3 rfl ⟨⟨rfl,rfl⟩,trivial⟩ rfl rfl) rfl rfl ?_
  obtain ⟨u163,hu163,hX⟩:=bind_some hX
  refine DR2 rfl rfl ?_
  refine TLc.appO nd kd36 bo36 ty3 rfl rfl (j:=0) rfl rfl (Src_L _) Dc (need_t hu163) rfl fun nd=>?_
  refine TL.nil ⟨_,[(b19,RL (α:=Int) 3 (l20++([e162.Label]:List Int))),(b14,RV 38 [Enc.v c15,Enc.v c16,Enc.v c17,Enc.v c18,OL b19 l20])],rfl,rfl,HSub_app nd,?_⟩
  refine DR1 (gc:=true) rfl (vok_p (C:=cx) (p_faV fs38_4 Dc rfl nd (j:=1) rfl rfl)) rfl rfl ?_
  refine DR2n rfl ?_
  refine TLc.stV (lu:=[OL (α:=Int) b19 (l20++([e162.Label]:List Int))]) nd ty36 rfl (j:=1) rfl rfl rfl (Cells_rs (refOK_of nd (j:=0) rfl rfl)) rfl rfl [Enc.v c15,Enc.v c16,Enc.v c17,Enc.v c18,OL (α:=Int) b19 (l20++([e162.Label]:List Int))] rfl fun nd=>?_
  refine TL.nil ⟨.nilp,[(b19,RL (α:=Int) 3 (l20++([e162.Label]:List Int))),(b14,RV 38 [Enc.v c15,Enc.v c16,Enc.v c17,Enc.v c18,OL (α:=Int) b19 (l20++([e162.Label]:List Int))])],rfl,rfl,HSub_app nd,?_⟩
  refine DRend ?_
  refine hK161 _ _ (SR fun K164 hK164=>M rfl rfl (M rfl rfl ?_))
  refine TLc.p (gc:=(!lost21)) (p_mv rfl (hg:=fun e=>rfl)) (gcF1 rfl) rfl ?_
  refine TLc.p (gc:=(!lost21)) (p_mv rfl (hg:=fun e=>rfl)) (gcF1 rfl) rfl ?_
  obtain ⟨e165,he165,hX⟩:=bind_some hX
  refine TLc.p (gc:=(!lost21)) (p_iaL (xs:=data1) kd22 ty49 rfl rfl rfl (fun e=>optG_t he165 e) (hg:=fun e=>⟨e,e⟩)) (gcF1 rfl) rfl ?_
  refine TLc.p (gc:=(!lost21)) (p_faE fs49_3 Dc rfl (hg:=fun e=>e)) (gcF1 rfl) rfl ?_
  refine TLc.p (gc:=(!lost21)) (p_ldE (xs:=data1) (a:=e165) (e165.Lost:Bool) ty4 rfl rfl (fun e=>optG_t he165 e) rfl rfl rfl (hg:=fun e=>e)) (gcF1 rfl) rfl ?_
  refine P1 (p_or rfl rfl (fun e=>⟨rfl,fun h=>(not_t h)⟩)) rfl rfl (M rfl rfl (TL.nil (hK164 _ _ (SR fun K166 hK166=>M rfl rfl (TL.nil (hK166 _ _ ?_))))))
  refine TK.block ?_
  obtain ⟨o167,hO167,hA167⟩:=bind_some hX
  have E167:∀(bad174:Bool) (env:Env) (h:Hp),(∃b173 b172,keepE [0,1,8,9,10,11] env=[(0,true,Enc.v data1),(1,true,Enc.v blank2),(8,true,.ref b172 0 5),(9,true,Enc.v ((lost21||e165.Lost):Bool)),(10,true,Enc.v bad174),(11,true,Enc.v i23)]∧Nd [(b173,RL (α:=Int) 3 (l20++([e162.Label]:List Int))),(b172,RV 38 [Enc.v c15,Enc.v c16,Enc.v c17,Enc.v c18,OL (α:=Int) b173 (l20++([e162.Label]:List Int))])]∧HSub [(b173,RL (α:=Int) 3 (l20++([e162.Label]:List Int))),(b172,RV 38 [Enc.v c15,Enc.v c16,Enc.v c17,Enc.v c18,OL (α:=Int) b173 (l20++([e162.Label]:List Int))])] h)→X.cartridgeref10_Make_e167 c15 c16 c17 c18 l20 e162 lost21 e165 i23 bad174=some x13x→K160 env h:=by
   intro bad174 env h hE hX
   obtain ⟨b173,b172,henv,nd,hs⟩:=hE
   unfold X.cartridgeref10_Make_e167 at hX
   refine hK160 _ _ (TK.keep [0,1,8,9,10,11] ?_)
   rw[henv]
   refine TK.subH hs ?_
   refine TK.reg ?_
   refine M rfl rfl (P1 (p_add rfl rfl) rfl rfl (M rfl rfl (TL.nil ?_)))
   exact ⟨_,(some_in hX).symm,b173,b172,rfl,(Nd.pick nd (is:=[0,1]) Dc),(HSub.pick nd (is:=[0,1]) Dc)⟩
  refine TK.iter [0,1,8,9,10,11,12] (fun s env h=>match s with|(bad170,n171)=>∃b169 b168,env=[(0,true,Enc.v data1),(1,true,Enc.v blank2),(8,true,.ref b168 0 5),(9,true,Enc.v ((lost21||e165.Lost):Bool)),(10,true,Enc.v bad170),(11,true,Enc.v i23),(12,true,Enc.v n171)]∧Nd [(b169,RL (α:=Int) 3 (l20++([e162.Label]:List Int))),(b168,RV 38 [Enc.v c15,Enc.v c16,Enc.v c17,Enc.v c18,OL (α:=Int) b169 (l20++([e162.Label]:List Int))])]∧HSub [(b169,RL (α:=Int) 3 (l20++([e162.Label]:List Int))),(b168,RV 38 [Enc.v c15,Enc.v c16,Enc.v c17,Enc.v c18,OL (α:=Int) b169 (l20++([e162.Label]:List Int))])] h) hO167 ⟨b19,b14,rfl,(Nd.pick nd (is:=[0,1]) Dc),(HSub.pick nd (is:=[0,1]) Dc)⟩ ?_
  rintro ⟨bad170,n171⟩ env h x167x ⟨b169,b168,rfl,nd,hs⟩ hX hR167
  refine TK.subH hs ?_
  unfold X.cartridgeref10_Make_s167 at hX
  try dsimp only at hX
  refine TK.seq_k fun K175 hK175=>?_
  refine SR fun K176 hK176=>M rfl rfl (M rfl rfl (M rfl rfl ?_))
  obtain ⟨e177,he177,hX⟩:=bind_some hX
  refine P1 (p_iaL (xs:=data1) kd22 ty49 rfl rfl rfl (fun _=>he177)) rfl rfl (P1 (p_faE fs49_2 Dc rfl) rfl rfl (P1 (p_ldE (xs:=data1) (a:=e177) (e177.Blocks:(List (List UInt8))) ty47 rfl rfl (fun _=>he177) rfl rfl rfl) rfl rfl (P1 (p_lenL (xs:=e177.Blocks) kd47 rfl) rfl rfl (P1 (p_lss rfl rfl) rfl rfl (TL.nil (hK176 _ _ ?_))))))
  refine TK.cond (b:=(decide (n171<(e177.Blocks.length:Int)))) rfl (fun hc=>?_) (fun hc=>?_)
  ·have hX:=ite_t hc hX
   refine TK.skip ?_
   refine hK175 _ _ ?_
   refine TK.seq_k fun K178 hK178=>?_
   refine TK.block ?_
   refine SR fun K179 hK179=>M rfl rfl (M rfl rfl ?_)
   obtain ⟨e180,he180,hX⟩:=bind_some hX
   refine P1 (p_iaL (xs:=data1) kd22 ty49 rfl rfl rfl (fun _=>he180)) rfl rfl (P1 (p_ldE (xs:=data1) (a:=e180) (e180:Tape_api) ty49 rfl rfl (fun _=>he180) rfl rfl rfl) rfl rfl (M rfl rfl ?_))
   obtain ⟨r181,hr181,hX⟩:=bind_some hX
   refine TL.cvX rfl rfl rfl (fun _=>⟨rfl,⟨rfl,⟨rfl,trivial⟩⟩⟩) (fun e=>ok_cartridgeref10_Good e180 n171 _ hr181) ?_
   refine M rfl rfl (P1 (p_ex rfl rfl Dc) rfl rfl (P1 (p_ex rfl rfl Dc) rfl rfl ?_))
   refine TLc.alO (l:=[Enc.v ((0:Int):Int),Enc.v ((0:Int):Int),Enc.v ((0:Int):Int),.nils]) nd ty46 ti46_z rfl rfl fun b182 nd=>?_
   refine TLc.stV (lu:=Enc.cl (r181.1:Unit_api)) nd ty46 rfl (j:=0) rfl rfl rfl (Cells_v (r181.1:Unit_api)) rfl rfl [Enc.v r181.1.Kind,Enc.v r181.1.Label,Enc.v r181.1.Number,Enc.v r181.1.Load] rfl fun nd=>?_
   refine M rfl rfl (TL.nil (hK179 _ _ ?_))
   refine TK.reg ?_
   refine M rfl rfl (M rfl rfl ?_)
   refine TLc.p (gc:=(!bad170)) (p_mv rfl (hg:=fun e=>rfl)) (gcF1 rfl) rfl ?_
   refine TLc.p (gc:=(!bad170)) (p_not rfl (hg:=fun e=>e)) (gcF1 rfl) rfl ?_
   refine P1 (p_or rfl rfl (fun e=>⟨rfl,fun h=>(not_t h)⟩)) rfl rfl (M rfl rfl (TL.nil (hK178 _ _ ?_)))
   refine TK.reg ?_
   refine M rfl rfl (P1 (p_add rfl rfl) rfl rfl (M rfl rfl (TL.nil ?_)))
   exact ⟨_,(some_in hX).symm,b169,b168,rfl,(Nd.pick nd (is:=[1,2]) Dc),(HSub.pick nd (is:=[1,2]) Dc)⟩
  ·have hX:=ite_f hc hX
   refine TK.exit ?_
   obtain rfl:=hR167 _ (some_in hX).symm
   exact E167 bad170 _ _ ⟨b169,b168,rfl,(Nd.pick nd (is:=[0,1]) Dc),(HSub.pick nd (is:=[0,1]) Dc)⟩ hA167
 ·have hX:=ite_f hc hX
  refine TK.exit ?_
  obtain rfl:=hR13 _ (some_in hX).symm
  exact E13 c15 c16 c17 c18 l20 lost21 bad22 _ _ ⟨b19,b14,rfl,(Nd.pick nd (is:=[0,1]) Dc),(HSub.pick nd (is:=[0,1]) Dc)⟩ hA13
theorem ok_cartridgeref1_SameRows (a1:(List (List UInt8))) (b2:(List (List UInt8))) (r:Bool) (hX:X.cartridgeref1_SameRows a1 b2=some r):Fun Tryz.prog 60 [Enc.v (a1:(List (List UInt8))),Enc.v (b2:(List (List UInt8)))] (·=Enc.v (r:Bool)):=by
 refine Fun.of b60 (Nat.le_of_ble_eq_true rfl) (allVal.mem ⟨(by exact (v_val _)),(by exact (v_val _)),trivial⟩) ?_
 unfold k60
 have nd:Nd []:=Nd_nil
 unfold X.cartridgeref1_SameRows at hX
 refine SR fun K3 hK3=>M rfl rfl (TL.nil (hK3 _ _ ?_))
 refine TK.seq_k fun K4 hK4=>?_
 refine SR fun K5 hK5=>M rfl rfl (P1 (p_lenL (xs:=a1) kd47 rfl) rfl rfl (M rfl rfl (P1 (p_lenL (xs:=b2) kd47 rfl) rfl rfl (P1 (p_neq rfl rfl) rfl rfl (TL.nil (hK5 _ _ ?_))))))
 refine TK.cond (b:=((a1.length:Int) !=(b2.length:Int))) rfl (fun hc=>?_) (fun hc=>?_)
 ·have hX:=ite_t hc hX
  refine SR fun K6 hK6=>M rfl rfl (TL.nil (hK6 _ _ ?_))
  refine TK.ret ?_
  try dsimp only[thenQ]
  exact R1 rfl hX
 ·have hX:=ite_f hc hX
  refine TK.skip ?_
  refine hK4 _ _ ?_
  refine TK.seq_k fun K7 hK7=>?_
  refine SR fun K8 hK8=>M rfl rfl (TL.nil (hK8 _ _ ?_))
  refine TK.block ?_
  obtain ⟨o9,hO9,hA9⟩:=bind_some hX
  have E9:∀(env:Env) (h:Hp),(∃_u:Unit,keepE [] env=[]∧Nd []∧HSub [] h)→X.cartridgeref1_SameRows_e9=some r→K7 env h:=by
   intro env h hE hX
   obtain ⟨_u,henv,nd,hs⟩:=hE
   unfold X.cartridgeref1_SameRows_e9 at hX
   refine hK7 _ _ (TK.keep [] ?_)
   rw[henv]
   refine TK.subH hs ?_
   refine SR fun K11 hK11=>M rfl rfl (TL.nil (hK11 _ _ ?_))
   refine TK.ret ?_
   try dsimp only[thenQ]
   exact R1 rfl hX
  refine TK.iter [0,1,5] (fun s env h=>match s with|i10=>∃_u:Unit,env=[(0,true,Enc.v a1),(1,true,Enc.v b2),(5,true,Enc.v i10)]∧Nd []∧HSub [] h) hO9 ⟨(),rfl,Nd_nil,HSub.refl _⟩ ?_
  rintro i10 env h x9x ⟨_u,rfl,nd,hs⟩ hX hR9
  refine TK.subH hs ?_
  unfold X.cartridgeref1_SameRows_s9 at hX
  try dsimp only at hX
  refine TK.seq_k fun K12 hK12=>?_
  refine SR fun K13 hK13=>M rfl rfl (M rfl rfl (P1 (p_lenL (xs:=a1) kd47 rfl) rfl rfl (P1 (p_lss rfl rfl) rfl rfl (TL.nil (hK13 _ _ ?_)))))
  refine TK.cond (b:=(decide (i10<(a1.length:Int)))) rfl (fun hc=>?_) (fun hc=>?_)
  ·have hX:=ite_t hc hX
   refine TK.skip ?_
   refine hK12 _ _ ?_
   refine TK.seq_k fun K14 hK14=>?_
   refine TK.block ?_
   refine TK.seq_k fun K15 hK15=>?_
   have ndS:Nd []:=Nd.pick nd (is:=[]) Dc
   refine TK.drwX (h:=[]) (hS:=[]) [(0,0),(0,1),(0,2),(0,3),(0,4),(0,5),(0,6),(0,7),(0,8),(0,9),(0,10)] mixed (by kernel_rfl) (HSub_app nd) ?_
   refine DM rfl rfl rfl ?_
   refine DM rfl rfl rfl ?_
   obtain ⟨e16,he16,hX⟩:=bind_some hX
   refine D0 rfl (p_iaL (xs:=a1) kd47 ty42 rfl rfl rfl (fun _=>he16)) rfl rfl ?_
   refine D0 rfl (p_ldE (xs:=a1) (a:=e16) (e16:(List UInt8)) ty42 rfl rfl (fun _=>he16) rfl rfl rfl) rfl rfl ?_
   refine DR0 (gc:=true) rfl (vok_cvtBS (C:=cx) (gc:=true) (xs:=e16) kd42 kd5 kd9 rfl (look_v (v:=Enc.v e16) (v_val _))) rfl rfl ?_
   refine DM rfl rfl rfl ?_
   refine DM rfl rfl rfl ?_
   obtain ⟨e17,he17,hX⟩:=bind_some hX
   refine D0 rfl (p_iaL (xs:=b2) kd47 ty42 rfl rfl rfl (fun _=>he17)) rfl rfl ?_
   refine D0 rfl (p_ldE (xs:=b2) (a:=e17) (e17:(List UInt8)) ty42 rfl rfl (fun _=>he17) rfl rfl rfl) rfl rfl ?_
   refine DR0 (gc:=true) rfl (vok_cvtBS (C:=cx) (gc:=true) (xs:=e17) kd42 kd5 kd9 rfl (look_v (v:=Enc.v e17) (v_val _))) rfl rfl ?_
   refine D0 rfl (ps_neq (s:=(Str.mk e16)) (r:=(Str.mk e17)) rfl rfl) rfl rfl ?_
   refine DRend ?_
   refine hK15 _ _ ?_
   refine TK.cond (b:=(!((Str.mk e16).l==(Str.mk e17).l))) rfl (fun hc=>?_) (fun hc=>?_)
   ·have hX:=ite_t hc hX
    refine SR fun K18 hK18=>M rfl rfl (TL.nil (hK18 _ _ ?_))
    refine TK.ret ?_
    obtain rfl:=hR9 _ (some_in hX).symm
    replace hX:=hA9
    try dsimp only[thenQ]
    exact R1 rfl hX
   ·have hX:=ite_f hc hX
    refine TK.skip ?_
    refine hK14 _ _ ?_
    refine TK.reg ?_
    refine M rfl rfl (P1 (p_add rfl rfl) rfl rfl (M rfl rfl (TL.nil ?_)))
    exact ⟨_,(some_in hX).symm,(),rfl,Nd_nil,HSub.refl _⟩
  ·have hX:=ite_f hc hX
   refine TK.exit ?_
   obtain rfl:=hR9 _ (some_in hX).symm
   exact E9 _ _ ⟨(),rfl,Nd_nil,HSub.refl _⟩ hA9
theorem ok_cartridgeref1_SameTape (a1:Tape_api) (b2:Tape_api) (r:Bool) (hX:X.cartridgeref1_SameTape a1 b2=some r):Fun Tryz.prog 29 [Enc.v (a1:Tape_api),Enc.v (b2:Tape_api)] (·=Enc.v (r:Bool)):=by
 refine Fun.of b29 (Nat.le_of_ble_eq_true rfl) (allVal.mem ⟨(by exact (v_val _)),(by exact (v_val _)),trivial⟩) ?_
 unfold k29
 have nd:Nd []:=Nd_nil
 unfold X.cartridgeref1_SameTape at hX
 refine SR fun K3 hK3=>?_
 refine TLc.boxV (lu:=[Enc.v a1.Label,Enc.v a1.Cap,Enc.v a1.Blocks,Enc.v a1.Lost]) nd rfl (Cells_v (a1:Tape_api)) rfl ?_
 refine TLc.boxV (lu:=[Enc.v b2.Label,Enc.v b2.Cap,Enc.v b2.Blocks,Enc.v b2.Lost]) nd rfl (Cells_v (b2:Tape_api)) rfl ?_
 refine M rfl rfl (TL.nil (hK3 _ _ (SR fun K4 hK4=>P1 (p_faR fs49_0 Dc rfl) rfl rfl (P1 (p_ldR (v:=Enc.v a1.Label) ty3 rfl rfl rfl rfl rfl rfl) rfl rfl (P1 (p_faR fs49_0 Dc rfl) rfl rfl (P1 (p_ldR (v:=Enc.v b2.Label) ty3 rfl rfl rfl rfl rfl rfl) rfl rfl (P1 (p_eql rfl rfl) rfl rfl (M rfl rfl ?_))))))))
 refine TLc.p (gc:=((a1.Label==b2.Label))) (p_faR fs49_1 Dc rfl (hg:=fun e=>rfl)) (gcT1 rfl) rfl ?_
 refine TLc.p (gc:=((a1.Label==b2.Label))) (p_ldR (v:=Enc.v a1.Cap) ty3 rfl rfl rfl rfl rfl rfl (hg:=fun e=>e)) (gcT1 rfl) rfl ?_
 refine TLc.p (gc:=((a1.Label==b2.Label))) (p_faR fs49_1 Dc rfl (hg:=fun e=>rfl)) (gcT1 rfl) rfl ?_
 refine TLc.p (gc:=((a1.Label==b2.Label))) (p_ldR (v:=Enc.v b2.Cap) ty3 rfl rfl rfl rfl rfl rfl (hg:=fun e=>e)) (gcT1 rfl) rfl ?_
 refine TLc.p (gc:=((a1.Label==b2.Label))) (p_eql rfl rfl (hg:=fun e=>⟨e,e⟩)) (gcT1 rfl) rfl ?_
 refine P1 (p_and rfl rfl (fun e=>⟨rfl,fun h=>h⟩)) rfl rfl (M rfl rfl ?_)
 refine TLc.p (gc:=(((a1.Label==b2.Label)&&(a1.Cap==b2.Cap)))) (p_faR fs49_3 Dc rfl (hg:=fun e=>rfl)) (gcT1 rfl) rfl ?_
 refine TLc.p (gc:=(((a1.Label==b2.Label)&&(a1.Cap==b2.Cap)))) (p_ldR (v:=Enc.v a1.Lost) ty4 rfl rfl rfl rfl rfl rfl (hg:=fun e=>e)) (gcT1 rfl) rfl ?_
 refine TLc.p (gc:=(((a1.Label==b2.Label)&&(a1.Cap==b2.Cap)))) (p_faR fs49_3 Dc rfl (hg:=fun e=>rfl)) (gcT1 rfl) rfl ?_
 refine TLc.p (gc:=(((a1.Label==b2.Label)&&(a1.Cap==b2.Cap)))) (p_ldR (v:=Enc.v b2.Lost) ty4 rfl rfl rfl rfl rfl rfl (hg:=fun e=>e)) (gcT1 rfl) rfl ?_
 refine TLc.p (gc:=(((a1.Label==b2.Label)&&(a1.Cap==b2.Cap)))) (p_eqB kd4 rfl rfl (hg:=fun e=>⟨e,e⟩)) (gcT1 rfl) rfl ?_
 refine P1 (p_and rfl rfl (fun e=>⟨rfl,fun h=>h⟩)) rfl rfl (M rfl rfl ?_)
 refine TLc.p (gc:=((((a1.Label==b2.Label)&&(a1.Cap==b2.Cap))&&(a1.Lost==b2.Lost)))) (p_faR fs49_2 Dc rfl (hg:=fun e=>rfl)) (gcT1 rfl) rfl ?_
 refine TLc.p (gc:=((((a1.Label==b2.Label)&&(a1.Cap==b2.Cap))&&(a1.Lost==b2.Lost)))) (p_ldR (v:=Enc.v a1.Blocks) ty47 rfl rfl rfl rfl rfl rfl (hg:=fun e=>e)) (gcT1 rfl) rfl ?_
 refine TLc.p (gc:=((((a1.Label==b2.Label)&&(a1.Cap==b2.Cap))&&(a1.Lost==b2.Lost)))) (p_faR fs49_2 Dc rfl (hg:=fun e=>rfl)) (gcT1 rfl) rfl ?_
 refine TLc.p (gc:=((((a1.Label==b2.Label)&&(a1.Cap==b2.Cap))&&(a1.Lost==b2.Lost)))) (p_ldR (v:=Enc.v b2.Blocks) ty47 rfl rfl rfl rfl rfl rfl (hg:=fun e=>e)) (gcT1 rfl) rfl ?_
 obtain ⟨r5,hr5,hX⟩:=bind_some hX
 refine TL.cvX (gcT1 rfl) rfl rfl (fun e=>⟨rfl,⟨e,⟨e,trivial⟩⟩⟩) (fun e=>ok_cartridgeref1_SameRows a1.Blocks b2.Blocks _ (optG_t hr5 e)) ?_
 refine P1 (p_and rfl rfl (fun e=>⟨rfl,fun h=>h⟩)) rfl rfl (M rfl rfl (TL.nil (hK4 _ _ ?_)))
 refine TK.ret ?_
 try dsimp only[thenQ]
 exact R1 rfl hX
theorem ok_cartridgeref1_SameTapes (a1:(List Tape_api)) (b2:(List Tape_api)) (r:Bool) (hX:X.cartridgeref1_SameTapes a1 b2=some r):Fun Tryz.prog 9 [Enc.v (a1:(List Tape_api)),Enc.v (b2:(List Tape_api))] (·=Enc.v (r:Bool)):=by
 refine Fun.of b9 (Nat.le_of_ble_eq_true rfl) (allVal.mem ⟨(by exact (v_val _)),(by exact (v_val _)),trivial⟩) ?_
 unfold k9
 have nd:Nd []:=Nd_nil
 unfold X.cartridgeref1_SameTapes at hX
 refine SR fun K3 hK3=>M rfl rfl (TL.nil (hK3 _ _ ?_))
 refine TK.seq_k fun K4 hK4=>?_
 refine SR fun K5 hK5=>M rfl rfl (P1 (p_lenL (xs:=a1) kd22 rfl) rfl rfl (M rfl rfl (P1 (p_lenL (xs:=b2) kd22 rfl) rfl rfl (P1 (p_neq rfl rfl) rfl rfl (TL.nil (hK5 _ _ ?_))))))
 refine TK.cond (b:=((a1.length:Int) !=(b2.length:Int))) rfl (fun hc=>?_) (fun hc=>?_)
 ·have hX:=ite_t hc hX
  refine SR fun K6 hK6=>M rfl rfl (TL.nil (hK6 _ _ ?_))
  refine TK.ret ?_
  try dsimp only[thenQ]
  exact R1 rfl hX
 ·have hX:=ite_f hc hX
  refine TK.skip ?_
  refine hK4 _ _ ?_
  refine TK.seq_k fun K7 hK7=>?_
  refine SR fun K8 hK8=>M rfl rfl (TL.nil (hK8 _ _ ?_))
  refine TK.block ?_
  obtain ⟨o9,hO9,hA9⟩:=bind_some hX
  have E9:∀(env:Env) (h:Hp),(∃_u:Unit,keepE [] env=[]∧Nd []∧HSub [] h)→X.cartridgeref1_SameTapes_e9=some r→K7 env h:=by
   intro env h hE hX
   obtain ⟨_u,henv,nd,hs⟩:=hE
   unfold X.cartridgeref1_SameTapes_e9 at hX
   refine hK7 _ _ (TK.keep [] ?_)
   rw[henv]
   refine TK.subH hs ?_
   refine SR fun K11 hK11=>M rfl rfl (TL.nil (hK11 _ _ ?_))
   refine TK.ret ?_
   try dsimp only[thenQ]
   exact R1 rfl hX
  refine TK.iter [0,1,5] (fun s env h=>match s with|i10=>∃_u:Unit,env=[(0,true,Enc.v a1),(1,true,Enc.v b2),(5,true,Enc.v i10)]∧Nd []∧HSub [] h) hO9 ⟨(),rfl,Nd_nil,HSub.refl _⟩ ?_
  rintro i10 env h x9x ⟨_u,rfl,nd,hs⟩ hX hR9
  refine TK.subH hs ?_
  unfold X.cartridgeref1_SameTapes_s9 at hX
  try dsimp only at hX
  refine TK.seq_k fun K12 hK12=>?_
  refine SR fun K13 hK13=>M rfl rfl (M rfl rfl (P1 (p_lenL (xs:=a1) kd22 rfl) rfl rfl (P1 (p_lss rfl rfl) rfl rfl (TL.nil (hK13 _ _ ?_)))))
  refine TK.cond (b:=(decide (i10<(a1.length:Int)))) rfl (fun hc=>?_) (fun hc=>?_)
  ·have hX:=ite_t hc hX
   refine TK.skip ?_
   refine hK12 _ _ ?_
   refine TK.seq_k fun K14 hK14=>?_
   refine TK.block ?_
   refine TK.seq_k fun K15 hK15=>?_
   have ndS:Nd []:=Nd.pick nd (is:=[]) Dc
   refine TK.drwX (h:=[]) (hS:=[]) [(0,0),(0,1),(0,2),(0,3),(0,4),(0,5),(0,6),(0,7),(0,8),(0,9)] mixed (by kernel_rfl) (HSub_app nd) ?_
   refine DM rfl rfl rfl ?_
   refine DM rfl rfl rfl ?_
   obtain ⟨e16,he16,hX⟩:=bind_some hX
   refine D0 rfl (p_iaL (xs:=a1) kd22 ty49 rfl rfl rfl (fun _=>he16)) rfl rfl ?_
   refine D0 rfl (p_ldE (xs:=a1) (a:=e16) (e16:Tape_api) ty49 rfl rfl (fun _=>he16) rfl rfl rfl) rfl rfl ?_
   refine DM rfl rfl rfl ?_
   refine DM rfl rfl rfl ?_
   obtain ⟨e17,he17,hX⟩:=bind_some hX
   refine D0 rfl (p_iaL (xs:=b2) kd22 ty49 rfl rfl rfl (fun _=>he17)) rfl rfl ?_
   refine D0 rfl (p_ldE (xs:=b2) (a:=e17) (e17:Tape_api) ty49 rfl rfl (fun _=>he17) rfl rfl rfl) rfl rfl ?_
   obtain ⟨r18,hr18,hX⟩:=bind_some hX
   refine DR0 (gc:=true) rfl (vok_c rfl (fun _=>⟨rfl,⟨rfl,⟨rfl,trivial⟩⟩⟩) (fun e=>ok_cartridgeref1_SameTape e16 e17 _ hr18)) rfl rfl ?_
   refine D0 rfl (p_not rfl) rfl rfl ?_
   refine DRend ?_
   refine hK15 _ _ ?_
   refine TK.cond (b:=(!r18)) rfl (fun hc=>?_) (fun hc=>?_)
   ·have hX:=ite_t hc hX
    refine SR fun K19 hK19=>M rfl rfl (TL.nil (hK19 _ _ ?_))
    refine TK.ret ?_
    obtain rfl:=hR9 _ (some_in hX).symm
    replace hX:=hA9
    try dsimp only[thenQ]
    exact R1 rfl hX
   ·have hX:=ite_f hc hX
    refine TK.skip ?_
    refine hK14 _ _ ?_
    refine TK.reg ?_
    refine M rfl rfl (P1 (p_add rfl rfl) rfl rfl (M rfl rfl (TL.nil ?_)))
    exact ⟨_,(some_in hX).symm,(),rfl,Nd_nil,HSub.refl _⟩
  ·have hX:=ite_f hc hX
   refine TK.exit ?_
   obtain rfl:=hR9 _ (some_in hX).symm
   exact E9 _ _ ⟨(),rfl,Nd_nil,HSub.refl _⟩ hA9
theorem ok_cartridgelaw14_GroupMakes (data1:(List Tape_api)) (blank2:(List Tape_api)) (number3:Int) (r:Bool) (hX:X.cartridgelaw14_GroupMakes data1 blank2 number3=some r):Fun Tryz.prog 3 [Enc.v (data1:(List Tape_api)),Enc.v (blank2:(List Tape_api)),Enc.v (number3:Int)] (·=Enc.v (r:Bool)):=by
 refine Fun.of b3 (Nat.le_of_ble_eq_true rfl) (allVal.mem ⟨(by exact (v_val _)),(by exact (v_val _)),(by exact (v_val _)),trivial⟩) ?_
 unfold k3
 have nd:Nd []:=Nd_nil
 unfold X.cartridgelaw14_GroupMakes at hX
 refine SR fun K4 hK4=>M rfl rfl (TL.nil (hK4 _ _ (SR fun K5 hK5=>?_)))
 obtain ⟨r6,hr6,hX⟩:=bind_some hX
 refine TL.cvX rfl rfl rfl (fun _=>⟨rfl,trivial⟩) (fun e=>ok_cartridgelaw14_alive _ hr6) ?_
 refine M rfl rfl (TL.nil (hK5 _ _ ?_))
 refine TK.seq_k fun K7 hK7=>?_
 refine SR fun K8 hK8=>M rfl rfl (P1 (p_not rfl) rfl rfl (M rfl rfl ?_))
 refine TLc.p (gc:=(!((!r6)))) (p_mv rfl (hg:=fun e=>rfl)) (gcF1 rfl) rfl ?_
 obtain ⟨r9,hr9,hX⟩:=bind_some hX
 refine TL.cvX (gcF1 rfl) rfl rfl (fun e=>⟨rfl,⟨e,trivial⟩⟩) (fun e=>ok_cartridgelaw13_Few data1 _ (optG_t hr9 e)) ?_
 refine TLc.p (gc:=(!((!r6)))) (p_not rfl (hg:=fun e=>e)) (gcF1 rfl) rfl ?_
 refine P1 (p_or rfl rfl (fun e=>⟨rfl,fun h=>(not_t h)⟩)) rfl rfl (M rfl rfl ?_)
 refine TLc.p (gc:=(!(((!r6)||(!r9))))) (p_mv rfl (hg:=fun e=>rfl)) (gcF1 rfl) rfl ?_
 obtain ⟨r10,hr10,hX⟩:=bind_some hX
 refine TL.cvX (gcF1 rfl) rfl rfl (fun e=>⟨rfl,⟨e,trivial⟩⟩) (fun e=>ok_cartridgelaw13_Few blank2 _ (optG_t hr10 e)) ?_
 refine TLc.p (gc:=(!(((!r6)||(!r9))))) (p_not rfl (hg:=fun e=>e)) (gcF1 rfl) rfl ?_
 refine P1 (p_or rfl rfl (fun e=>⟨rfl,fun h=>(not_t h)⟩)) rfl rfl (TL.nil (hK8 _ _ ?_))
 refine TK.cond (b:=(((!r6)||(!r9))||(!r10))) rfl (fun hc=>?_) (fun hc=>?_)
 ·have hX:=ite_t hc hX
  refine SR fun K11 hK11=>M rfl rfl (M rfl rfl (TL.nil (hK11 _ _ ?_)))
  refine TK.ret ?_
  try dsimp only[thenQ]
  exact R1 rfl hX
 ·have hX:=ite_f hc hX
  refine TK.skip ?_
  refine hK7 _ _ (SR fun K12 hK12=>M rfl rfl (M rfl rfl (M rfl rfl ?_)))
  obtain ⟨r13,hr13,hX⟩:=bind_some hX
  refine TL.cvX rfl rfl rfl (fun _=>⟨rfl,⟨rfl,⟨rfl,⟨rfl,trivial⟩⟩⟩⟩) (fun e=>ok_group_Make data1 blank2 number3 _ hr13) ?_
  refine M rfl rfl (P1 (p_ex rfl rfl Dc) rfl rfl (P1 (p_ex rfl rfl Dc) rfl rfl (M rfl rfl (M rfl rfl (TL.nil (hK12 _ _ (SR fun K14 hK14=>M rfl rfl (M rfl rfl (M rfl rfl ?_)))))))))
  obtain ⟨r15,hr15,hX⟩:=bind_some hX
  refine TL.cvX rfl rfl rfl (fun _=>⟨rfl,⟨rfl,⟨rfl,⟨rfl,trivial⟩⟩⟩⟩) (fun e=>ok_cartridgeref10_Make data1 blank2 number3 _ hr15) ?_
  refine M rfl rfl (P1 (p_ex rfl rfl Dc) rfl rfl (P1 (p_ex rfl rfl Dc) rfl rfl (M rfl rfl (M rfl rfl (TL.nil (hK14 _ _ (SR fun K16 hK16=>M rfl rfl (M rfl rfl ?_))))))))
  obtain ⟨r17,hr17,hX⟩:=bind_some hX
  refine TL.cvX rfl rfl rfl (fun _=>⟨rfl,⟨rfl,⟨rfl,trivial⟩⟩⟩) (fun e=>ok_cartridgeref1_SameTapes r13.1 r15.1 _ hr17) ?_
  refine M rfl rfl ?_
  refine TLc.p (gc:=r17) (p_mv rfl (hg:=fun e=>rfl)) (gcT1 rfl) rfl ?_
  obtain ⟨r18,hr18,hX⟩:=bind_some hX
  refine TL.cvX (gcT1 rfl) rfl rfl (fun e=>⟨rfl,⟨e,trivial⟩⟩) (fun e=>ok_cartridgelaw14_num r13.2 _ (optG_t hr18 e)) ?_
  refine TLc.p (gc:=r17) (p_mv rfl (hg:=fun e=>rfl)) (gcT1 rfl) rfl ?_
  refine TLc.p (gc:=r17) (p_eql rfl rfl (hg:=fun e=>⟨e,e⟩)) (gcT1 rfl) rfl ?_
  refine P1 (p_and rfl rfl (fun e=>⟨rfl,fun h=>h⟩)) rfl rfl (M rfl rfl (TL.nil (hK16 _ _ ?_)))
  refine TK.ret ?_
  try dsimp only[thenQ]
  exact R1 rfl hX
end Go.Proofs.YtfpldlnbhjmckaaGreat
