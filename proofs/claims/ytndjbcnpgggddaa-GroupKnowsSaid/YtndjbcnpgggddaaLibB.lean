import Derived.Test.YtndjbcnpgggddaaLibA
namespace Go.AX
open Go.AM
section
variable {C:Cx} {nt:Nat} {env:Env} {h:Hp} {K:Env→Hp→Prop} {gc gx gy gz:Bool} {t:TypeId} {x y z:X} {u u1 u2:AV}
variable {α β:Type} [Enc α] [Enc β]
theorem dlt {d nt:Nat} (hd:Nat.ble (d+1) nt=true):∀d',(some d:Option Nat)=some d'→d'<nt:=fun d' e=>by
 injection e with e;subst e;exact Nat.le_of_ble_eq_true hd
def Cells (h:Hp) (u:AV) (lu:List AV):Prop:=∃pc S,cellsA h u=some (lu.length,pc,S)∧S∧(∀d,d<lu.length→pc d=ofL lu d)∧∀w∈lu,oneA h w
theorem oneA_AV1 {w:AV} (hw:AV1 w):oneA h w:=by cases w<;>first|trivial|exact hw.elim
theorem Cells_one {w:AV} (hw:AV1 w):Cells h w [w]:=by
 cases w<;>first
  |exact hw.elim
  |exact ⟨_,_,rfl,trivial,fun d hd=>by obtain rfl:d=0:=by simpa using hd
                                       rfl,fun u hu=>by simp at hu;subst hu;exact oneA_AV1 hw⟩
theorem Cells_agg {l:List AV} {m:Nat} (hm:m=l.length) (hl:∀w∈l,oneA h w):Cells h (.agg m (ofL l)) l:=by
 subst hm;exact ⟨_,_,rfl,trivial,fun _ _=>rfl,hl⟩
theorem Cells_v (z:α):Cells h (Enc.v z) (Enc.cl z):=by
 rw[Enc.veq]
 split
 ·exact Cells_agg (Enc.len z).symm fun w hw=>oneA_AV1 (Enc.cell z w hw)
 ·rename_i ha
  have h1:=Enc.len z
  have h2:=Enc.one (α:=α) (by simpa using ha)
  rw[h2] at h1
  match hc:Enc.cl z,h1 with
  |[w],_=>exact Cells_one (Enc.cell z w (by rw[hc];simp))
theorem Cells_rs {b o n st sz:Nat} (hr:refOK h b st):Cells h (.rs b o n st sz) [.rs b o n st sz]:=
 ⟨_,_,rfl,hr,fun d hd=>by obtain rfl:d=0:=by simpa using hd
                          rfl,fun u hu=>by simp at hu;subst hu;exact hr⟩
theorem oneA_rs {b o n st sz:Nat} (hr:refOK h b st):oneA h (.rs b o n st sz):=hr
theorem Sim.row_congr {μ:Mu} {w:World} {b:Nat} {r r':Row} (s:Sim μ ((b,r)::h) w) (h1:r'.ty=r.ty) (h2:r'.m=r.m) (h3:∀i,i<r.m→r'.cells i=r.cells i):Sim μ ((b,r')::h) w:=
 ⟨fun x q e=>by
   simp only[Hp.get] at e
   by_cases hx:b=x
   ·rw[if_pos hx] at e
    injection e with e
    subst e hx
    rcases s.row b r (by simp[Hp.get]) with ⟨hv,hn,h0⟩|⟨B,cs,hnv,q1,q2,q3,q4,q5,q6⟩
    ·exact .inl ⟨hv,hn,by rw[h2];exact h0⟩
    ·exact .inr ⟨B,cs,hnv,q1,by rw[h2];exact q2,by rw[h1];exact q3,q4,by rw[h2];exact q5,fun i hi=>by rw[h3 i (by rw[←h2];exact hi)];exact q6 i (by rw[←h2];exact hi)⟩
   ·rw[if_neg hx] at e
    exact s.row x q (by simp only[Hp.get];rw[if_neg hx];exact e),s.inj,s.lt,s.vlt,s.noban,s.banlt,fun k a e=>⟨by
   have h1:=(s.hadr k a e).1
   simp only[Hp.get] at h1 ⊢
   by_cases hx:b=k
   ·rw[if_pos hx] at h1;cases h1
   ·rw[if_neg hx] at h1 ⊢;exact h1,(s.hadr k a e).2⟩⟩
theorem TL.row_congr {P:Program} {ks:List KO} {b:Nat} {r r':Row} (h1:r'.ty=r.ty) (h2:r'.m=r.m) (h3:∀i,i<r.m→r'.cells i=r.cells i) (k:TL P nt ks K env ((b,r')::h)):TL P nt ks K env ((b,r)::h):=
 fun os hl hz μ a w s=>k os hl hz μ a w ⟨Sim.row_congr s.sim h1 h2 h3,s.env,s.size,s.defers⟩
theorem Sim.set_congr {μ:Mu} {w:World} {b j:Nat} {r r':Row} (nd:Nd h) (hj:h[j]? =some (b,r)) (s:Sim μ h w) (h1:r'.ty=r.ty) (h2:r'.m=r.m) (h3:∀i,i<r.m→r'.cells i=r.cells i):Sim μ (h.set j (b,r')) w:=by
 have hr:=nd.get hj
 obtain ⟨hu,nd'⟩:=nd.upd (r':=r') hj
 rw[←hu]
 refine ⟨fun x q e=>?_,s.inj,s.lt,s.vlt,s.noban,s.banlt,fun k a e=>⟨s.hadr_upd e hr,(s.hadr k a e).2⟩⟩
 rw[Hp.get_upd] at e
 by_cases hx:x=b
 ·subst hx
  rw[if_pos rfl,hr] at e
  simp only[Option.map_some,Option.some.injEq] at e
  subst e
  rcases s.row x r hr with ⟨hv,hn,h0⟩|⟨B,cs,hnv,q1,q2,q3,q4,q5,q6⟩
  ·exact .inl ⟨hv,hn,by rw[h2];exact h0⟩
  ·exact .inr ⟨B,cs,hnv,q1,by rw[h2];exact q2,by rw[h1];exact q3,q4,by rw[h2];exact q5,fun i hi=>by rw[h3 i (by rw[←h2];exact hi)];exact q6 i (by rw[←h2];exact hi)⟩
 ·rw[if_neg hx] at e
  exact s.row x q e
theorem TL.boxO {d:Nat} {lu:List AV} {ks:List KO} (nd:Nd h) (hx:ev env x=(true,u)) (hc:Cells h u lu) (hd:Nat.ble (d+1) nt=true)
 (rest:∀b,Nd ((b,RV t lu)::h)→TL C.P nt ks K ((d,true,.ref b 0 lu.length)::env) ((b,RV t lu)::h)):TL C.P nt (⟨some d,none,.box t x⟩::ks) K env h:=by
 obtain ⟨pc,S,h1,h2,h3,_⟩:=hc
 refine TL.box (m:=lu.length) (pc:=pc) (S:=S) rfl rfl (dlt hd) (by rw[hx]) (by rw[hx];exact h1) h2 fun b hb=>?_
 exact TL.row_congr (r':=RV t lu) rfl rfl (fun i hi=>(h3 i hi).symm) (rest b (nd.cons _ hb))
theorem TL.alO {d:Nat} {i:TI} {l:List AV} {ks:List KO} (nd:Nd h) (ht:C.ty t=some i) (hz:i.z=ofL l) (hl:i.sz=l.length) (hd:Nat.ble (d+1) nt=true)
 (rest:∀b,Nd ((b,RV t l)::h)→TL C.P nt ks K ((d,true,.ref b 0 l.length)::env) ((b,RV t l)::h)):TL C.P nt (⟨some d,none,.al t⟩::ks) K env h:=by
 refine TL.alloc rfl rfl (dlt hd) ht fun b hb=>?_
 rw[hl]
 exact TL.row_congr (r':=RV t l) rfl rfl (fun k _=>by rw[hz];rfl) (rest b (nd.cons _ hb))
theorem TL.mkO {d:Nat} {e:TypeId} {ei:TI} {q q':IntKind} {n:Int} {ks:List KO} (nd:Nd h) (z:α) (hk:C.kd t=some (.slc e)) (he:C.ty e=some ei) (hs:ei.sz=Enc.sz α) (hz:∀j,j<Enc.sz α→ei.z j=ec z j)
 (hx:ev env x=(true,.int q n)) (hy:ev env y=(true,.int q' n)) (hby:0<ei.by') (hn:0≤n∧n*ei.by'≤281474976710656) (hd:Nat.ble (d+1) nt=true)
 (rest:∀b,Nd ((b,RL e (List.replicate n.toNat z))::h)→TL C.P nt ks K ((d,true,OL b (List.replicate n.toNat z))::env) ((b,RL e (List.replicate n.toNat z))::h)):TL C.P nt (⟨some d,none,.mk t x y⟩::ks) K env h:=by
 have hn2:n≤n*ei.by':=by
  have h1:n*1≤n*(ei.by':Int):=Int.mul_le_mul_of_nonneg_left (by omega) hn.1
  omega
 refine TL.mk rfl rfl (dlt hd) hk he hx hy hn.1 hn.2 (by omega) fun b hb=>?_
 have hrep:rep ei n.toNat=rowL (Enc.sz α) ec (List.replicate n.toNat z):=rep_rowL hs Enc.pos hz
 have:=rest b (nd.cons _ hb)
 simp only[OL,RL,List.length_replicate] at this
 rw[hs,hrep]
 exact this
def FixTo (h:Hp) (b:Nat) (v v':AV):Prop:=∀μ w c,Sim μ h w→μ.adr b=none→VR μ w v c→VR (μ.less b) w v' c
theorem fix_id {b:Nat} (v:AV):FixTo h b v v:=fun _ _ _ _ h0 hv=>VR.mono (Step.less h0) _ _ hv
theorem fix_OL (nd:Nd h) {j b:Nat} {ty:TypeId} {xs:List α} (hj:h[j]? =some (b,RL ty xs)):FixTo h b (OL b xs) (L xs):=fun μ w c s _ hv=>by
 have:=fixV_ok s (nd.get hj) hv
 have e:fixV b (RL ty xs) (OL b xs)=L xs:=by
  simp only[fixV,OL,if_true]
  rw[if_pos ⟨rfl,Enc.pos⟩]
  exact CS_all Enc.pos
 rw[e] at this
 exact this
theorem fix_ref (nd:Nd h) {j b o:Nat} {ty:TypeId} {l:List AV} (hj:h[j]? =some (b,RV ty l)):FixTo h b (.ref b o l.length) (.vref (ofL l) l.length o):=fun μ w c s _ hv=>by
 have:=fixV_ok s (nd.get hj) hv
 have e:fixV b (RV ty l) (.ref b o l.length)= .vref (ofL l) l.length o:=by
  simp only[fixV,if_true]
  exact if_pos rfl
 rw[e] at this
 exact this
theorem get_erase {h:Hp} (nd:Nd h) {j b:Nat} {r:Row} (hj:h[j]? =some (b,r)) {x:Nat} {q:Row} (e:Hp.get (h.eraseIdx j) x=some q):x≠b∧h.get x=some q:=by
 induction h generalizing j with
 |nil=>simp at hj
 |cons p h ih=>
  obtain ⟨x',q'⟩:=p
  simp only[Nd,List.map_cons,List.nodup_cons] at nd
  cases j with
  |zero=>
   simp only[List.getElem?_cons_zero,Option.some.injEq,Prod.mk.injEq] at hj
   obtain ⟨rfl,rfl⟩:=hj
   simp only[List.eraseIdx_cons_zero] at e
   have hx:x≠x':=by
    rintro rfl
    have:=Hp.get_none.2 nd.1
    rw[this] at e;cases e
   exact ⟨hx,by simp only[Hp.get];rw[if_neg (fun e=>hx e.symm)];exact e⟩
  |succ j=>
   simp only[List.getElem?_cons_succ] at hj
   simp only[List.eraseIdx_cons_succ,Hp.get] at e
   have hne:x'≠b:=by
    rintro rfl
    exact nd.1 (List.mem_map.2 ⟨_,List.mem_of_getElem? hj,rfl⟩)
   by_cases hx:x'=x
   ·subst hx
    rw[if_pos rfl] at e
    exact ⟨hne,by simp only[Hp.get,if_true];exact e⟩
   ·rw[if_neg hx] at e
    obtain ⟨h1,h2⟩:=ih nd.2 hj e
    exact ⟨h1,by simp only[Hp.get];rw[if_neg hx];exact h2⟩
theorem Nd.erase {h:Hp} (nd:Nd h) (j:Nat):Nd (h.eraseIdx j):=by
 unfold Nd at nd ⊢
 exact nd.sublist ((List.eraseIdx_sublist h j).map _)
theorem Sim.layd {μ:Mu} {w:World} (s:Sim μ h w) (nd:Nd h) {j b:Nat} {r:Row} (hj:h[j]? =some (b,r)):Sim (μ.less b) (h.eraseIdx j) w:=
 Sim.sub (s.less (b:=b) (s.vis (nd.get hj))) fun x q e=>by
  obtain ⟨h1,h2⟩:=get_erase nd hj e
  rw[Hp.get_del,if_neg h1]
  exact h2
def cvs:List (Nat×AV)→Env→Env
 |[],e=>e
 |(t,v)::r,e=>cvE t v (cvs r e)
def SealL (env:Env) (h:Hp) (b:Nat):List (Nat×AV)→Prop
 |[]=>True
 |(t,v')::r=>(∃v,lk (cvs r env) t=some (true,v)∧FixTo h b v v'∧lk env t=some (true,v))∧SealL env h b r
theorem seal_env {μ:Mu} {w:World} {a:Act} {b:Nat} (s:Sim μ h w) (h0:μ.adr b=none) (he:EnvR μ w env a):∀{l:List (Nat×AV)},SealL env h b l→EnvR (μ.less b) w (cvs l env) a
 |[],_=>he.mono (Step.less h0)
 |(t,v')::r,hh=>by
  obtain ⟨⟨v,h1,h2,h3⟩,h4⟩:=hh
  have ih:=seal_env s h0 he h4
  intro t' g v'' e
  rcases cvE_lk h1 e with ⟨rfl,rfl,rfl⟩|⟨_,h5⟩
  ·exact ⟨fun _=>h2 μ w _ s h0 ((he t' true v h3).1 rfl),fun hh=>by cases hh⟩
  ·exact ih t' g v'' h5
theorem TK.lay {P:Program} {Q:Post} {c:KC} (l:List (Nat×AV)) (nd:Nd h) {j b:Nat} {r:Row} (hj:h[j]? =some (b,r)) (hl:SealL env h b l)
 (k:Nd (h.eraseIdx j)→TK P nt c Q (cvs l env) (h.eraseIdx j)):TK P nt c Q env h:=by
 intro c' hc μ a w s
 refine wp_mono (k (nd.erase j) c' hc (μ.less b) a w ⟨Sim.layd s.sim nd hj,seal_env s.sim (s.sim.vis (nd.get hj)) s.env hl,s.size,s.defers⟩) ?_
 rintro e a' w' ⟨μ2,env2,h2,q,s2,st2⟩
 exact ⟨μ2,env2,h2,q,s2,(Step.less (s.sim.vis (nd.get hj))).wtrans st2⟩
theorem TL.lay {P:Program} {ks:List KO} (l:List (Nat×AV)) (nd:Nd h) {j b:Nat} {r:Row} (hj:h[j]? =some (b,r)) (hl:SealL env h b l)
 (k:Nd (h.eraseIdx j)→TL P nt ks K (cvs l env) (h.eraseIdx j)):TL P nt ks K env h:=by
 intro os ho hz μ a w s
 refine TL.cons.wpK_mono ?_ _ _ _ (k (nd.erase j) os ho hz (μ.less b) a w ⟨Sim.layd s.sim nd hj,seal_env s.sim (s.sim.vis (nd.get hj)) s.env hl,s.size,s.defers⟩)
 rintro a' w' ⟨μ2,env2,h2,q,s2,st2⟩
 exact ⟨μ2,env2,h2,q,s2,(Step.less (s.sim.vis (nd.get hj))).trans st2⟩
theorem TL.boxV {d:Nat} {lu:List AV} {ks:List KO} (nd:Nd h) (hx:ev env x=(true,u)) (hc:Cells h u lu) (hd:Nat.ble (d+1) nt=true)
 (rest:TL C.P nt ks K ((d,true,.vref (ofL lu) lu.length 0)::env) h):TL C.P nt (⟨some d,none,.box t x⟩::ks) K env h:=
 TL.boxO nd hx hc hd fun b nd'=>TL.lay [(d,.vref (ofL lu) lu.length 0)] nd' (j:=0) rfl ⟨⟨_,by simp only[cvs,lk,if_true],fix_ref nd' (j:=0) rfl,by simp only[lk,if_true]⟩,trivial⟩ (fun _=>by simpa[cvs,cvE] using rest)
theorem TL.mkV {d:Nat} {e:TypeId} {ei:TI} {q q':IntKind} {n:Int} {ks:List KO} (nd:Nd h) (z:α) (hk:C.kd t=some (.slc e)) (he:C.ty e=some ei) (hs:ei.sz=Enc.sz α) (hz:∀j,j<Enc.sz α→ei.z j=ec z j)
 (hx:ev env x=(true,.int q n)) (hy:ev env y=(true,.int q' n)) (hby:0<ei.by') (hn:0≤n∧n*ei.by'≤281474976710656) (hd:Nat.ble (d+1) nt=true)
 (rest:TL C.P nt ks K ((d,true,L (List.replicate n.toNat z))::env) h):TL C.P nt (⟨some d,none,.mk t x y⟩::ks) K env h:=
 TL.mkO nd z hk he hs hz hx hy hby hn hd fun b nd'=>TL.lay [(d,L (List.replicate n.toNat z))] nd' (j:=0) rfl ⟨⟨_,by simp only[cvs,lk,if_true],fix_OL nd' (j:=0) rfl,by simp only[lk,if_true]⟩,trivial⟩ (fun _=>by simpa[cvs,cvE] using rest)
end
end Go.AX

namespace Go.AX
open Go.AM
section
variable {C:Cx} {nt:Nat} {env:Env} {h:Hp} {K:Env→Hp→Prop} {gc gx gy gz:Bool} {t:TypeId} {x y z:X} {u u1 u2:AV}
variable {α β:Type} [Enc α] [Enc β]
def LitL (env:Env):Nat→List (Nat×X)→List α→Prop
 |_,[],[]=>True
 |i,(k,x)::r,a::az=>(k=i∧ev env x=(true,Enc.v a))∧LitL env (i+1) r az
 |_,_,_=>False
theorem litA_of:∀{ps:List (Nat×X)} {xs:List α} {i:Nat},LitL env i ps xs→∃l S,litA h env (Enc.sz α) i ps=some (l,S)∧S∧l.length=xs.length∧∀(k d:Nat),d<Enc.sz α→∀pc:Nat→AV,l[k]? =some pc→∃a,xs[k]? =some a∧pc d=ec a d
 |[],[],_,_=>⟨[],True,rfl,trivial,rfl,fun k d _ pc hp=>by simp at hp⟩
 |(k,x)::r,a::az,i,⟨⟨hk,hx⟩,hr⟩=>by
  obtain ⟨l,S,h1,h2,h3,h4⟩:=litA_of hr
  obtain ⟨pc,S',h5,h6,h7,_⟩:=Cells_v (h:=h) a
  refine ⟨pc::l,(k=i∧(ev env x).1=true∧S'∧(Enc.cl a).length=Enc.sz α)∧S,by simp only[litA,hx,h5,h1],⟨⟨hk,by rw[hx],h6,Enc.len a⟩,h2⟩,by simp[h3],fun k d hd q hq=>?_⟩
  cases k with
  |zero=>
   simp only[List.getElem?_cons_zero,Option.some.injEq] at hq
   subst hq
   exact ⟨a,rfl,h7 d (by rw[Enc.len a];exact hd)⟩
  |succ k=>
   simp only[List.getElem?_cons_succ] at hq ⊢
   exact h4 k d hd q hq
theorem VS_congr {γ:Type} {sz:Nat} {e1:γ→Nat→AV} {l:List γ} {xs:List α} (hs:sz=Enc.sz α) (hl:l.length=xs.length) (he:∀(k d:Nat),d<sz→∀pc:γ,l[k]? =some pc→∃a,xs[k]? =some a∧e1 pc d=ec a d):rowL sz e1 l=rowL (Enc.sz α) ec xs:=by
 subst hs
 funext j
 rw[rowL_split Enc.pos,rowL_split Enc.pos]
 cases hq:l[j/Enc.sz α]? with
 |none=>
  have:xs[j/Enc.sz α]? =none:=by
   rw[List.getElem?_eq_none_iff] at hq ⊢;omega
  rw[this]
 |some pc=>
  obtain ⟨a,h1,h2⟩:=he _ _ (Nat.mod_lt j Enc.pos) pc hq
  rw[h1]
  exact h2
theorem TL.lit {d n:Nat} {ps:List (Nat×X)} {e:TypeId} {ei:TI} {ks:List KO} (xs:List α) (hk:C.kd t=some (.slc e)) (he:C.ty e=some ei) (hs:ei.sz=Enc.sz α) (hl:LitL env 0 ps xs) (hn:n=xs.length) (hlim:Nat.ble (n*Enc.sz α) 16777216=true) (hd:Nat.ble (d+1) nt=true)
 (rest:TL C.P nt ks K ((d,true,L xs)::env) h):TL C.P nt (⟨some d,none,.bsl t n ps⟩::ks) K env h:=by
 obtain ⟨l,S,h1,h2,h3,h4⟩:=litA_of (h:=h) hl
 refine TL.bslv (gc:=true) rfl rfl (dlt hd) hk he (by rw[hs];exact Nat.le_of_ble_eq_true hlim) (by rw[hs];exact h1) (fun _=>h2) (by rw[h3,hn]) ?_
 have:(AV.sl (catC ei.sz l) (n*ei.sz) n)=L xs:=by
  unfold L VS
  rw[←hn,hs]
  congr 1
  have:=VS_congr (e1:=fun (p:Nat→AV)=>p) (l:=l) (xs:=xs) rfl h3 h4
  rw[←this]
  simp[rowL]
 rw[this]
 exact rest
def splice (l:List AV) (o:Nat) (lu:List AV):List AV:=l.take o++lu++l.drop (o+lu.length)
theorem splice_len {l lu:List AV} {o:Nat} (ho:o+lu.length≤l.length):(splice l o lu).length=l.length:=by simp[splice];omega
theorem putC_splice {l lu:List AV} {o:Nat} {pc:Nat→AV} (ho:o+lu.length≤l.length) (hpc:∀d,d<lu.length→pc d=ofL lu d) {i:Nat} (_:i<l.length):putC (ofL l) o lu.length pc i=ofL (splice l o lu) i:=by
 unfold putC splice
 simp only[ofL,List.getD_eq_getElem?_getD]
 by_cases h1:i<o
 ·rw[if_neg (by omega),List.append_assoc,List.getElem?_append_left (by simp;omega),List.getElem?_take,if_pos h1]
 ·by_cases h2:i<o+lu.length
  ·rw[if_pos (by omega),hpc _ (by omega),List.append_assoc,List.getElem?_append_right (by simp;omega),List.getElem?_append_left (by simp;omega)]
   simp only[ofL,List.getD_eq_getElem?_getD]
   congr 3
   simp;omega
  ·rw[if_neg (by omega),List.getElem?_append_right (by simp;omega),List.getElem?_drop]
   congr 2
   simp;omega
theorem TL.setrow {P:Program} {ks:List KO} (nd:Nd h) {j b:Nat} {r q q':Row} (hj:h[j]? =some (b,r)) (h1:q'.ty=q.ty) (h2:q'.m=q.m) (h3:∀i,i<q.m→q'.cells i=q.cells i)
 (k:Nd (h.set j (b,q'))→TL P nt ks K env (h.set j (b,q'))):TL P nt ks K env (h.upd b q):=by
 obtain ⟨hu,nd'⟩:=nd.upd (r':=q) hj
 obtain ⟨_,nd''⟩:=nd.upd (r':=q') hj
 have hj':(h.set j (b,q))[j]? =some (b,q):=by rw[List.getElem?_set_self (List.getElem?_eq_some_iff.1 hj).1]
 rw[hu]
 intro os hl hz μ a w s
 refine k nd'' os hl hz μ a w ⟨?_,s.env,s.size,s.defers⟩
 have:=Sim.set_congr (r':=q') nd' hj' s.sim h1 h2 h3
 rw[List.set_set] at this
 exact this
theorem allOne_of {pc:Nat→AV}:∀{n:Nat},(∀d,d<n→oneA h (pc d))→allOne h pc n
 |0,_=>trivial
 |n+1,hh=>⟨allOne_of fun d hd=>hh d (by omega),hh n (by omega)⟩
theorem TL.stV {b o st:Nat} {l lu:List AV} {ti:TI} {ks:List KO} (nd:Nd h) (ht:C.ty t=some ti) (hx:ev env x=(true,.ref b o st)) {j:Nat} {ty:TypeId} (hj:h[j]? =some (b,RV ty l)) (hst:st=l.length)
 (hy:ev env y=(true,u)) (hc:Cells h u lu) (hsz:ti.sz=lu.length) (ho:Nat.ble (o+lu.length) l.length=true) (l':List AV) (hl':splice l o lu=l')
 (rest:Nd (h.set j (b,RV ty l'))→TL C.P nt ks K env (h.set j (b,RV ty l'))):TL C.P nt (⟨none,none,.st t x y⟩::ks) K env h:=by
 subst hst hl'
 obtain ⟨pc,S,h1,h2,h3,h4⟩:=hc
 have ho':=Nat.le_of_ble_eq_true ho
 refine TL.st (m:=lu.length) (pc:=pc) (S:=S) (r:=RV ty l) rfl rfl rfl ht hx (nd.get hj) (by rw[hy]) (by rw[hy];exact h1) h2 hsz.symm ho' (allOne_of fun d hd=>?_) ?_
 ·rw[h3 d hd]
  simp only[ofL,List.getD_eq_getElem?_getD,List.getElem?_eq_getElem hd,Option.getD_some]
  exact h4 _ (List.getElem_mem hd)
 ·refine TL.setrow (q:={ RV ty l with cells:=putC (RV ty l).cells o lu.length pc }) (q':=RV ty (splice l o lu)) nd hj rfl (by simp[RV,splice_len ho']) (fun i hi=>?_) rest
  exact (putC_splice ho' h3 hi).symm
def Src (h:Hp) (u:AV) (ys:List α):Prop:=∃pc S,srcA h (Enc.sz α) u=some (ys.length,pc,S)∧S∧∀j,j<ys.length*Enc.sz α→pc j=rowL (Enc.sz α) ec ys j
theorem Src_L (ys:List α):Src h (L ys) ys:=⟨_,_,rfl,Nat.le_refl _,fun _ _=>rfl⟩
theorem Src_OL (nd:Nd h) {j b:Nat} {ty:TypeId} {ys:List α} (hj:h[j]? =some (b,RL ty ys)):Src h (OL b ys) ys:=by
 have hr:=nd.get hj
 refine ⟨cutM (rowL (Enc.sz α) ec ys) 0 (ys.length*Enc.sz α),ys.length*Enc.sz α=(RL ty ys).m∧Enc.sz α=Enc.sz α,by simp only[srcA,OL,hr];rfl,⟨rfl,rfl⟩,fun k hk=>?_⟩
 rw[cutM_at hk,Nat.zero_add]
theorem TL.appO {d b:Nat} {t' e:TypeId} {ei:TI} {xs ys:List α} {ks:List KO} (nd:Nd h) (hk:C.kd t=some (.slc e)) (hk':bytesOK C t') (he:C.ty e=some ei) (hs:ei.sz=Enc.sz α) (hx:ev env x=(true,OL b xs)) {j:Nat} (hj:h[j]? =some (b,RL e xs))
 (hy:ev env y=(true,u)) (hsrc:Src h u ys) (hby:0<ei.by') (hlim:(xs.length+ys.length)*ei.by'≤140737488355328) (hd:Nat.ble (d+1) nt=true)
 (rest:Nd (h.set j (b,RL e (xs++ys)))→TL C.P nt ks K ((d,true,OL b (xs++ys))::env) (h.set j (b,RL e (xs++ys)))):TL C.P nt (⟨some d,none,.bi .append [t,t'] [x,y]⟩::ks) K env h:=by
 obtain ⟨pc,S,h1,h2,h3⟩:=hsrc
 refine TL.appL (sz:=Enc.sz α) (enc:=ec) (r:=RL e xs) (S:=S) (n:=ys.length) (pc:=pc) xs ys rfl rfl (dlt hd) hk hk' he hs hx (nd.get hj) rfl rfl rfl (by rw[hy]) (by rw[hy];exact h1) h2 rfl h3 Enc.pos hby hlim (fun x d hd=>?_) ?_
 ·unfold ec ofL
  rw[List.getD_eq_getElem?_getD]
  have:d<(Enc.cl x).length:=by rw[Enc.len x];exact hd
  rw[List.getElem?_eq_getElem this]
  exact oneA_AV1 (Enc.cell x _ (List.getElem_mem this))
 ·obtain ⟨hu,nd'⟩:=nd.upd (r':=RL e (xs++ys)) hj
  have:=rest nd'
  rw[←hu] at this
  exact this
theorem TL.appN {d:Nat} {t' e:TypeId} {ei:TI} {ys:List α} {ks:List KO} {v:AV} (nd:Nd h) (hk:C.kd t=some (.slc e)) (hk':bytesOK C t') (he:C.ty e=some ei) (hs:ei.sz=Enc.sz α) (hx:ev env x=(true,v)) (hv:v= .nils∨v= .z0)
 (hy:ev env y=(true,u)) (hsrc:Src h u ys) (hby:0<ei.by') (hlim:ys.length*ei.by'≤140737488355328) (hd:Nat.ble (d+1) nt=true)
 (rest:∀b,Nd ((b,RL e ys)::h)→TL C.P nt ks K ((d,true,OL b ys)::env) ((b,RL e ys)::h)):TL C.P nt (⟨some d,none,.bi .append [t,t'] [x,y]⟩::ks) K env h:=by
 obtain ⟨pc,S,h1,h2,h3⟩:=hsrc
 refine TL.cons (gc:=true) rfl ?_ (fun e=>by simp at e)
 intro o μ a w ho hdst s _ N hN
 obtain ⟨ox,oy,hop,hcx,hcy⟩:=two_ops ho
 have vx:=ev_ok hcx s.env (by rw[hx])
 rw[hx] at vx
 have vy:=ev_ok hcy s.env (by rw[hy])
 rw[hy] at vy
 obtain ⟨μ',s',st,hn,hnx,hf⟩:=s.sim.own ⟨e,0,rowL (Enc.sz α) ec ([]:List α)⟩ rfl
 have hxx:∃q,a.eval ox= .slice q 0 0:=by
  rcases hv with rfl|rfl
  ·exact ⟨none,vx⟩
  ·exact vx
 have sa:SimA nt μ' env ((μ.nx,⟨e,0,rowL (Enc.sz α) ec ([]:List α)⟩)::h) a w:=⟨s',s.env.mono st,s.size,s.defers⟩
 have vx':VR μ' w (.rs μ.nx 0 0 0 ei.sz) (a.eval ox):=⟨by omega,by simp,fun _=>⟨rfl,rfl,hxx⟩,fun B e=>by rw[hf] at e;cases e⟩
 have nd1:Nd ((μ.nx,RL e ys)::h):=nd.cons _ hn
 have src':srcA ((μ.nx,(⟨e,0,rowL (Enc.sz α) ec ([]:List α)⟩:Row))::h) ei.sz u=some (ys.length,pc,S):=by
  rw[hs]
  have mono:∀u',srcA h (Enc.sz α) u'=some (ys.length,pc,S)→srcA ((μ.nx,(⟨e,0,rowL (Enc.sz α) ec ([]:List α)⟩:Row))::h) (Enc.sz α) u'=some (ys.length,pc,S):=by
   intro u' hu
   cases u'<;>first
    |exact hu
    |(rename_i b' off len st' sz'
      simp only[srcA] at hu ⊢
      have hne:μ.nx≠b':=by rintro rfl;rw[hn] at hu;cases hu
      simp only[Hp.get,if_neg hne]
      exact hu)
  exact mono u h1
 refine app_wp rfl sa hop hdst (dlt hd) hk hk' he (ei:=ei) (r:=⟨e,0,rowL (Enc.sz α) ec ([]:List α)⟩) vx' (by simp[Hp.get]) rfl (by simp) (VR.mono st _ _ vy) src' h2 (by rw[hs];exact Enc.pos) hby (by simpa using hlim) (fun q hq=>?_) N (fun μ2 env2 h2' a2 w2 s2 st2 k2=>hN μ2 env2 h2' a2 w2 s2 (st.trans st2) k2) ?_
 ·rw[hs] at hq
  rw[h3 q hq,rowL_split Enc.pos]
  have hq2:q/Enc.sz α<ys.length:=Nat.div_lt_of_lt_mul (by rw[Nat.mul_comm];exact hq)
  rw[List.getElem?_eq_getElem hq2]
  have:q%Enc.sz α<(Enc.cl ys[q/Enc.sz α]).length:=by rw[Enc.len];exact Nat.mod_lt _ Enc.pos
  show oneA _ (ec _ _)
  unfold ec ofL
  rw[List.getD_eq_getElem?_getD,List.getElem?_eq_getElem this]
  exact oneA_AV1 (Enc.cell _ _ (List.getElem_mem this))
 ·have hap:=appC_rowL (sz:=Enc.sz α) (enc:=ec) (xs:=([]:List α)) (ys:=ys) (m:=0) (k:=ys.length*Enc.sz α) Enc.pos (by simp) rfl h3
  have:=rest μ.nx nd1
  simp only[Hp.upd,if_true,Nat.zero_add,putE]
  rw[hs,hap,List.nil_append]
  exact this
theorem Wk_nil:Wk .nils (L ([]:List α)):=Wk.nil
theorem TL.wk {P:Program} {ks:List KO} {d:Nat} {g:Bool} {v v':AV} (hw:Wk v v') (k:TL P nt ks K ((d,g,v')::env) h):TL P nt ks K ((d,g,v)::env) h:=
 TL.cv d v' (by simp only[lk,if_true];rfl) hw (by simpa[cvE] using k)
def WkL:List AV→List AV→Prop
 |[],[]=>True
 |v::r,v'::r'=>Wk v v'∧WkL r r'
 |_,_=>False
theorem WkL.at:∀{l l':List AV},WkL l l'→∀i:Nat,Wk (ofL l i) (ofL l' i)
 |[],[],_=>fun i=>Wk.refl _
 |v::r,v'::r',hh=>fun i=>by
  cases i with
  |zero=>exact hh.1
  |succ i=>exact WkL.at hh.2 i
theorem Wk_agg {m:Nat} {l l':List AV} (hl:WkL l l'):Wk (.agg m (ofL l)) (.agg m (ofL l')):=fun μ w _ ⟨vs,e,hm,hc⟩=>
 ⟨vs,e,hm,fun i hi=>WkL.at hl i μ w _ (hc i hi)⟩
theorem TK.wk {P:Program} {Q:Post} {c:KC} (t:Nat) {v:AV} (v':AV) {g:Bool} (hl:lk env t=some (g,v)) (hw:Wk v v') (k:TK P nt c Q (cvE t v' env) h):TK P nt c Q env h:=TK.cv t v' hl hw k
end
def iter {σ ρ:Type} (step:σ→Option (σ ⊕ ρ)):Nat→σ→Option ρ
 |0,_=>none
 |n+1,s=>match step s with
  |some (.inl s')=>iter step n s'
  |some (.inr r)=>some r
  |none=>none
@[irreducible] def FUEL:Nat:=4611686018427387904
def run {σ ρ:Type} (step:σ→Option (σ ⊕ ρ)) (s:σ):Option ρ:=iter step FUEL s
def HSub (hc h:Hp):Prop:=∀b r,hc.get b=some r→h.get b=some r
theorem HSub.refl (h:Hp):HSub h h:=fun _ _ e=>e
theorem HSub.pick {h:Hp} (nd:Nd h) {is:List Nat} (hd:is.Nodup):HSub (AX.pick h is) h:=fun _ _ e=>get_pick nd hd e
section
variable {P:Program} {nt:Nat} {Q:Post} {env:Env} {h:Hp}
theorem TK.iter {b:KC} (ts:List Nat) {σ ρ:Type} {step:σ→Option (σ ⊕ ρ)} (I:σ→Env→Hp→Prop) {s0:σ} {o:ρ} (hrun:run step s0=some o) (h0:I s0 (keepE ts env) h)
 (round:∀s env h x,I s env h→step s=some x→(∀r,x= .inr r→r=o)→TK P nt b (thenQ (fun env' h'=>∃s',x= .inl s'∧I s' (keepE ts env') h') Q) env h):TK P nt (.loop b) Q env h:=by
 unfold run at hrun
 generalize FUEL=n at hrun
 refine TK.loop (fun (s:{ p:Nat×σ // AX.iter step p.1 p.2=some o }) env h=>I s.1.2 (keepE ts env) h) (fun s=>s.1.1) ⟨(n,s0),hrun⟩ h0 ?_
 rintro ⟨⟨n,s⟩,hs⟩ env h hI
 simp only at hs hI
 cases n with
 |zero=>simp[AX.iter] at hs
 |succ n=>
  simp only[AX.iter] at hs
  cases hx:step s with
  |none=>rw[hx] at hs;cases hs
  |some x=>
   rw[hx] at hs
   refine TK.keep ts ((round s _ h x hI hx fun r hr=>?_).mono ?_)
   ·subst hr;simp only[Option.some.injEq] at hs;exact hs
   ·intro e env' h' q
    cases e with
    |normal=>
     obtain ⟨s',rfl,hI'⟩:=q
     exact ⟨⟨(n,s'),hs⟩,hI',Nat.lt_succ_self n⟩
    |_=>exact q
theorem ret1 {t:Nat} {v:AV} {R:AV→Prop} (hl:lk env t=some (true,v)) (hR:R v) (hv:v.val):RetQ [t] (fun r _=>R r∧r.val) .ret env h:=by
 refine ⟨?_,?_⟩<;>simp only[resA,hl,Option.getD_some]
 exact ⟨hR,hv⟩
def lkL (env:Env):List Nat→List AV→Prop
 |[],[]=>True
 |t::ts,v::vs=>lk env t=some (true,v)∧lkL env ts vs
 |_,_=>False
theorem lkL.len:∀{ts:List Nat} {vs:List AV},lkL env ts vs→ts.length=vs.length
 |[],[],_=>rfl
 |_::_,_::_,hh=>by simp[lkL.len hh.2]
theorem lkL.map:∀{ts:List Nat} {vs:List AV},lkL env ts vs→(ts.map fun t=>((lk env t).getD (false,.junk)).2)=vs∧∀t∈ts,((lk env t).getD (false,.junk)).1=true
 |[],[],_=>⟨rfl,fun t ht=>by cases ht⟩
 |t::ts,v::vs,hh=>by
  obtain ⟨h1,h2⟩:=lkL.map hh.2
  refine ⟨by simp only[List.map_cons,hh.1,Option.getD_some,h1],fun t' ht'=>?_⟩
  rcases List.mem_cons.1 ht' with rfl|ht'
  ·rw[hh.1];rfl
  ·exact h2 t' ht'
theorem resN {t1 t2:Nat} {ts:List Nat} {vs:List AV} (hl:lkL env (t1::t2::ts) vs):(resA (t1::t2::ts) env).1= .tup vs.length (ofL vs)∧(resA (t1::t2::ts) env).2:=by
 obtain ⟨h1,h2⟩:=lkL.map hl
 have h3:=lkL.len hl
 refine ⟨?_,h2⟩
 show AV.tup (t1::t2::ts).length (ofL ((t1::t2::ts).map fun t=>((lk env t).getD (false,.junk)).2))=_
 rw[h1,h3]
theorem res0:(resA [] env).1= .tup 0 (ofL [])∧(resA [] env).2:=⟨rfl,fun t ht=>by cases ht⟩
theorem tup_val {l:List AV} (hl:∀v∈l,v.val):(AV.tup l.length (ofL l)).val:=fun i hi=>by
 simp only[ofL,List.getD_eq_getElem?_getD,List.getElem?_eq_getElem hi,Option.getD_some]
 exact hl _ (List.getElem_mem hi)
theorem retN {t1 t2:Nat} {ts:List Nat} {vs:List AV} {R:AV→Prop} (hl:lkL env (t1::t2::ts) vs) (hR:R (.tup vs.length (ofL vs))) (hv:∀v∈vs,v.val):RetQ (t1::t2::ts) (fun r _=>R r∧r.val) .ret env h:=by
 obtain ⟨h1,h2⟩:=resN hl
 exact ⟨h2,by rw[h1];exact hR,by rw[h1];exact tup_val hv⟩
def allVal:List AV→Prop
 |[]=>True
 |v::r=>v.val∧allVal r
theorem allVal.mem:∀{l:List AV},allVal l→∀v∈l,v.val
 |_::_,hh,v,hv=>by
  rcases List.mem_cons.1 hv with rfl|hv
  ·exact hh.1
  ·exact allVal.mem hh.2 v hv
end
end Go.AX

namespace Go.AX
open Go.AM
theorem Nd_nil:Nd []:=by simp[Nd]
section
variable {P:Program} {nt:Nat} {Q:Post} {env:Env} {h:Hp} {α:Type} [Enc α]
theorem TL.cvX {K:Env→Hp→Prop} {d:Nat} {g:Option (Nat×Bool)} {f:X} {xs:List X} {gc:Bool} {fid:FuncId} {args:List AV} {r:AV} {ks:List KO} (hg:gcOf env g=some gc) (hd:Nat.ble (d+1) nt=true)
 (ha:argsA env f xs=some (fid,args)) (hgx:gc=true→(ev env f).1=true∧allG (evs env xs)) (hf:gc=true→Fun P fid args (·=r)) (rest:TL P nt ks K ((d,gc,r)::env) h):TL P nt (⟨some d,g,.call f xs⟩::ks) K env h:=
 TL.callv rfl hg (dlt hd) ha hgx hf rest
theorem TK.ownL {c:KC} (t:Nat) (ty:TypeId) {v:AV} (nd:Nd h) (hl:lk env t=some (true,v)) (hv:v= .nils∨v= .z0)
 (k:∀b,Nd ((b,RL ty ([]:List α))::h)→TK P nt c Q ((t,true,OL b ([]:List α))::env) ((b,RL ty ([]:List α))::h)):TK P nt c Q env h:=
 TK.own t ty (Enc.sz α) (rowL (Enc.sz α) ec ([]:List α)) hl hv fun b hb=>by
  have:=k b (nd.cons _ hb)
  simpa[OL,RL] using this
end
def allOne1:List AV→Prop
 |[]=>True
 |v::r=>AV1 v∧allOne1 r
theorem allOne1.mem:∀{l:List AV},allOne1 l→∀v∈l,AV1 v
 |_::_,hh,v,hv=>by
  rcases List.mem_cons.1 hv with rfl|hv
  ·exact hh.1
  ·exact allOne1.mem hh.2 v hv
theorem vref_val {l:List AV} {n o:Nat} (hn:n=l.length) (hl:allVal l):(AV.vref (ofL l) n o).val:=fun i hi=>by
 subst hn
 simp only[ofL,List.getD_eq_getElem?_getD,List.getElem?_eq_getElem hi,Option.getD_some]
 exact allVal.mem hl _ (List.getElem_mem hi)
theorem caps_val {l:List AV} {n:Nat} (hn:n=l.length) (hl:allVal l):∀i,i<n→(ofL l i).val:=fun i hi=>by
 subst hn
 simp only[ofL,List.getD_eq_getElem?_getD,List.getElem?_eq_getElem hi,Option.getD_some]
 exact allVal.mem hl _ (List.getElem_mem hi)
end Go.AX

namespace Go.AX
open Go.AM Go.RowKit
structure Ent where
 kd:Nat
 i:Nat
 d:Option Nat
 gc:Bool
 v:AV
def envOf:List Ent→Env→Env
 |[],e=>e
 |x::r,e=>putE x.d x.gc x.v (envOf r e)
theorem envOf_lk:∀{R:List Ent} {e:Env} {t:Nat} {g:Bool} {v:AV},lk (envOf R e) t=some (g,v)→(∃x∈R,x.d=some t∧x.gc=g∧x.v=v)∨((∀x∈R,x.d≠some t)∧lk e t=some (g,v))
 |[],e,t,g,v,h=> .inr ⟨(fun x hx=>by cases hx),h⟩
 |x::r,e,t,g,v,h=>by
  simp only[envOf] at h
  cases hd:x.d with
  |none=>
   rw[hd] at h
   simp only[putE] at h
   rcases envOf_lk h with ⟨y,hy,h1⟩|⟨h1,h2⟩
   ·exact .inl ⟨y,List.mem_cons_of_mem _ hy,h1⟩
   ·refine .inr ⟨fun y hy=>?_,h2⟩
    rcases List.mem_cons.1 hy with rfl|hy
    ·rw[hd];intro e;cases e
    ·exact h1 y hy
  |some d=>
   rw[hd] at h
   simp only[putE,lk] at h
   by_cases hdt:d=t
   ·rw[if_pos hdt] at h
    simp only[Option.some.injEq,Prod.mk.injEq] at h
    exact .inl ⟨x,by simp,by rw[hd,hdt],h.1,h.2⟩
   ·rw[if_neg hdt] at h
    rcases envOf_lk h with ⟨y,hy,h1⟩|⟨h1,h2⟩
    ·exact .inl ⟨y,List.mem_cons_of_mem _ hy,h1⟩
    ·refine .inr ⟨fun y hy=>?_,h2⟩
     rcases List.mem_cons.1 hy with rfl|hy
     ·rw[hd];intro e;injection e with e;exact hdt e
     ·exact h1 y hy
def DRunA (P:Program) (nt:Nat) (ks:List KO) (K:Env→Hp→Prop):List (Nat×Nat)→Hp→Env→Hp→Prop
 |[],hS,env,h=>K env (h++hS)
 |(0,i)::r,hS,env,h=>∃k,ks[i]? =some k∧∃gc d v,gcOf env k.g=some gc∧k.d=some d∧d<nt∧(gc=true→VOK P nt hS (keepE (readsK k) env) k.i v)∧DRunA P nt ks K r hS ((d,gc,v)::env) h
 |(1,i)::r,hS,env,h=>∃k,ks[i]? =some k∧∃gc d v,gcOf env k.g=some gc∧k.d=some d∧d<nt∧(gc=true→VOK P nt (h++hS) (keepE (readsK k) env) k.i v)∧DRunA P nt ks K r hS ((d,gc,v)::env) h
 |(n+2,i)::r,hS,env,h=>∃k,ks[i]? =some k∧k.g=none∧(∀d,k.d=some d→d<nt)∧
    TL P nt [k] (fun env' h'=>∃v hE hT,(n=0→hT=hS)∧env'=putE k.d true v (keepE (readsK k) env)∧h'=hE++hT∧HSub hT (hE++hT)∧DRunA P nt ks K r hT (putE k.d true v env) hE) (keepE (readsK k) env) (h++hS)
abbrev DRun (P:Program) (nt:Nat) (hS:Hp) (ks:List KO) (K:Env→Hp→Prop) (sc:List (Nat×Nat)) (env:Env) (h:Hp):Prop:=DRunA P nt ks K sc hS env h
def edge (ops:Array Oper) (j i:Nat):Bool:=match ops[j]? with
 |some o=>o.after.any fun e=>Region.binds .any e&&e.on==i
 |none=>false
def kindAt (sc:List (Nat×Nat)) (p:Nat):Nat:=match sc[p]? with|some x=>min x.1 2|none=>3
def ixAt (sc:List (Nat×Nat)) (p:Nat):Nat:=match sc[p]? with|some x=>x.2|none=>0
def nextE (sc:List (Nat×Nat)) (p:Nat):Option Nat:=(List.range sc.length).find? fun q=>decide (p<q)&&kindAt sc q==2
def okAt (ops:Array Oper) (ks:List KO) (sc:List (Nat×Nat)) (p:Nat):Bool:=
 match ops[ixAt sc p]?,ks[ixAt sc p]? with
 |some o,some k=>
  o.after.all (fun e=> !Region.binds .any e||(List.range p).any fun q=>ixAt sc q==e.on)&&
  ((List.range sc.length).all fun q=>q==p||(ixAt sc q !=ixAt sc p&&match ks[ixAt sc q]? with
    |some k'=>match k'.d with
     |some t=>(k.d !=some t)&&(!(readsK k).contains t||(decide (q<p)&&edge ops (ixAt sc p) (ixAt sc q))||(decide (p<q)&&edge ops (ixAt sc q) (ixAt sc p)))
     |none=>true
    |none=>false))&&
  ((List.range p).all fun q=>kindAt sc q !=2||(List.range p).any fun r=>decide (q≤r)&&edge ops (ixAt sc p) (ixAt sc r))&&
  (kindAt sc p !=1||match nextE sc p with
    |none=>true
    |some q=>(List.range (q+1)).any fun r=>decide (p<r)&&(kindAt sc r==1||r==q)&&edge ops (ixAt sc r) (ixAt sc p))&&
  (!(match sc[p]? with|some x=>decide (3≤x.1)|none=>false)||(List.range p).all fun q=>edge ops (ixAt sc p) (ixAt sc q))
 |_,_=>false
def okSched (ops:Array Oper) (ks:List KO) (sc:List (Nat×Nat)):Bool:=(sc.length==ops.size)&&((List.range ops.size).all fun j=>(List.range sc.length).any fun p=>ixAt sc p==j)&&(List.range sc.length).all fun p=>okAt ops ks sc p
structure SchedOK (ops:Array Oper) (ks:List KO) (sc:List (Nat×Nat)):Prop where
 len:sc.length=ops.size
 sur:∀j,j<ops.size→∃p,p<sc.length∧ixAt sc p=j
 deps:∀p,p<sc.length→∃o k,ops[ixAt sc p]? =some o∧ks[ixAt sc p]? =some k∧∀e∈o.after,Region.binds .any e=true→∃q,q<p∧ixAt sc q=e.on
 inj:∀p q,p<sc.length→q<sc.length→p≠q→ixAt sc q≠ixAt sc p
 rw:∀p q,p<sc.length→q<sc.length→p≠q→∀k k' t,ks[ixAt sc p]? =some k→ks[ixAt sc q]? =some k'→k'.d=some t→k.d≠some t∧
  (t∈readsK k→(q<p∧edge ops (ixAt sc p) (ixAt sc q)=true)∨(p<q∧edge ops (ixAt sc q) (ixAt sc p)=true))
 aft:∀p q,p<sc.length→q<p→kindAt sc q=2→∃r,q≤r∧r<p∧edge ops (ixAt sc p) (ixAt sc r)=true
 one:∀p,p<sc.length→kindAt sc p=1→∀q,nextE sc p=some q→∃r,p<r∧r≤q∧(kindAt sc r=1∨r=q)∧edge ops (ixAt sc r) (ixAt sc p)=true
 all3:∀p x,sc[p]? =some x→3≤x.1→∀q,q<p→edge ops (ixAt sc p) (ixAt sc q)=true
theorem okSched_ok {ops:Array Oper} {ks:List KO} {sc:List (Nat×Nat)} (h:okSched ops ks sc=true):SchedOK ops ks sc:=by
 unfold okSched at h
 simp only[Bool.and_eq_true,beq_iff_eq,List.all_eq_true,List.mem_range] at h
 obtain ⟨⟨hlen,hsur⟩,hall⟩:=h
 have at':∀p,p<sc.length→∃o k,ops[ixAt sc p]? =some o∧ks[ixAt sc p]? =some k∧
  (o.after.all (fun e=> !Region.binds .any e||(List.range p).any fun q=>ixAt sc q==e.on)=true∧
  ((List.range sc.length).all fun q=>q==p||(ixAt sc q !=ixAt sc p&&match ks[ixAt sc q]? with
    |some k'=>match k'.d with
     |some t=>(k.d !=some t)&&(!(readsK k).contains t||(decide (q<p)&&edge ops (ixAt sc p) (ixAt sc q))||(decide (p<q)&&edge ops (ixAt sc q) (ixAt sc p)))
     |none=>true
    |none=>false))=true)∧
  ((List.range p).all fun q=>kindAt sc q !=2||(List.range p).any fun r=>decide (q≤r)&&edge ops (ixAt sc p) (ixAt sc r))=true∧
  (kindAt sc p !=1||match nextE sc p with
    |none=>true
    |some q=>(List.range (q+1)).any fun r=>decide (p<r)&&(kindAt sc r==1||r==q)&&edge ops (ixAt sc r) (ixAt sc p))=true∧
  (!(match sc[p]? with|some x=>decide (3≤x.1)|none=>false)||(List.range p).all fun q=>edge ops (ixAt sc p) (ixAt sc q))=true:=by
  intro p hp
  have:=hall p hp
  unfold okAt at this
  split at this
  ·rename_i o k h1 h2
   simp only[Bool.and_eq_true] at this
   exact ⟨o,k,h1,h2,this.1.1.1,this.1.1.2,this.1.2,this.2⟩
  ·cases this
 refine ⟨hlen,fun j hj=>?_,fun p hp=>?_,fun p q hp hq hne=>?_,fun p q hp hq hne k k' t hk hk' ht=>?_,fun p q hp hq hkq=>?_,fun p hp hk q hq=>?_,fun p x hx h3 q hq=>?_⟩
 ·have:=hsur j hj
  simp only[List.any_eq_true,List.mem_range,beq_iff_eq] at this
  exact this
 ·obtain ⟨o,k,h1,h2,h3,_⟩:=at' p hp
  refine ⟨o,k,h1,h2,fun e he hb=>?_⟩
  have:=Array.all_eq_true_iff_forall_mem.1 h3.1 e he
  simp only[hb,Bool.not_true,Bool.false_or,List.any_eq_true,List.mem_range,beq_iff_eq] at this
  exact this
 ·obtain ⟨o,k,h1,h2,h3,_⟩:=at' p hp
  have:=List.all_eq_true.1 h3.2 q (List.mem_range.2 hq)
  simp only[Bool.or_eq_true,beq_iff_eq,Bool.and_eq_true,bne_iff_ne,ne_eq] at this
  rcases this with h|h
  ·exact (hne h.symm).elim
  ·exact h.1
 ·obtain ⟨o,k0,h1,h2,h3,_⟩:=at' p hp
  rw[hk] at h2
  injection h2 with h2
  subst h2
  have:=List.all_eq_true.1 h3.2 q (List.mem_range.2 hq)
  simp only[Bool.or_eq_true,beq_iff_eq,Bool.and_eq_true,bne_iff_ne,ne_eq] at this
  rcases this with h|h
  ·exact (hne h.symm).elim
  ·have h4:=h.2
   rw[hk',] at h4
   simp only[ht,Bool.and_eq_true,Bool.or_eq_true,bne_iff_ne,ne_eq,Bool.not_eq_true',decide_eq_true_eq] at h4
   refine ⟨h4.1,fun hr=>?_⟩
   rcases h4.2 with (h5|h5)|h5
   ·exfalso;rw[List.contains_iff_mem.2 hr] at h5;cases h5
   ·exact .inl h5
   ·exact .inr h5
 ·obtain ⟨o,k,_,_,_,h3,_⟩:=at' p hp
  have:=List.all_eq_true.1 h3 q (List.mem_range.2 hq)
  simp only[hkq,bne_self_eq_false,Bool.false_or,List.any_eq_true,List.mem_range,Bool.and_eq_true,decide_eq_true_eq] at this
  obtain ⟨r,h4,h5,h6⟩:=this
  exact ⟨r,h5,h4,h6⟩
 ·obtain ⟨o,k,_,_,_,_,h3,_⟩:=at' p hp
  rw[hk,hq] at h3
  simp only[bne_self_eq_false,Bool.false_or,List.any_eq_true,List.mem_range,Bool.and_eq_true,decide_eq_true_eq,Bool.or_eq_true,beq_iff_eq] at h3
  obtain ⟨r,h4,⟨h5,h6⟩,h7⟩:=h3
  exact ⟨r,h5,by omega,h6,h7⟩
 ·obtain ⟨o,k,_,_,_,_,_,h4⟩:=at' p (List.getElem?_eq_some_iff.1 hx).1
  rw[hx] at h4
  simp only[h3,decide_true,Bool.not_true,Bool.false_or,List.all_eq_true,List.mem_range] at h4
  exact h4 q hq
theorem edge_of {ops:Array Oper} {j i:Nat} (h:edge ops j i=true) {o:Oper} (ho:ops[j]? =some o):∃e∈o.after,Region.binds .any e=true∧e.on=i:=by
 unfold edge at h
 rw[ho] at h
 obtain ⟨e,he,hb⟩:=Array.any_eq_true'.1 h
 simp only[Bool.and_eq_true,beq_iff_eq] at hb
 exact ⟨e,he,hb.1,hb.2⟩
theorem VOK.sub {P:Program} {nt:Nat} {h h':Hp} {env:Env} {i:I} {v:AV} (hv:VOK P nt h env i v) (hs:HSub h h'):VOK P nt h' env i v:=
 fun o μ a w ho s N hN=>hv o μ a w ho ⟨Sim.sub s.sim hs,s.env,s.size,s.defers⟩ N hN
theorem wp_put {P:Program} {o:Oper} {a:Act} {w:World} {N:Act→World→Prop} {Q:Exit→Act→World→Prop} (hnd:∀a' w',N a' w'→a'.defers=[]) (h:o.wp P a w N Q):
 o.wp P a w (fun a' w'=>N a' w'∧∃c,a'=a.put o.dst c) Q:=by
 unfold Oper.wp at h ⊢
 generalize hr:(execOp a.eval o).run P w=r at h
 unfold Oper.upon at h ⊢
 split at h
 ·exact ⟨h,_,rfl⟩
 ·exact ⟨h,_,rfl⟩
 ·have:=hnd _ _ h
  rw[put_defers] at this
  cases this
 ·exact h.mono fun e w' he=>by
   cases e<;>first|exact ⟨he,_,rfl⟩|exact he
 ·exact h.mono fun v w' he=>⟨he,_,rfl⟩
 ·exact h
 ·exact h.elim
section
variable {P:Program} {nt:Nat} {Q:Post} {env0:Env} {hS:Hp}
def Facts (P:Program) (nt:Nat) (hS:Hp) (env0:Env) (ks:List KO) (ex:Nat→Bool) (h:Hp):List Ent→Prop
 |[]=>True
 |x::post=>(∃k,ks[x.i]? =some k∧x.d=k.d∧(∀d,k.d=some d→d<nt)∧(x.kd<2→k.d≠none)∧gcOf (envOf post env0) k.g=some x.gc∧
   (x.kd=0→ex x.i=false→x.gc=true→VOK P nt hS (keepE (readsK k) (envOf post env0)) k.i x.v)∧(x.kd=1→ex x.i=false→x.gc=true→VOK P nt (h++hS) (keepE (readsK k) (envOf post env0)) k.i x.v)∧
   (2≤x.kd→ex x.i=true))∧Facts P nt hS env0 ks ex h post
theorem Facts.at {ks:List KO} {ex:Nat→Bool} {h:Hp}:∀{R:List Ent},Facts P nt hS env0 ks ex h R→∀{pre post:List Ent} {x:Ent},R=pre++x::post→∃k,ks[x.i]? =some k∧x.d=k.d∧(∀d,k.d=some d→d<nt)∧(x.kd<2→k.d≠none)∧gcOf (envOf post env0) k.g=some x.gc∧
 (x.kd=0→ex x.i=false→x.gc=true→VOK P nt hS (keepE (readsK k) (envOf post env0)) k.i x.v)∧(x.kd=1→ex x.i=false→x.gc=true→VOK P nt (h++hS) (keepE (readsK k) (envOf post env0)) k.i x.v)∧
 (2≤x.kd→ex x.i=true)
 |[],_,pre,post,x,e=>by cases pre<;>cases e
 |y::R,hf,[],post,x,e=>by
  simp only[List.nil_append,List.cons.injEq] at e
  obtain ⟨rfl,rfl⟩:=e
  exact hf.1
 |y::R,hf,p::pre,post,x,e=>by
  simp only[List.cons_append,List.cons.injEq] at e
  exact Facts.at hf.2 e.2
theorem Facts.mono {ks:List KO} {ex ex':Nat→Bool} {h h':Hp}:∀{R:List Ent},Facts P nt hS env0 ks ex h R→(∀x∈R,ex x.i=true→ex' x.i=true)→(∀x∈R,x.kd=1→ex' x.i=false→h'=h)→Facts P nt hS env0 ks ex' h' R
 |[],_,_,_=>trivial
 |x::post,hf,h1,h2=>by
  obtain ⟨⟨k,q1,q2,q3,q4,q5,q6,q7,q8⟩,hr⟩:=hf
  have back:ex' x.i=false→ex x.i=false:=fun he=>by
   cases hx:ex x.i with
   |false=>rfl
   |true=>rw[h1 x (by simp) hx] at he;cases he
  refine ⟨⟨k,q1,q2,q3,q4,q5,fun hk he hg=>q6 hk (back he) hg,fun hk he hg=>?_,fun hk=>h1 x (by simp) (q8 hk)⟩,Facts.mono hr (fun y hy=>h1 y (List.mem_cons_of_mem _ hy)) (fun y hy=>h2 y (List.mem_cons_of_mem _ hy))⟩
  rw[h2 x (by simp) hk he]
  exact q7 hk (back he) hg
theorem Facts.all {ks:List KO} {ex ex':Nat→Bool} {h h' hT:Hp}:∀{R:List Ent},Facts P nt hS env0 ks ex h R→(∀x∈R,ex' x.i=true)→Facts P nt hT env0 ks ex' h' R
 |[],_,_=>trivial
 |x::post,hf,h1=>by
  obtain ⟨⟨k,q1,q2,q3,q4,q5,_,_,q8⟩,hr⟩:=hf
  have hx:=h1 x (by simp)
  exact ⟨⟨k,q1,q2,q3,q4,q5,fun _ he=>(by rw[hx] at he;cases he),fun _ he=>(by rw[hx] at he;cases he),fun _=>hx⟩,Facts.all hr (fun y hy=>h1 y (List.mem_cons_of_mem _ hy))⟩
end
end Go.AX

namespace Go.AX
open Go.AM Go.RowKit
theorem nextE_spec {sc:List (Nat×Nat)} {p e:Nat} (hpe:p<e) (he:e<sc.length) (hk:kindAt sc e=2):∃q,nextE sc p=some q∧p<q∧q≤e∧kindAt sc q=2:=by
 unfold nextE
 cases hf:(List.range sc.length).find? fun q=>decide (p<q)&&kindAt sc q==2 with
 |none=>
  exfalso
  have:=List.find?_eq_none.1 hf e (List.mem_range.2 he)
  simp[hpe,hk] at this
 |some q=>
  have h1:=List.find?_some hf
  simp only[Bool.and_eq_true,decide_eq_true_eq,beq_iff_eq] at h1
  refine ⟨q,rfl,h1.1,?_,h1.2⟩
  rcases Nat.lt_or_ge e q with hlt|hge
  ·exfalso
   obtain ⟨hq1,az,bs,hab,hno⟩:=List.find?_eq_some_iff_append.1 hf
   have hem:e∈az:=by
    have he2:e∈List.range sc.length:=List.mem_range.2 he
    rw[hab] at he2
    rcases List.mem_append.1 he2 with h|h
    ·exact h
    ·exfalso
     have hs:(List.range sc.length).Pairwise (·<·):=List.pairwise_lt_range
     rw[hab] at hs
     have h3:=(List.pairwise_append.1 hs).2.1
     rcases List.mem_cons.1 h with rfl|h
     ·omega
     ·have:=(List.pairwise_cons.1 h3).1 e h
      omega
   have:=hno e hem
   simp[hpe,hk] at this
  ·exact hge
section
variable {P:Program} {nt:Nat} {Q:Post} {env:Env} {h hS:Hp}
structure Inv (P:Program) (nt:Nat) (hS:Hp) (env:Env) (ks:List KO) (sc:List (Nat×Nat)) (n:Nat) (ops:Array Oper) (K:Env→Hp→Prop) (μ0:Mu) (w0:World) (listed:Array Bool) (a:Act) (w:World) (R:List Ent) (h1:Hp) (μ:Mu):Prop where
 al:∀pre x post,R=pre++x::post→sc[post.length]? =some (x.kd,x.i)
 run:DRun P nt hS ks K (sc.drop R.length) (envOf R env) h1
 size:listed.size=n
 sim:Sim μ (h1++hS) w
 hsub:HSub hS (h1++hS)
 tmps:a.tmps.size=nt
 defers:a.defers=[]
 step:Step μ0 w0 μ w
 clo:∀i,listed.getD i false=true→∀o,ops[i]? =some o→∀e∈o.after,Region.binds .any e=true→listed.getD e.on false=true
 sub:∀i,listed.getD i false=true→∃x∈R,x.i=i
 facts:Facts P nt hS env ks (fun i=>listed.getD i false) h1 R
 told:∀x∈R,listed.getD x.i false=true→∀d,x.d=some d→AM.Told μ w a d x.gc x.v
 base:∀t g v,(∀x∈R,listed.getD x.i false=true→x.d≠some t)→lk env t=some (g,v)→AM.Told μ w a t g v
theorem told_mono {μ μ':Mu} {w w':World} {a:Act} {t:Nat} {g:Bool} {v:AV} (k:AM.Told μ w a t g v) (st:Step μ w μ' w'):AM.Told μ' w' a t g v:=⟨fun hg=>VR.mono st _ _ (k.1 hg),k.2⟩
theorem pos_at {sc:List (Nat×Nat)} {p kd i:Nat} (h:sc[p]? =some (kd,i)):p<sc.length∧ixAt sc p=i∧kindAt sc p=min kd 2:=by
 refine ⟨(List.getElem?_eq_some_iff.1 h).1,?_,?_⟩
 ·unfold ixAt;rw[h]
 ·unfold kindAt;rw[h]
theorem suf_at {R pre post:List Ent} {z:Ent} (e:R=pre++z::post):R.reverse[post.length]? =some z:=by
 rw[e,List.reverse_append,List.reverse_cons,List.append_assoc,List.getElem?_append_right (by simp)]
 simp
theorem suf_mem {R pre pre3 post post3:List Ent} {x z:Ent} (e1:R=pre++x::post) (e3:R=pre3++z::post3) (h:post3.length<post.length):z∈post:=by
 have h1:=suf_at e3
 rw[e1,List.reverse_append,List.reverse_cons,List.append_assoc,List.getElem?_append_left (by simpa using h)] at h1
 have:=List.mem_of_getElem? h1
 simpa using this
variable {ks:List KO} {sc:List (Nat×Nat)} {ops:Array Oper} {K:Env→Hp→Prop} {μ0:Mu} {w0:World}
theorem Inv.fresh {n:Nat} {listed:Array Bool} {a:Act} {w:World} {R:List Ent} {h1:Hp} {μ:Mu} (S:SchedOK ops ks sc) (V:Inv P nt hS env ks sc n ops K μ0 w0 listed a w R h1 μ) {p:Nat} (hp:p<sc.length) (hR:R.length≤p):
 listed.getD (ixAt sc p) false=false:=by
 cases hb:listed.getD (ixAt sc p) false with
 |false=>rfl
 |true=>
  exfalso
  obtain ⟨x,hx,hxi⟩:=V.sub _ hb
  obtain ⟨pre,post,e⟩:=List.append_of_mem hx
  obtain ⟨h1,h2,_⟩:=pos_at (V.al pre x post e)
  have hlt:post.length<R.length:=by rw[e];simp;omega
  exact S.inj p post.length hp h1 (by omega) (by rw[h2];exact hxi)
theorem Inv.unroll {n:Nat} {listed:Array Bool} {a:Act} {w:World} (S:SchedOK ops ks sc):∀(m:Nat) (R:List Ent) (h1:Hp) (μ:Mu),sc.length-R.length≤m→Inv P nt hS env ks sc n ops K μ0 w0 listed a w R h1 μ→
 ∃R',Inv P nt hS env ks sc n ops K μ0 w0 listed a w R' h1 μ∧∀x,sc[R'.length]? =some x→2≤x.1
 |0,R,h1,μ,hm,V=>⟨R,V,fun x hx=>by have:=(List.getElem?_eq_some_iff.1 hx).1;omega⟩
 |m+1,R,h1,μ,hm,V=>by
  cases hx:sc[R.length]? with
  |none=>exact ⟨R,V,fun x h=>by rw[hx] at h;cases h⟩
  |some x=>
   obtain ⟨kd,i⟩:=x
   by_cases h2:2≤kd
   ·exact ⟨R,V,fun x h=>by rw[hx] at h;injection h with h;subst h;exact h2⟩
   ·have hlt:=(List.getElem?_eq_some_iff.1 hx).1
    have hdrop:sc.drop R.length=(kd,i)::sc.drop (R.length+1):=by
     rw[List.drop_eq_getElem_cons hlt,(List.getElem?_eq_some_iff.1 hx).2]
    have hrun:=V.run
    rw[hdrop] at hrun
    have hfr:=V.fresh S hlt (Nat.le_refl _)
    have hix:ixAt sc R.length=i:=(pos_at hx).2.1
    rw[hix] at hfr
    have key:∃k,ks[i]? =some k∧∃gc d v,gcOf (envOf R env) k.g=some gc∧k.d=some d∧d<nt∧(kd=0→gc=true→VOK P nt hS (keepE (readsK k) (envOf R env)) k.i v)∧
     (kd=1→gc=true→VOK P nt (h1++hS) (keepE (readsK k) (envOf R env)) k.i v)∧DRun P nt hS ks K (sc.drop (R.length+1)) ((d,gc,v)::envOf R env) h1:=by
     match kd,h2,hrun with
     |0,_,⟨k,q1,gc,d,v,q2,q3,q4,q5,q6⟩=>exact ⟨k,q1,gc,d,v,q2,q3,q4,fun _=>q5,(fun e=>by cases e),q6⟩
     |1,_,⟨k,q1,gc,d,v,q2,q3,q4,q5,q6⟩=>exact ⟨k,q1,gc,d,v,q2,q3,q4,(fun e=>by cases e),fun _=>q5,q6⟩
     |k+2,h2,_=>exact (h2 (by omega)).elim
    obtain ⟨k,q1,gc,d,v,q2,q3,q4,q5,q6,q7⟩:=key
    refine Inv.unroll S m (⟨kd,i,some d,gc,v⟩::R) h1 μ (by simp;omega) ⟨?_,?_,V.size,V.sim,V.hsub,V.tmps,V.defers,V.step,V.clo,?_,⟨⟨k,q1,q3.symm,fun d' hd'=>?_,fun _=>by rw[q3];simp,q2,fun h _=>q5 h,fun h _=>q6 h,fun h=>absurd h h2⟩,V.facts⟩,?_,?_⟩
    ·intro pre x post e
     cases pre with
     |nil=>simp only[List.nil_append,List.cons.injEq] at e;obtain ⟨rfl,rfl⟩:=e;exact hx
     |cons y pre=>simp only[List.cons_append,List.cons.injEq] at e;exact V.al pre x post e.2
    ·exact q7
    ·intro j hj
     obtain ⟨x,hx1,hx2⟩:=V.sub j hj
     exact ⟨x,List.mem_cons_of_mem _ hx1,hx2⟩
    ·rw[q3] at hd';injection hd' with hd';omega
    ·intro x hx1 hx2 d' hd'
     rcases List.mem_cons.1 hx1 with rfl|hx1
     ·rw[hfr] at hx2;cases hx2
     ·exact V.told x hx1 hx2 d' hd'
    ·intro t g u hno hl
     exact V.base t g u (fun x hx1=>hno x (List.mem_cons_of_mem _ hx1)) hl
theorem TK.drwX {ops:Array Oper} {ks:List KO} (sc:List (Nat×Nat)) (hm:P.follows .mixedOrders=true) (hck:okSched ops ks sc=true)
 (hsub:HSub hS (h++hS)) (hrun:DRun P nt hS ks (fun env h=>Q .normal env h) sc env h):TK P nt (.drw ops ks) Q env (h++hS):=by
 have S:=okSched_ok hck
 intro c hc μ0 a0 w0 hs
 cases c<;>(try simp[cookC] at hc)
 case seq x y=>split at hc<;>simp at hc
 case cond x y z=>split at hc<;>simp at hc
 case region id ops' dr=>
  cases dr with
  |false=>simp[cookC] at hc
  |true=>
   simp only[cookC,Option.map_eq_some_iff] at hc
   obtain ⟨ks',h1,h2⟩:=hc
   injection h2 with h2a h2b
   subst h2a h2b
   obtain ⟨hl,hz⟩:=cookL_at h1
   have hlk:ks'.length=ops'.size:=by simpa using hl.symm
   have hops:∀(j:Nat) (o:Oper),ops'[j]? =some o→∃k,ks'[j]? =some k∧cookOp o.op=some k.i∧o.dst=k.d∧cookG ops' o.guard=some k.g:=by
    intro j o ho
    obtain ⟨hj,rfl⟩:=Array.getElem?_eq_some_iff.1 ho
    have hj':j<ks'.length:=by omega
    refine ⟨ks'[j],by simp[hj'],?_⟩
    refine cookO_at (hz (ops'[j],ks'[j]) ?_)
    rw[List.mem_iff_getElem]
    exact ⟨j,by simp only[List.length_zip,Array.length_toList];omega,by simp⟩
   have done:∀listed a w R h1 μ hS,Inv P nt hS env ks' sc ops'.size ops' (fun env h=>Q .normal env h) μ0 w0 listed a w R h1 μ→(∀i,i<ops'.size→listed.getD i false=true)→
    ∃μ' env' h',Q .normal env' h'∧SimA nt μ' env' h' a w∧WStep μ0 w0 μ' w:=by
    intro listed a w R h1 μ hS V hall
    have hend:sc.length≤R.length:=by
     rcases Nat.lt_or_ge R.length sc.length with hlt|hge
     ·exfalso
      obtain ⟨o,k,ho,_⟩:=S.deps R.length hlt
      have:=V.fresh S hlt (Nat.le_refl _)
      rw[hall _ (Array.getElem?_eq_some_iff.1 ho).1] at this
      cases this
     ·exact hge
    have hq:=V.run
    rw[List.drop_eq_nil_of_le hend] at hq
    refine ⟨μ,envOf R env,h1++hS,hq,⟨V.sim,fun t g v e=>?_,V.tmps,V.defers⟩,V.step⟩
    have ex:∀x∈R,listed.getD x.i false=true:=by
     intro x hx
     obtain ⟨pre,post,e⟩:=List.append_of_mem hx
     obtain ⟨q1,q2,_⟩:=pos_at (V.al pre x post e)
     obtain ⟨o,k,ho,_⟩:=S.deps post.length q1
     have:=hall _ (Array.getElem?_eq_some_iff.1 ho).1
     rw[q2] at this
     exact this
    rcases envOf_lk e with ⟨x,hx,hd,rfl,rfl⟩|⟨hno,hl⟩
    ·exact V.told x hx (ex x hx) t hd
    ·exact V.base t g v (fun x hx _=>hno x hx) hl
   have main:∀(fuel:Nat) (listed:Array Bool) (a:Act) (w:World) (R:List Ent) (h1:Hp) (μ:Mu) (hS:Hp),Inv P nt hS env ks' sc ops'.size ops' (fun env h=>Q .normal env h) μ0 w0 listed a w R h1 μ→listed.toList.count false≤fuel→
    wpAny P .any ops' (fun e a' w'=>∃μ' env' h',Q e env' h'∧SimA nt μ' env' h' a' w'∧WStep μ0 w0 μ' w') fuel listed a w:=by
    intro fuel
    induction fuel with
    |zero=>
     intro listed a w R h1 μ hS V hcnt
     have hall:∀i,i<ops'.size→listed.getD i false=true:=by
      intro i hi
      have hi':i<listed.size:=by rw[V.size];exact hi
      have h0:listed.toList.count false=0:=by omega
      rw[List.count_eq_zero] at h0
      cases hb:listed.getD i false with
      |true=>rfl
      |false=>
       exfalso
       apply h0
       have:listed[i]=false:=by simpa[Array.getD,hi'] using hb
       rw[←this]
       simp
     refine ⟨?_,done _ _ _ _ _ _ _ V hall⟩
     cases hr:Region.ready .any ops' listed with
     |nil=>rfl
     |cons j r=>
      exfalso
      have hj:j∈Region.ready .any ops' listed:=by rw[hr];simp
      obtain ⟨hun,o,ho,_⟩:=mem_ready.1 hj
      have hlt:=(Array.getElem?_eq_some_iff.1 ho).1
      have h3:=hall j hlt
      have hlt':j<listed.size:=by rw[V.size];exact hlt
      simp[Array.getD,hlt'] at h3 hun
      rw[hun] at h3
      cases h3
    |succ fuel ih=>
     intro listed a w R0 h1 μ hS V0 hcnt
     refine ⟨fun hr=>?_,fun j hj=>?_⟩
     ·have hall:∀p,p<sc.length→listed.getD (ixAt sc p) false=true:=by
       intro p
       induction p using Nat.strongRecOn with
       |_ p ihp=>
        intro hp
        obtain ⟨o,k,ho,hk,hdep⟩:=S.deps p hp
        have hi:=(Array.getElem?_eq_some_iff.1 ho).1
        have hi':ixAt sc p<listed.size:=by rw[V0.size];exact hi
        cases hb:listed.getD (ixAt sc p) false with
        |true=>rfl
        |false=>
         exfalso
         have hmem:ixAt sc p∈Region.ready .any ops' listed:=by
          rw[mem_ready]
          refine ⟨by simpa[Array.getD,hi'] using hb,o,ho,fun e he hbd=>?_⟩
          obtain ⟨q,hq,hqe⟩:=hdep e he hbd
          rw[←hqe]
          exact ihp q hq (by omega)
         rw[hr] at hmem
         cases hmem
      refine done _ _ _ _ _ _ _ V0 fun i hi=>?_
      obtain ⟨p,hp,rfl⟩:=S.sur i hi
      exact hall p hp
     ·obtain ⟨R,V,hnext⟩:=Inv.unroll S _ R0 h1 μ (Nat.le_refl _) V0
      clear V0 R0
      obtain ⟨hun,o,ho,hafter⟩:=mem_ready.1 hj
      have hlt:=(Array.getElem?_eq_some_iff.1 ho).1
      have hlt':j<listed.size:=by rw[V.size];exact hlt
      have hunF:listed.getD j false=false:=by simpa[Array.getD,hlt'] using hun
      obtain ⟨kj,hkj,hop,hdst,hguard⟩:=hops j o ho
      have getj:∀i,(listed.setIfInBounds j true).getD i false=true→i=j∨listed.getD i false=true:=by
       intro i hi
       by_cases hij:i=j
       ·exact .inl hij
       ·right
        rw[getD_set_ne false (fun e=>hij e.symm)] at hi
        exact hi
      have setj:(listed.setIfInBounds j true).getD j false=true:=by simp[Array.getD,hlt']
      have hcnt':(listed.setIfInBounds j true).toList.count false≤fuel:=by
       have hlj:listed.toList[j]'(by simpa using hlt')=false:=by simpa[Array.getD,hlt'] using hunF
       have hc0:0<listed.toList.count false:=by
        rw[List.count_pos_iff]
        rw[←hlj]
        exact List.getElem_mem _
       refine Nat.le_trans (Nat.le_of_eq (show _=listed.toList.count false-1 from ?_)) (by omega)
       rw[Array.toList_setIfInBounds,List.count_set (by simpa using hlt'),hlj]
       rfl
      have hclo:∀i,(listed.setIfInBounds j true).getD i false=true→∀o,ops'[i]? =some o→∀e∈o.after,Region.binds .any e=true→(listed.setIfInBounds j true).getD e.on false=true:=by
       intro i hi oi hoi e he hb
       rcases getj i hi with rfl|hi
       ·rw[ho] at hoi
        injection hoi with hoi
        subst hoi
        exact getD_set_true (hafter e he hb)
       ·exact getD_set_true (V.clo i hi oi hoi e he hb)
      by_cases hin:∃x∈R,x.i=j
      · -- what was revealed
        obtain ⟨x,hx,hxj⟩:=hin
        obtain ⟨pre,post,eR⟩:=List.append_of_mem hx
        obtain ⟨p1,p2,p3⟩:=pos_at (V.al pre x post eR)
        obtain ⟨k,f1,f2,f3,f4,f5,f6,f7,f8⟩:=V.facts.at eR
        rw[hxj,hkj] at f1
        injection f1 with f1
        subst f1
        have hkd:x.kd<2:=by
         rcases Nat.lt_or_ge x.kd 2 with h|h
         ·exact h
         ·have:=f8 h;rw[hxj,hunF] at this;cases this
        obtain ⟨d,hd⟩:=Option.ne_none_iff_exists'.1 (f4 hkd)
        have hvok:x.gc=true→VOK P nt (h1++hS) (keepE (readsK kj) (envOf post env)) kj.i x.v:=by
         intro hg
         rcases Nat.lt_or_ge x.kd 1 with h|h
         ·exact AX.VOK.sub (f6 (by omega) (by rw[hxj];exact hunF) hg) V.hsub
         ·exact f7 (by omega) (by rw[hxj];exact hunF) hg
        have reads:∀t g' v',t∈readsK kj→lk (envOf post env) t=some (g',v')→AM.Told μ w a t g' v':=by
         intro t g' v' ht hl
         have hkx:ks'[ixAt sc post.length]? =some kj:=by rw[p2,hxj];exact hkj
         have ho':ops'[ixAt sc post.length]? =some o:=by rw[p2,hxj];exact ho
         rcases envOf_lk hl with ⟨y,hy,hyd,rfl,rfl⟩|⟨hno,hl⟩
         ·obtain ⟨pre2,post2,e2⟩:=List.append_of_mem hy
          have eR2:R=(pre++x::pre2)++y::post2:=by rw[eR,e2];simp
          obtain ⟨y1,y2,_⟩:=pos_at (V.al _ _ _ eR2)
          have hlen:post2.length<post.length:=by rw[e2];simp;omega
          obtain ⟨ky,g1,g2,_⟩:=V.facts.at eR2
          rcases (S.rw post.length post2.length p1 y1 (by omega) kj ky t hkx (by rw[y2];exact g1) (by rw[←g2];exact hyd)).2 ht with ⟨_,he⟩|⟨hlt2,_⟩
          ·obtain ⟨e,he1,he2,he3⟩:=edge_of he ho'
           refine V.told y (by rw[eR2];simp) ?_ t hyd
           have:=hafter e he1 he2
           rw[he3,y2] at this
           exact this
          ·omega
         ·refine V.base t g' v' (fun z hz hzl hzd=>?_) hl
          obtain ⟨pre3,post3,e3⟩:=List.append_of_mem hz
          obtain ⟨z1,z2,_⟩:=pos_at (V.al _ _ _ e3)
          obtain ⟨kz,g1,g2,_⟩:=V.facts.at e3
          have hne:post3.length≠post.length:=by
           intro hh
           have:z.i=x.i:=by rw[←z2,←p2,hh]
           rw[this,hxj,hunF] at hzl;cases hzl
          have hnp:z∉post:=fun hzp=>hno z hzp hzd
          have hge:post.length≤post3.length:=by
           rcases Nat.lt_or_ge post3.length post.length with h5|h5
           ·exact (hnp (suf_mem eR e3 h5)).elim
           ·exact h5
          rcases (S.rw post.length post3.length p1 z1 (by omega) kj kz t hkx (by rw[z2];exact g1) (by rw[←g2];exact hzd)).2 ht with ⟨h5,_⟩|⟨_,he⟩
          ·omega
          ·obtain ⟨oz,kz2,hoz,_⟩:=S.deps post3.length z1
           obtain ⟨e,he1,he2,he3⟩:=edge_of he hoz
           have:=V.clo (ixAt sc post3.length) (by rw[z2];exact hzl) oz hoz e he1 he2
           rw[he3,p2,hxj,hunF] at this
           cases this
        have hSA:SimA nt μ (keepE (readsK kj) (envOf post env)) (h1++hS) a w:=by
         refine ⟨V.sim,fun t g' v' e=>?_,V.tmps,V.defers⟩
         rw[lk_keepE] at e
         by_cases ht:t∈readsK kj
         ·rw[if_pos ht] at e;exact reads t g' v' ht e
         ·rw[if_neg ht] at e;cases e
        have hgc':gcOf (keepE (readsK kj) (envOf post env)) kj.g=some x.gc:=by rw[gcOf_same same_keepE];exact f5
        have hsays:=gc_ok hSA hgc'
        have hwant:Region.wanted o (yielded ops' a.tmps)=x.gc:=by
         rw[wanted_of hguard]
         cases hkg:kj.g with
         |none=>rw[hkg] at hsays;simp only[GcSays] at hsays;simp[wantG,hsays]
         |some p=>
          obtain ⟨dg,want⟩:=p
          rw[hkg] at hsays
          simp only[GcSays] at hsays
          simp only[wantG]
          cases hgcv:x.gc with
          |true=>rw[hsays.1 hgcv];simp
          |false=>
           have hne:=hsays.2 hgcv
           split
           ·rename_i b hb;simpa using hne b hb
           ·rfl
        have hdn:d<nt:=f3 d hd
        have after:∀c w',(x.gc=true→VR μ w' x.v c)→(x.gc=false→c=undef)→Step μ w μ w'→Sim μ (h1++hS) w'→
         Inv P nt hS env ks' sc ops'.size ops' (fun env h=>Q .normal env h) μ0 w0 (listed.setIfInBounds j true) (a.put o.dst c) w' R h1 μ:=by
         intro c w' hc1 hc2 st hsim
         rw[hdst,hd]
         have hgetd:(a.put (some d) c).tmps.getD d undef=c:=by
          have:d<a.tmps.size:=by rw[V.tmps];exact hdn
          simp[Act.put,this]
         refine ⟨V.al,V.run,by simp[V.size],hsim,V.hsub,by rw[put_size];exact V.tmps,by rw[put_defers];exact V.defers,V.step.trans st,hclo,fun i hi=>?_,?_,fun y hy hyl d' hd'=>?_,fun t g' v' hno hlkt=>?_⟩
         ·rcases getj i hi with rfl|hi
          ·exact ⟨x,hx,hxj⟩
          ·exact V.sub i hi
         ·exact V.facts.mono (fun y _ hy=>getD_set_true hy) (fun _ _ _ _=>rfl)
         ·rcases getj y.i hyl with hyj|hyl
          · -- the operation itself
            obtain ⟨pre4,post4,e4⟩:=List.append_of_mem hy
            obtain ⟨y1,y2,_⟩:=pos_at (V.al _ _ _ e4)
            have hpp:post4.length=post.length:=by
             by_cases hh:post4.length=post.length
             ·exact hh
             ·exact (S.inj post.length post4.length p1 y1 (fun e=>hh e.symm) (by rw[y2,p2,hyj,hxj])).elim
            have hyx:y=x:=by
             have h5:R[pre4.length]? =some y:=by rw[e4];simp
             have h6:R[pre.length]? =some x:=by rw[eR];simp
             have h7:pre4.length=pre.length:=by
              have q1:=congrArg List.length e4
              have q2:=congrArg List.length eR
              simp at q1 q2
              omega
             rw[h7,h6] at h5
             injection h5 with h5
             exact h5.symm
            subst hyx
            rw[f2,hd] at hd'
            injection hd' with hd'
            subst hd'
            unfold AM.Told
            rw[hgetd]
            exact ⟨hc1,hc2⟩
          ·have hne:d≠d':=by
            rintro rfl
            obtain ⟨pre4,post4,e4⟩:=List.append_of_mem hy
            obtain ⟨y1,y2,_⟩:=pos_at (V.al _ _ _ e4)
            obtain ⟨ky,g1,g2,_⟩:=V.facts.at e4
            have hpp:post.length≠post4.length:=by
             intro hh
             have:y.i=x.i:=by rw[←y2,←p2,hh]
             rw[this,hxj,hunF] at hyl;cases hyl
            exact (S.rw post.length post4.length p1 y1 hpp kj ky d (by rw[p2,hxj];exact hkj) (by rw[y2];exact g1) (by rw[←g2];exact hd')).1 hd
           exact ((V.told y hy hyl d' hd').mono st).put hne
         ·have hne:d≠t:=by
           rintro rfl
           exact hno x hx (by rw[hxj];exact setj) (by rw[f2];exact hd)
          exact ((V.base t g' v' (fun y hy hyl=>hno y hy (getD_set_true hyl)) hlkt).mono st).put hne
        unfold wpOp
        rw[ho]
        simp only[hwant]
        cases hgcv:x.gc with
        |false=>
         simp only[Bool.false_eq_true,if_false]
         exact ih _ _ _ _ _ _ _ (after undef w (fun e=>by rw[hgcv] at e;cases e) (fun _=>rfl) (Step.refl _ _) V.sim) hcnt'
        |true=>
         simp only[if_true]
         left
         refine Oper.wp_mono' (fun _ _ hh=>hh) (fun _ _ _ hf=>hf.elim) (hvok hgcv o μ a w hop hSA _ fun c w' hcv hb=>?_)
         exact ih _ _ _ _ _ _ _ (after c w' (fun _=>hcv) (fun e=>by rw[hgcv] at e;cases e) (Step.of_below V.sim.muok hb) (V.sim.below hb)) hcnt'
      · -- what turns rows
        obtain ⟨p,hp,hpj⟩:=S.sur j hlt
        have hpR:R.length≤p:=by
         rcases Nat.lt_or_ge p R.length with h5|h5
         ·exfalso
          have h6:R.length-1-p<R.length:=by omega
          have eR:R=R.take (R.length-1-p)++R[R.length-1-p]::R.drop (R.length-1-p+1):=by
           rw[←List.drop_eq_getElem_cons h6,List.take_append_drop]
          obtain ⟨_,q2,_⟩:=pos_at (V.al _ _ _ eR)
          have h7:(R.drop (R.length-1-p+1)).length=p:=by simp;omega
          rw[h7] at q2
          exact hin ⟨_,List.getElem_mem h6,by rw[←q2,hpj]⟩
         ·exact h5
        have hlast:R.length<sc.length:=by omega
        obtain ⟨kd,hkdx⟩:∃kd,sc[R.length]? =some (kd,ixAt sc R.length):=by
         refine ⟨sc[R.length].1,?_⟩
         rw[List.getElem?_eq_getElem hlast]
         simp[ixAt,List.getElem?_eq_getElem hlast]
        have hkd2:=hnext _ hkdx
        simp only at hkd2
        have hkE:kindAt sc R.length=2:=by rw[(pos_at hkdx).2.2];omega
        have hpe:p=R.length:=by
         rcases Nat.eq_or_lt_of_le hpR with h5|h5
         ·exact h5.symm
         ·exfalso
          obtain ⟨r,r1,r2,r3⟩:=S.aft p R.length hp h5 hkE
          rw[hpj] at r3
          obtain ⟨e,he1,he2,he3⟩:=edge_of r3 ho
          have:=hafter e he1 he2
          rw[he3,V.fresh S (by omega) r1] at this
          cases this
        subst hpe
        have hdrop:sc.drop R.length=(kd,j)::sc.drop (R.length+1):=by
         rw[List.drop_eq_getElem_cons hlast,(List.getElem?_eq_some_iff.1 hkdx).2,hpj]
        have hrun':=V.run
        rw[hdrop] at hrun'
        obtain ⟨kd',rfl⟩:∃kd',kd=kd'+2:=⟨kd-2,by omega⟩
        obtain ⟨k,e1,e2,e3,e4⟩:=hrun'
        rw[hkj] at e1
        injection e1 with e1
        subst e1
        have ones:∀(m:Nat) (pre:List Ent) (x:Ent) (post:List Ent),R.length-post.length≤m→R=pre++x::post→x.kd=1→listed.getD x.i false=true:=by
         intro m
         induction m with
         |zero=>intro pre x post hm eR _;rw[eR] at hm;simp at hm;omega
         |succ m ihm=>
          intro pre x post hm eR hk1
          obtain ⟨p1,p2,p3⟩:=pos_at (V.al pre x post eR)
          have hlenR:post.length<R.length:=by rw[eR];simp;omega
          have hk1':kindAt sc post.length=1:=by rw[p3];omega
          obtain ⟨q,hq,hq1,hq2,hq3⟩:=nextE_spec hlenR hlast hkE
          obtain ⟨r,r1,r2,r3,r4⟩:=S.one post.length p1 hk1' q hq
          have hrdone:(∀o',ops'[ixAt sc r]? =some o'→∀e∈o'.after,Region.binds .any e=true→listed.getD e.on false=true):=by
           intro o' ho' e he hb
           rcases Nat.lt_or_ge r R.length with h5|h5
           ·have h6:R.length-1-r<R.length:=by omega
            have eR':R=R.take (R.length-1-r)++R[R.length-1-r]::R.drop (R.length-1-r+1):=by
             rw[←List.drop_eq_getElem_cons h6,List.take_append_drop]
            have h7:(R.drop (R.length-1-r+1)).length=r:=by simp;omega
            obtain ⟨_,s2,s3⟩:=pos_at (V.al _ _ _ eR')
            rw[h7] at s2 s3
            refine V.clo (ixAt sc r) ?_ o' ho' e he hb
            rw[s2]
            rcases r3 with hr1|rfl
            ·refine ihm _ _ _ (by rw[h7];omega) eR' ?_
             rw[hr1] at s3
             omega
            ·obtain ⟨_,_,_,_,_,_,_,_,f8⟩:=V.facts.at eR'
             refine f8 ?_
             rw[hq3] at s3
             omega
           ·have hrR:r=R.length:=by omega
            subst hrR
            rw[hpj,ho] at ho'
            injection ho' with ho'
            subst ho'
            exact hafter e he hb
          have hr_lt:r<sc.length:=by omega
          obtain ⟨o',k',ho',_⟩:=S.deps r hr_lt
          obtain ⟨e,he1,he2,he3⟩:=edge_of r4 ho'
          have:=hrdone o' ho' e he1 he2
          rw[he3,p2] at this
          exact this
        have reads:∀t g' v',t∈readsK kj→lk (envOf R env) t=some (g',v')→AM.Told μ w a t g' v':=by
         intro t g' v' ht hl
         have hkx:ks'[ixAt sc R.length]? =some kj:=by rw[hpj];exact hkj
         have ho':ops'[ixAt sc R.length]? =some o:=by rw[hpj];exact ho
         rcases envOf_lk hl with ⟨y,hy,hyd,rfl,rfl⟩|⟨hno,hl⟩
         ·obtain ⟨pre2,post2,e2'⟩:=List.append_of_mem hy
          obtain ⟨y1,y2,_⟩:=pos_at (V.al _ _ _ e2')
          have hlen:post2.length<R.length:=by rw[e2'];simp;omega
          obtain ⟨ky,g1,g2,_⟩:=V.facts.at e2'
          rcases (S.rw R.length post2.length hp y1 (by omega) kj ky t hkx (by rw[y2];exact g1) (by rw[←g2];exact hyd)).2 ht with ⟨_,he⟩|⟨hlt2,_⟩
          ·obtain ⟨e,he1,he2,he3⟩:=edge_of he ho'
           refine V.told y hy ?_ t hyd
           have:=hafter e he1 he2
           rw[he3,y2] at this
           exact this
          ·omega
         ·exact V.base t g' v' (fun z hz _ hzd=>hno z hz hzd) hl
        have hSA:SimA nt μ (keepE (readsK kj) (envOf R env)) (h1++hS) a w:=by
         refine ⟨V.sim,fun t g' v' e=>?_,V.tmps,V.defers⟩
         rw[lk_keepE] at e
         by_cases ht:t∈readsK kj
         ·rw[if_pos ht] at e;exact reads t g' v' ht e
         ·rw[if_neg ht] at e;cases e
        have hwant:Region.wanted o (yielded ops' a.tmps)=true:=by rw[wanted_of hguard,e2];rfl
        have hTL:=e4 [o] rfl (fun p hp=>by simp at hp;subst hp;exact ⟨hop,hdst⟩) μ a w hSA
        simp only[List.zip_cons_cons,List.zip_nil_right,wpK,e2] at hTL
        unfold wpOp
        rw[ho]
        simp only[hwant,if_true]
        left
        refine Oper.wp_mono' ?_ (fun _ _ _ hf=>hf.elim) (wp_put (fun a' w' hh=>by obtain ⟨_,_,_,_,s,_⟩:=hh;exact s.defers) hTL)
        rintro a' w' ⟨⟨μ',env',h',⟨v,hE,hT,hTe,rfl,rfl,hsubE,hDR⟩,s',st⟩,c,rfl⟩
        refine ih _ _ _ (⟨kd'+2,j,kj.d,true,v⟩::R) hE μ' hT ⟨?_,hDR,by simp[V.size],s'.sim,hsubE,s'.size,s'.defers,V.step.trans st,hclo,fun i hi=>?_,⟨⟨kj,hkj,rfl,e3,fun h=>by simp at h;omega,by rw[e2];rfl,fun h=>by simp at h,fun h=>by simp at h,fun _=>setj⟩,?_⟩,fun y hy hyl d' hd'=>?_,fun t g' v' hno hlkt=>?_⟩ hcnt'
        ·intro pre x post e
         cases pre with
         |nil=>simp only[List.nil_append,List.cons.injEq] at e;obtain ⟨rfl,rfl⟩:=e;rw[hkdx,hpj]
         |cons y pre=>simp only[List.cons_append,List.cons.injEq] at e;exact V.al pre x post e.2
        ·rcases getj i hi with rfl|hi
         ·exact ⟨⟨kd'+2,_,kj.d,true,v⟩,List.mem_cons_self,rfl⟩
         ·obtain ⟨x,hx1,hx2⟩:=V.sub i hi
          exact ⟨x,List.mem_cons_of_mem _ hx1,hx2⟩
        ·cases kd' with
         |zero=>
          rw[hTe rfl]
          refine V.facts.mono (fun y _ hy=>getD_set_true hy) (fun y hy hk1 hyl=>?_)
          exfalso
          obtain ⟨pre,post,eR⟩:=List.append_of_mem hy
          have h5:=ones _ pre y post (Nat.le_refl _) eR hk1
          have h6:=getD_set_true (i:=j) h5
          rw[hyl] at h6
          cases h6
         |succ kd'=>
          refine V.facts.all fun y hy=>getD_set_true ?_
          obtain ⟨pre,post,eR⟩:=List.append_of_mem hy
          obtain ⟨_,y2,_⟩:=pos_at (V.al _ _ _ eR)
          have hlen:post.length<R.length:=by rw[eR];simp;omega
          have he:=S.all3 R.length _ hkdx (by simp) post.length hlen
          rw[hpj] at he
          obtain ⟨e,he1,he2,he3⟩:=edge_of he ho
          have:=hafter e he1 he2
          rw[he3,y2] at this
          exact this
        ·rcases List.mem_cons.1 hy with rfl|hy
         ·simp only at hd' ⊢
          have h5:=s'.env d' true v (by rw[hd'];simp[putE,lk])
          exact h5
         ·have hyl':listed.getD y.i false=true:=by
           rcases getj y.i hyl with hyj|hyl
           ·exact (hin ⟨y,hy,hyj⟩).elim
           ·exact hyl
          have hne:∀dd,kj.d=some dd→dd≠d':=by
           rintro dd hdd rfl
           obtain ⟨pre4,post4,e4'⟩:=List.append_of_mem hy
           obtain ⟨y1,y2,_⟩:=pos_at (V.al _ _ _ e4')
           obtain ⟨ky,g1,g2,_⟩:=V.facts.at e4'
           have hlen:post4.length<R.length:=by rw[e4'];simp;omega
           exact (S.rw R.length post4.length hp y1 (by omega) kj ky dd (by rw[hpj];exact hkj) (by rw[y2];exact g1) (by rw[←g2];exact hd')).1 hdd
          have h5:=told_mono (V.told y hy hyl' d' hd') st
          rw[hdst]
          cases hkd5:kj.d with
          |none=>exact h5
          |some dd=>exact h5.put (hne dd hkd5)
        ·have h5:=told_mono (V.base t g' v' (fun y hy hyl=>hno y (List.mem_cons_of_mem _ hy) (getD_set_true hyl)) hlkt) st
         rw[hdst]
         cases hkd5:kj.d with
         |none=>exact h5
         |some dd=>
          refine h5.put ?_
          rintro rfl
          exact hno ⟨kd'+2,j,kj.d,true,v⟩ (by simp) setj hkd5
   refine wp_region_any hm ?_
   have hb0:Below w0.heap.size w0 { w0 with drawn:=w0.drawn+1 }:=⟨rfl,rfl,rfl,Nat.le_refl _,fun _ _=>rfl⟩
   have st0:=Step.of_below hs.sim.muok hb0
   refine main ops'.size _ a0 _ [] h μ0 hS ⟨(fun pre x post e=>by cases pre<;>cases e),?_,by simp,hs.sim.below hb0,hsub,hs.size,hs.defers,st0,fun i hi=>?_,fun i hi=>?_,trivial,(fun x hx=>by cases hx),fun t g v _ hlkt=>?_⟩ ?_
   ·exact hrun
   ·exfalso
    by_cases hlt:i<ops'.size<;>simp[Array.getD,hlt] at hi
   ·exfalso
    by_cases hlt:i<ops'.size<;>simp[Array.getD,hlt] at hi
   ·exact AM.Told.mono (hs.env t g v hlkt) st0
   ·simp
end
end Go.AX

namespace Go.AX
open Go.AM Go.RowKit
section
variable {C:Cx} {P:Program} {nt:Nat} {env:Env} {h hS:Hp} {K:Env→Hp→Prop} {gc gx:Bool} {t:TypeId} {x:X} {u:AV} {α:Type} [Enc α]
theorem vok_p {i:I} {v:AV} (hp:PVok C h env i gc v):gc=true→VOK C.P nt h env i v:=fun hg=>by
 obtain ⟨h1,h2⟩:=hp hg
 rw[←h1]
 exact VOK.pv h2
theorem vok_c {f:X} {xs:List X} {fid:FuncId} {args:List AV} {r:AV} (ha:argsA env f xs=some (fid,args)) (hgx:gc=true→(ev env f).1=true∧allG (evs env xs)) (hf:gc=true→Fun P fid args (·=r)):
 gc=true→VOK P nt h env (.call f xs) r:=fun hg=>VOK.call ha (hgx hg).1 (hgx hg).2 (hf hg)
theorem vok_new {i:I} {v:AV} (hrun:∀(o:Oper) μ (a:Act) w,cookOp o.op=some i→SimA nt μ env h a w→∃(c:Value) (ob:Obj),(execOp a.eval o).run P w= .ok (.value c) { w with heap:=w.heap.push ob }∧VR μ { w with heap:=w.heap.push ob } v c):
 VOK P nt h env i v:=by
 intro o μ a w ho s N hN
 obtain ⟨c,ob,h1,h2⟩:=hrun o μ a w ho s
 unfold Oper.wp
 rw[h1]
 exact hN c _ h2 below_push
theorem vok_lit {n:Nat} {ps:List (Nat×X)} {e:TypeId} {ei:TI} (xs:List α) (hk:C.kd t=some (.slc e)) (he:C.ty e=some ei) (hs:ei.sz=Enc.sz α) (hl:LitL env 0 ps xs) (hn:n=xs.length) (hlim:Nat.ble (n*Enc.sz α) 16777216=true):
 gc=true→VOK C.P nt h env (.bsl t n ps) (L xs):=fun _=>by
 refine vok_new fun o μ a w ho s=>?_
 obtain ⟨l,S,h1,h2,h3,h4⟩:=litA_of (h:=h) hl
 obtain ⟨out,hrun,o2,o3⟩:=bsl_run ho hk he (by rw[hs];exact Nat.le_of_ble_eq_true hlim) (by rw[hs];exact h1) h2 (by rw[h3,hn]) s
 refine ⟨_,_,hrun,?_⟩
 have hb:Below w.heap.size w { w with heap:=w.heap.push (.cells out e) }:=below_push
 have st:=Step.of_below s.sim.muok hb
 have hv:(AV.sl (catC ei.sz l) (n*ei.sz) n)=L xs:=by
  unfold L VS
  rw[←hn,hs]
  congr 1
  have:=VS_congr (e1:=fun (p:Nat→AV)=>p) (l:=l) (xs:=xs) rfl h3 h4
  rw[←this]
  simp[rowL]
 rw[←hv]
 refine Or.inr ⟨_,n,rfl,Nat.le_refl _,fun _=>⟨rfl,?_⟩,fun j hj=>?_⟩
 ·exact ⟨by simp,fun hban=>Nat.lt_irrefl _ (s.sim.banlt _ hban),fun b B e hg=>Nat.lt_irrefl _ (hg▸(s.sim.lt b B e).2)⟩
 ·have hj':j<out.size:=by omega
  refine ⟨out.getD j undef,by simp[World.cell?,Array.getD,hj'],VR.mono st _ _ (o3 j hj)⟩
end
section
variable {P:Program} {nt:Nat} {env:Env} {h:Hp} {ks:List KO} {K:Env→Hp→Prop}
theorem HSub_nil (h:Hp):HSub [] h:=fun _ _ e=>by cases e
theorem TL.monoK {K':Env→Hp→Prop} (k:TL P nt ks K env h) (hk:∀env h,K env h→K' env h):TL P nt ks K' env h:=by
 intro os ho hz μ a w s
 refine TL.cons.wpK_mono ?_ _ _ _ (k os ho hz μ a w s)
 rintro a' w' ⟨μ2,env2,h2,q,s2,st2⟩
 exact ⟨μ2,env2,h2,hk _ _ q,s2,st2⟩
end
section
variable {P:Program} {nt:Nat} {env:Env} {h hS:Hp} {ks:List KO} {K:Env→Hp→Prop} {r:List (Nat×Nat)} {i:Nat}
theorem DR0 {d:Nat} {g:Option (Nat×Bool)} {I':I} {gc:Bool} {v:AV} (hk:ks[i]? =some ⟨some d,g,I'⟩) (hv:gc=true→VOK P nt hS (keepE (readsK ⟨some d,g,I'⟩) env) I' v) (hg:gcOf env g=some gc) (hd:Nat.ble (d+1) nt=true)
 (rest:DRun P nt hS ks K r ((d,gc,v)::env) h):DRun P nt hS ks K ((0,i)::r) env h:=⟨_,hk,gc,d,v,hg,rfl,Nat.le_of_ble_eq_true hd,hv,rest⟩
theorem DR1 {d:Nat} {g:Option (Nat×Bool)} {I':I} {gc:Bool} {v:AV} (hk:ks[i]? =some ⟨some d,g,I'⟩) (hv:gc=true→VOK P nt (h++hS) (keepE (readsK ⟨some d,g,I'⟩) env) I' v) (hg:gcOf env g=some gc) (hd:Nat.ble (d+1) nt=true)
 (rest:DRun P nt hS ks K r ((d,gc,v)::env) h):DRun P nt hS ks K ((1,i)::r) env h:=⟨_,hk,gc,d,v,hg,rfl,Nat.le_of_ble_eq_true hd,hv,rest⟩
theorem DR2 {d:Nat} {I':I} (hk:ks[i]? =some ⟨some d,none,I'⟩) (hd:Nat.ble (d+1) nt=true)
 (ht:TL P nt [⟨some d,none,I'⟩] (fun env' h'=>∃v hE,env'=(d,true,v)::keepE (readsK ⟨some d,none,I'⟩) env∧h'=hE++hS∧HSub hS (hE++hS)∧DRun P nt hS ks K r ((d,true,v)::env) hE) (keepE (readsK ⟨some d,none,I'⟩) env) (h++hS)):
 DRun P nt hS ks K ((2,i)::r) env h:=⟨_,hk,rfl,fun d' e=>by injection e with e;subst e;exact Nat.le_of_ble_eq_true hd,TL.monoK ht fun env' h' ⟨v,hE,q1,q2,q3,q4⟩=>⟨v,hE,hS,fun _=>rfl,q1,q2,q3,q4⟩⟩
theorem DR2n {I':I} (hk:ks[i]? =some ⟨none,none,I'⟩)
 (ht:TL P nt [⟨none,none,I'⟩] (fun env' h'=>∃(_:AV) (hE:Hp),env'=keepE (readsK ⟨none,none,I'⟩) env∧h'=hE++hS∧HSub hS (hE++hS)∧DRun P nt hS ks K r env hE) (keepE (readsK ⟨none,none,I'⟩) env) (h++hS)):
 DRun P nt hS ks K ((2,i)::r) env h:=⟨_,hk,rfl,(fun d e=>by cases e),TL.monoK ht fun env' h' ⟨v,hE,q1,q2,q3,q4⟩=>⟨v,hE,hS,fun _=>rfl,q1,q2,q3,q4⟩⟩
theorem DR3n {I':I} (hk:ks[i]? =some ⟨none,none,I'⟩)
 (ht:TL P nt [⟨none,none,I'⟩] (fun env' h'=>env'=keepE (readsK ⟨none,none,I'⟩) env∧DRun P nt [] ks K r env h') (keepE (readsK ⟨none,none,I'⟩) env) (h++hS)):
 DRun P nt hS ks K ((3,i)::r) env h:=⟨_,hk,rfl,(fun d e=>by cases e),TL.monoK ht fun env' h' ⟨q1,q4⟩=>⟨.nilp,h',[],(fun e=>by cases e),q1,(List.append_nil _).symm,HSub_nil _,q4⟩⟩
theorem DRend (hK:K env (h++hS)):DRun P nt hS ks K [] env h:=hK
end
theorem get_app {a b:Hp} {x:Nat}:Hp.get (a++b) x=(Hp.get a x).or (Hp.get b x):=by
 induction a with
 |nil=>simp[Hp.get]
 |cons p a ih=>
  obtain ⟨y,q⟩:=p
  simp only[List.cons_append,Hp.get]
  by_cases h:y=x
  ·rw[if_pos h,if_pos h];rfl
  ·rw[if_neg h,if_neg h,ih]
theorem HSub_app {a b:Hp} (nd:Nd (a++b)):HSub b (a++b):=fun x r e=>by
 rw[get_app]
 have:Hp.get a x=none:=by
  rw[Hp.get_none]
  intro hx
  unfold Nd at nd
  rw[List.map_append] at nd
  have hb:x∈b.map (·.1):=by
   by_cases hh:x∈b.map (·.1)
   ·exact hh
   ·rw[Hp.get_none.2 hh] at e;cases e
  exact (List.nodup_append.1 nd).2.2 x hx x hb rfl
 rw[this,e];rfl
def inH (h:Hp):AV→Prop
 | .ref b _ _=>h.get b≠none
 | .rs b _ _ _ _=>h.get b≠none
 | .vref cells m _=>∀i,i<m→inH h (cells i)
 | .sl cells m _=>∀i,i<m→inH h (cells i)
 | .agg m cs=>∀i,i<m→inH h (cs i)
 | .tup m cs=>∀i,i<m→inH h (cs i)
 | .fn _ m cs=>∀i,i<m→inH h (cs i)
 | .own _ _ n sz _ cs=>∀i,i<n*sz→inH h (cs i)
 |_=>True
theorem inH_val {h:Hp} {v:AV} (hv:v.val):inH h v:=by
 induction v with
 |ref=>exact hv.elim
 |rs=>exact hv.elim
 |own=>exact hv.elim
 |vref cells m off ih=>exact fun i hi=>ih i (hv i hi)
 |sl cells m n ih=>exact fun i hi=>ih i (hv i hi)
 |agg m cs ih=>exact fun i hi=>ih i (hv i hi)
 |tup m cs ih=>exact fun i hi=>ih i (hv i hi)
 |fn f m cs ih=>exact fun i hi=>ih i (hv i hi)
 |_=>trivial
def clH (h:Hp):Prop:=∀b r,h.get b=some r→∀i,i<r.m→inH h (r.cells i)
theorem VR.weak {μ μ':Mu} {w:World} (hnx:μ.nx≤μ'.nx) (hf:∀b B,μ'.f b=some B→μ.f b=some B) (hv:∀b,μ'.vir b→μ.vir b) (hs:∀g,Sealed μ w g→Sealed μ' w g):∀(a:AV) (v:Value),NO a→VR μ w a v→VR μ' w a v:=by
 intro a
 induction a with
 |own=>intro v h;exact h.elim
 |ref b off st=>
  rintro v-⟨h1,h2,h3⟩
  exact ⟨Nat.lt_of_lt_of_le h1 hnx,fun h=>h2 (hv b h),fun B e=>h3 B (hf b B e)⟩
 |rs b off len st sz=>
  rintro v-⟨h1,h2,h3,h4⟩
  exact ⟨Nat.lt_of_lt_of_le h1 hnx,h2,fun h=>h3 (hv b h),fun B e=>h4 B (hf b B e)⟩
 |vref cells m off ih=>
  rintro v hno ⟨g,o,e,hse,hc⟩
  refine ⟨g,o,e,hs g hse,fun i hi=>?_⟩
  obtain ⟨u,hu,hv⟩:=hc i hi
  exact ⟨u,hu,ih i u (hno i hi) hv⟩
 |sl cells m n ih=>
  rintro v hno (h0|⟨a,cap,e,hn,hse,hc⟩)
  ·exact .inl h0
  refine .inr ⟨a,cap,e,hn,fun hm=>⟨(hse hm).1,hs _ (hse hm).2⟩,fun i hi=>?_⟩
  obtain ⟨u,hu,hv⟩:=hc i hi
  exact ⟨u,hu,ih i u (hno i hi) hv⟩
 |agg m cs ih=>
  rintro v hno ⟨vs,e,hm,hc⟩
  exact ⟨vs,e,hm,fun i hi=>ih i _ (hno i hi) (hc i hi)⟩
 |tup m cs ih=>
  rintro v hno ⟨vs,e,hm,hc⟩
  exact ⟨vs,e,hm,fun i hi=>ih i _ (hno i hi) (hc i hi)⟩
 |fn f m cs ih=>
  rintro v hno ⟨vs,e,hm,hc⟩
  exact ⟨vs,e,hm,fun i hi=>ih i _ (hno i hi) (hc i hi)⟩
 |_=>exact fun v _ hv=>hv
theorem VR.inH {μ μ':Mu} {w:World} {h:Hp} (hnx:μ.nx≤μ'.nx) (hf:∀b,h.get b≠none→μ'.f b=μ.f b∧(μ'.vir b↔μ.vir b)) (hs:∀g,Sealed μ w g→Sealed μ' w g)
 (ho:∀k a B,μ.adr k=some a→μ.f k=some B→μ'.adr k=some a∧μ'.f k=some B∧(μ'.vir k→μ.vir k)):∀(a:AV) (v:Value),AX.inH h a→VR μ w a v→VR μ' w a v:=by
 intro a
 induction a with
 |own b p n sz ty cs ih=>
  rintro v hb (h0|⟨k,B,arr,cap,hk,hlt,hv,hf',e,hL,hc,ha,hs',hE,hi⟩)
  ·exact .inl h0
  obtain ⟨e1,e2,e3⟩:=ho k _ B hk hf'
  refine .inr ⟨k,B,arr,cap,e1,Nat.lt_of_lt_of_le hlt hnx,fun hh=>hv (e3 hh),e2,e,hL,hc,ha,hs',hE,fun i hi'=>?_⟩
  obtain ⟨u,hu,hr⟩:=hi i hi'
  exact ⟨u,hu,ih i u (hb i hi') hr⟩
 |ref b off st=>
  rintro v hb ⟨h1,h2,h3⟩
  obtain ⟨e1,e2⟩:=hf b hb
  exact ⟨Nat.lt_of_lt_of_le h1 hnx,fun h=>h2 (e2.1 h),fun B e=>h3 B (by rw[←e1];exact e)⟩
 |rs b off len st sz=>
  rintro v hb ⟨h1,h2,h3,h4⟩
  obtain ⟨e1,e2⟩:=hf b hb
  exact ⟨Nat.lt_of_lt_of_le h1 hnx,h2,fun h=>h3 (e2.1 h),fun B e=>h4 B (by rw[←e1];exact e)⟩
 |vref cells m off ih=>
  rintro v hb ⟨g,o,e,hse,hc⟩
  refine ⟨g,o,e,hs g hse,fun i hi=>?_⟩
  obtain ⟨u,hu,hv⟩:=hc i hi
  exact ⟨u,hu,ih i u (hb i hi) hv⟩
 |sl cells m n ih=>
  rintro v hb (h0|⟨a,cap,e,hn,hse,hc⟩)
  ·exact .inl h0
  refine .inr ⟨a,cap,e,hn,fun hm=>⟨(hse hm).1,hs _ (hse hm).2⟩,fun i hi=>?_⟩
  obtain ⟨u,hu,hv⟩:=hc i hi
  exact ⟨u,hu,ih i u (hb i hi) hv⟩
 |agg m cs ih=>
  rintro v hb ⟨vs,e,hm,hc⟩
  exact ⟨vs,e,hm,fun i hi=>ih i _ (hb i hi) (hc i hi)⟩
 |tup m cs ih=>
  rintro v hb ⟨vs,e,hm,hc⟩
  exact ⟨vs,e,hm,fun i hi=>ih i _ (hb i hi) (hc i hi)⟩
 |fn f m cs ih=>
  rintro v hb ⟨vs,e,hm,hc⟩
  exact ⟨vs,e,hm,fun i hi=>ih i _ (hb i hi) (hc i hi)⟩
 |_=>exact fun v _ hv=>hv
open Classical in
theorem TC.frame {P:Program} {f:FuncId} {args:List AV} {F rest:Hp} {Q:AV→Hp→Prop} (k:TC P f args F Q) (nd:Nd (F++rest)) (hcl:∀r h',Q r h'→Nd h'∧inH h' r∧clH h') [hno:NoHp F] [hnl:NoL args]:
 TCa P f args (F++rest) (fun r h'=>∃F',Q r F'∧h'=F'++rest∧Nd (F'++rest)):=by
 refine ⟨k.enters,fun μ w cargs s hsz hargs=>?_⟩
 have hsubR:=HSub_app nd
 have hgetF:∀b r,F.get b=some r→(F++rest).get b=some r:=fun b r e=>by rw[get_app,e];rfl
 let inF:Nat→Prop:=fun b=>F.get b≠none
 let μ0:Mu:={ f:=fun b=>if inF b then μ.f b else none,nx:=μ.nx,ban:=fun g=>μ.ban g∨∃b B,¬inF b∧μ.f b=some B∧B.g=g,vir:=fun b=>inF b∧μ.vir b,adr:=fun _=>none }
 have hf0:∀b B,μ0.f b=some B→inF b∧μ.f b=some B:=by
  intro b B e
  simp only[μ0] at e
  by_cases hb:inF b
  ·rw[if_pos hb] at e;exact ⟨hb,e⟩
  ·rw[if_neg hb] at e;cases e
 have hse0:∀w' g,Sealed μ w' g→Sealed μ0 w' g:=fun w' g hs=>⟨hs.1,fun hb=>by
  rcases hb with hb|⟨b,B,_,e,he⟩
  ·exact hs.2.1 hb
  ·exact hs.2.2 b B e he,fun b B e=>hs.2.2 b B (hf0 b B e).2⟩
 have weak0:∀a v,NO a→VR μ w a v→VR μ0 w a v:=fun a v hn hv=>VR.weak (μ:=μ) (μ':=μ0) (Nat.le_refl _) (fun b B e=>(hf0 b B e).2) (fun b h=>h.2) (hse0 w) a v hn hv
 have s0:Sim μ0 F w:=by
  refine ⟨fun b r e=>?_,fun b b' B B' e e' hg=>s.inj b b' B B' (hf0 b B e).2 (hf0 b' B' e').2 hg,fun b B e=>s.lt b B (hf0 b B e).2,fun b hb=>s.vlt b hb.2,fun b B e hban=>?_,fun g hg=>?_,fun k a e=>by cases e⟩
  ·have hb:inF b:=by show F.get b≠none;rw[e];simp
   rcases s.row b r (hgetF b r e) with ⟨h1,h2,h3⟩|⟨B,cs,h0,h1,h2,h3,h4,h5,h6⟩
   ·exact .inl ⟨⟨hb,h1⟩,by simp only[μ0];rw[if_pos hb];exact h2,h3⟩
   ·refine .inr ⟨B,cs,fun h=>h0 h.2,by simp only[μ0];rw[if_pos hb];exact h1,h2,h3,h4,h5,fun i hi=>?_⟩
    obtain ⟨u,hu,hv⟩:=h6 i hi
    exact ⟨u,hu,weak0 _ _ (hno.no b r e i hi) hv⟩
  ·obtain ⟨hb,e1⟩:=hf0 b B e
   rcases hban with hban|⟨b',B',hb',e',hg⟩
   ·exact s.noban b B e1 hban
   ·exact hb' (s.inj b' b B' B e' e1 hg▸hb)
  ·rcases hg with hg|⟨b,B,_,e,rfl⟩
   ·exact s.banlt g hg
   ·exact (s.lt b B e).2
 refine (k.calls μ0 w cargs (fun _=>rfl) s0 hsz (fun i hi=>weak0 _ _ (hnl.no i hi) (hargs i hi))).mono ?_
 rintro e w' ⟨c,r,μ1,F',rfl,hQ,hr,s1,st⟩
 obtain ⟨ndF,hin,hcl'⟩:=hcl r F' hQ
 -- the places put together
 let out:Nat→Prop:=fun b=>b<μ.nx∧¬inF b
 let μ':Mu:={ f:=fun b=>if out b then μ.f b else μ1.f b,nx:=μ1.nx,ban:=μ.ban,vir:=fun b=>if out b then μ.vir b else μ1.vir b,adr:=fun b=>if out b then μ.adr b else μ1.adr b }
 have hnx:μ.nx≤μ1.nx:=st.nx
 have hold:∀b,out b→μ1.f b=none∧¬μ1.vir b:=by
  intro b hb
  have h0:μ0.f b=none:=by simp only[μ0];rw[if_neg hb.2]
  refine ⟨?_,fun hv=>hb.2 (st.vir b hb.1 hv).1⟩
  cases hq:μ1.f b with
  |none=>rfl
  |some B=>
   rcases st.old b hb.1 B hq with ⟨hv,_⟩|⟨B',e',_⟩
   ·exact (hb.2 hv.1).elim
   ·rw[h0] at e';cases e'
 have hF'out:∀b,F'.get b≠none→¬out b:=by
  intro b hb ho
  obtain ⟨q,hq⟩:=Option.ne_none_iff_exists'.1 hb
  rcases s1.row b q hq with ⟨hv,_⟩|⟨B,cs,_,e1,_⟩
  ·exact (hold b ho).2 hv
  ·rw[(hold b ho).1] at e1;cases e1
 have hrest:∀b q,rest.get b=some q→out b:=by
  intro b q e
  have h1:=hsubR b q e
  have hnF:¬inF b:=by
   intro hb
   obtain ⟨q',hq'⟩:=Option.ne_none_iff_exists'.1 hb
   unfold Nd at nd
   rw[List.map_append] at nd
   have m1:b∈F.map (·.1):=by
    by_cases hh:b∈F.map (·.1)
    ·exact hh
    ·rw[Hp.get_none.2 hh] at hq';cases hq'
   have m2:b∈rest.map (·.1):=by
    by_cases hh:b∈rest.map (·.1)
    ·exact hh
    ·rw[Hp.get_none.2 hh] at e;cases e
   exact (List.nodup_append.1 nd).2.2 b m1 b m2 rfl
  refine ⟨?_,hnF⟩
  rcases s.row b q h1 with ⟨hv,_⟩|⟨B,cs,_,e1,_⟩
  ·exact s.vlt b hv
  ·exact (s.lt b B e1).1
 have hban1:∀g,μ1.ban g↔(μ.ban g∨∃b B,¬inF b∧μ.f b=some B∧B.g=g):=fun g=>st.ban g
 have hout_in:∀b B,out b→μ.f b=some B→μ1.ban B.g:=fun b B ho e=>(hban1 _).2 (.inr ⟨b,B,ho.2,e,rfl⟩)
 have hfspec:∀b B,μ'.f b=some B→(out b∧μ.f b=some B)∨(¬out b∧μ1.f b=some B):=by
  intro b B e
  simp only[μ'] at e
  by_cases ho:out b
  ·rw[if_pos ho] at e;exact .inl ⟨ho,e⟩
  ·rw[if_neg ho] at e;exact .inr ⟨ho,e⟩
 have hseal1:∀g,Sealed μ1 w' g→Sealed μ' w' g:=fun g hs=>⟨hs.1,fun hb=>hs.2.1 ((hban1 g).2 (.inl hb)),fun b B e hg=>by
  rcases hfspec b B e with ⟨ho,e1⟩|⟨_,e1⟩
  ·exact hs.2.1 (hg▸hout_in b B ho e1)
  ·exact hs.2.2 b B e1 hg⟩
 have hblk:∀b B,out b→μ.f b=some B→w'.heap[B.g]? =w.heap[B.g]? :=fun b B ho e=>
  st.keep B.g (s.lt b B e).2 (.inl (.inr ⟨b,B,ho.2,e,rfl⟩))
 have stt:Step μ w μ' w':=by
  refine ⟨⟨hnx,fun b hb B' e=>?_,fun b hb hv=>?_,fun g=>Iff.rfl,fun g hg hk=>?_,fun g hg=>?_,st.size,st.os,st.tape,st.output⟩,fun k a e B ef=>?_⟩
  rotate_right
  ·have ho:out k:=⟨(s.hadr k a e).2,fun hin=>by
    have h1:=(s.hadr k a e).1
    rw[get_app] at h1
    cases hq:F.get k with
    |none=>exact hin hq
    |some q=>rw[hq] at h1;cases h1⟩
   exact ⟨by simp only[μ'];rw[if_pos ho];exact e,by simp only[μ'];rw[if_pos ho];exact ef,hblk k B ho ef⟩
  ·rcases hfspec b B' e with ⟨_,e1⟩|⟨hno,e1⟩
   ·exact .inr ⟨B',e1,Nat.le_refl _,fun _=>rfl⟩
   ·rcases st.old b hb B' e1 with ⟨hv,hp⟩|⟨B,e2,h2,h3⟩
    ·exact .inl ⟨hv.2,hp⟩
    ·exact .inr ⟨B,(hf0 b B e2).2,h2,h3⟩
  ·simp only[μ'] at hv
   by_cases ho:out b
   ·rw[if_pos ho] at hv;exact hv
   ·rw[if_neg ho] at hv;exact (st.vir b hb hv).2
  ·refine st.keep g hg ?_
   rcases hk with hk|hk
   ·exact .inl (.inl hk)
   ·exact .inr (hse0 w g hk)
  ·have h1:=st.sld g (hse0 w g hg)
   exact hseal1 g h1
 have ndAll:Nd (F'++rest):=by
  unfold Nd at nd ndF ⊢
  rw[List.map_append] at nd ⊢
  refine List.nodup_append.2 ⟨ndF,(List.nodup_append.1 nd).2.1,fun a ha b hb hab=>?_⟩
  subst hab
  have h1:F'.get a≠none:=fun hh=>Hp.get_none.1 hh ha
  have h2:rest.get a≠none:=fun hh=>Hp.get_none.1 hh hb
  obtain ⟨q,hq⟩:=Option.ne_none_iff_exists'.1 h2
  exact hF'out a h1 (hrest a q hq)
 have in1:∀a v,inH F' a→VR μ1 w' a v→VR μ' w' a v:=fun a v hi hv=>VR.inH (μ:=μ1) (μ':=μ') (Nat.le_refl _) (fun b hb=>by
  have:=hF'out b hb
  simp only[μ']
  rw[if_neg this,if_neg this]
  exact ⟨rfl,Iff.rfl⟩) hseal1 (fun k a B e ef=>by
  have hno:¬out k:=fun ho=>by rw[(hold k ho).1] at ef;cases ef
  simp only[μ']
  rw[if_neg hno,if_neg hno,if_neg hno]
  exact ⟨e,ef,fun h=>h⟩) a v hi hv
 refine ⟨c,r,μ',F'++rest,rfl,⟨F',hQ,rfl,ndAll⟩,in1 _ _ hin hr,?_,stt⟩
 refine ⟨fun b q e=>?_,fun b b' B B' e e' hg=>?_,fun b B e=>?_,fun b hb=>?_,fun b B e=>?_,fun g hg=>Nat.lt_of_lt_of_le (s.banlt g hg) st.size,fun k a e=>?_⟩
 rotate_right
 ·simp only[μ'] at e
  by_cases ho:out k
  ·rw[if_pos ho] at e
   have h1:=(s.hadr k a e).1
   have h2:F'.get k=none:=by
    cases hq:F'.get k with
    |none=>rfl
    |some q=>exact (hF'out k (by rw[hq];simp) ho).elim
   have h3:F.get k=none:=by
    cases hq:F.get k with
    |none=>rfl
    |some q=>exact (ho.2 (by show F.get k≠none;rw[hq];simp)).elim
   rw[get_app,h3] at h1
   refine ⟨by rw[get_app,h2];exact h1,Nat.lt_of_lt_of_le ho.1 hnx⟩
  ·rw[if_neg ho] at e
   have h2:=(s1.hadr k a e).1
   refine ⟨?_,(s1.hadr k a e).2⟩
   rw[get_app,h2]
   show rest.get k=none
   cases hq:rest.get k with
   |none=>rfl
   |some q=>exact (ho (hrest k q hq)).elim
 ·rw[get_app] at e
  cases hq:F'.get b with
  |some q'=>
   rw[hq] at e
   have e:some q'=some q:=e
   injection e with e
   subst e
   have hno:=hF'out b (by rw[hq];simp)
   rcases s1.row b q' hq with ⟨h1,h2,h3⟩|⟨B,cs,h0,h1,h2,h3,h4,h5,h6⟩
   ·exact .inl ⟨by simp only[μ'];rw[if_neg hno];exact h1,by simp only[μ'];rw[if_neg hno];exact h2,h3⟩
   ·refine .inr ⟨B,cs,by simp only[μ'];rw[if_neg hno];exact h0,by simp only[μ'];rw[if_neg hno];exact h1,h2,h3,h4,h5,fun i hi=>?_⟩
    obtain ⟨u,hu,hv⟩:=h6 i hi
    exact ⟨u,hu,in1 _ _ (hcl' b q' hq i hi) hv⟩
  |none=>
   rw[hq] at e
   have e:rest.get b=some q:=e
   have ho:=hrest b q e
   rcases s.row b q (hsubR b q e) with ⟨h1,h2,h3⟩|⟨B,cs,h0,h1,h2,h3,h4,h5,h6⟩
   ·exact .inl ⟨by simp only[μ'];rw[if_pos ho];exact h1,by simp only[μ'];rw[if_pos ho];exact h2,h3⟩
   ·refine .inr ⟨B,cs,by simp only[μ'];rw[if_pos ho];exact h0,by simp only[μ'];rw[if_pos ho];exact h1,h2,(hblk b B ho h1).trans h3,h4,h5,fun i hi=>?_⟩
    obtain ⟨u,hu,hv⟩:=h6 i hi
    exact ⟨u,hu,VR.mono stt _ _ hv⟩
 ·rcases hfspec b B e with ⟨ho,e1⟩|⟨hn,e1⟩<;>rcases hfspec b' B' e' with ⟨ho',e2⟩|⟨hn',e2⟩
  ·exact s.inj b b' B B' e1 e2 hg
  ·exact (s1.noban b' B' e2 (hg▸hout_in b B ho e1)).elim
  ·exact (s1.noban b B e1 (hg▸hout_in b' B' ho' e2)).elim
  ·exact s1.inj b b' B B' e1 e2 hg
 ·rcases hfspec b B e with ⟨ho,e1⟩|⟨_,e1⟩
  ·have:=s.lt b B e1;exact ⟨Nat.lt_of_lt_of_le this.1 hnx,Nat.lt_of_lt_of_le this.2 st.size⟩
  ·exact s1.lt b B e1
 ·simp only[μ'] at hb
  by_cases ho:out b
  ·exact Nat.lt_of_lt_of_le ho.1 hnx
  ·rw[if_neg ho] at hb;exact s1.vlt b hb
 ·rcases hfspec b B e with ⟨ho,e1⟩|⟨_,e1⟩
  ·exact s.noban b B e1
  ·exact fun hban=>s1.noban b B e1 ((hban1 _).2 (.inl hban))
end Go.AX

namespace Go.AX
open Go.AM Go.RowKit
class NoA (a:AV):Prop where
 no:NO a
class NoR (r:Row):Prop where
 no:∀i,i<r.m→NO (r.cells i)
instance {α:Type} [Enc α] (x:α):NoA (Enc.v x):=⟨(v_val x).no⟩
instance {α:Type} [Enc α] (b:Nat) (xs:List α):NoA (OL b xs):=⟨trivial⟩
instance (b o n s z:Nat):NoA (.rs b o n s z):=⟨trivial⟩
instance (b o s:Nat):NoA (.ref b o s):=⟨trivial⟩
instance:NoA .junk:=⟨trivial⟩
instance:NoA .nilp:=⟨trivial⟩
instance:NoA .nils:=⟨trivial⟩
instance:NoA .nilf:=⟨trivial⟩
instance:NoA .z0:=⟨trivial⟩
instance (b:Bool):NoA (.bool b):=⟨trivial⟩
instance (k:IntKind) (n:Int):NoA (.int k n):=⟨trivial⟩
instance (s:ByteArray):NoA (.str s):=⟨trivial⟩
instance:NoL []:=⟨fun i hi=>by cases hi⟩
instance (a:AV) (l:List AV) [ha:NoA a] [hl:NoL l]:NoL (a::l):=⟨fun i hi=>by
 cases i with
 |zero=>exact ha.no
 |succ i=>exact hl.no i (by simpa using hi)⟩
theorem NoL.of {l:List AV} [h:NoL l] {m:Nat}:∀i,i<m→NO (ofL l i):=fun i _=>by
 by_cases hi:i<l.length
 ·exact h.no i hi
 ·have:ofL l i= .junk:=by simp[ofL,List.getD_eq_getElem?_getD,List.getElem?_eq_none (Nat.le_of_not_lt hi)]
  rw[this];trivial
instance (l:List AV) [NoL l] (m o:Nat):NoA (.vref (ofL l) m o):=⟨NoL.of⟩
instance (f:FuncId) (l:List AV) [NoL l] (m:Nat):NoA (.fn f m (ofL l)):=⟨NoL.of⟩
instance (l:List AV) [NoL l] (m:Nat):NoA (.tup m (ofL l)):=⟨NoL.of⟩
instance (l:List AV) [NoL l] (m:Nat):NoA (.agg m (ofL l)):=⟨NoL.of⟩
instance (l:List AV) [NoL l] (m n:Nat):NoA (.sl (ofL l) m n):=⟨NoL.of⟩
instance {α:Type} [Enc α] (ty:TypeId) (xs:List α):NoR (RL ty xs):=⟨fun i hi=>by
 exact (rowL_val Enc.pos (fun x d _=>ec_val x d) i).no⟩
instance (ty:TypeId) (l:List AV) [h:NoL l]:NoR (RV ty l):=⟨fun i hi=>h.no i hi⟩
instance:NoHp []:=⟨fun b r e=>by cases e⟩
instance (b:Nat) (r:Row) (h:Hp) [hr:NoR r] [hh:NoHp h]:NoHp ((b,r)::h):=⟨fun x q e=>by
 simp only[Hp.get] at e
 by_cases hx:b=x
 ·rw[if_pos hx] at e;injection e with e;subst e;exact hr.no
 ·rw[if_neg hx] at e;exact hh.no x q e⟩
section
variable {C:Cx} {P:Program} {nt:Nat} {env:Env} {h hS:Hp} {K:Env→Hp→Prop} {gc gx gy:Bool} {t:TypeId} {x y:X} {u:AV} {α β:Type} [Enc α] [Enc β]
theorem Wk_eq {v v':AV} (h:v=v'):Wk v v':=by subst h;exact Wk.refl _
theorem OL_len {b:Nat} {xs ys:List α} (h:xs.length=ys.length):OL b xs=OL b ys:=by unfold OL;rw[h]
theorem WkL_refl:∀(l:List AV),WkL l l
 |[]=>trivial
 |_::r=>⟨Wk.refl _,WkL_refl r⟩
theorem WkL.len:∀{l l':List AV},WkL l l'→l.length=l'.length
 |[],[],_=>rfl
 |_::_,_::_,hh=>by simp[WkL.len hh.2]
theorem TK.cvR {Q:Post} {c:KC} (nd:Nd h) {j b:Nat} {ty:TypeId} {l l':List AV} (hj:h[j]? =some (b,RV ty l)) (hw:WkL l l') (k:Nd (h.set j (b,RV ty l'))→TK P nt c Q env (h.set j (b,RV ty l'))):TK P nt c Q env h:=by
 obtain ⟨hu,nd'⟩:=nd.upd (r':=RV ty l') hj
 have hr:=nd.get hj
 intro c' hc μ a w s
 refine k nd' c' hc μ a w ⟨?_,s.env,s.size,s.defers⟩
 rw[←hu]
 refine ⟨fun x q e=>?_,s.sim.inj,s.sim.lt,s.sim.vlt,s.sim.noban,s.sim.banlt,fun k a e=>⟨s.sim.hadr_upd e hr,(s.sim.hadr k a e).2⟩⟩
 rw[Hp.get_upd] at e
 by_cases hx:x=b
 ·subst hx
  rw[if_pos rfl,hr] at e
  simp only[Option.map_some,Option.some.injEq] at e
  subst e
  have hlen:=hw.len
  rcases s.sim.row x _ hr with ⟨hv,hn,h0⟩|⟨B,cs,hnv,q1,q2,q3,q4,q5,q6⟩
  ·exact .inl ⟨hv,hn,by simp only[RV] at h0 ⊢;omega⟩
  ·refine .inr ⟨B,cs,hnv,q1,by simp only[RV] at q2 ⊢;omega,q3,q4,by simp only[RV] at q5 ⊢;omega,fun i hi=>?_⟩
   obtain ⟨u,hu,hv⟩:=q6 i (by simp only[RV] at hi ⊢;omega)
   exact ⟨u,hu,WkL.at hw i _ _ _ hv⟩
 ·rw[if_neg hx] at e
  exact s.sim.row x q e
theorem TL.setrowW {ks:List KO} (nd:Nd h) {j b:Nat} {r q q':Row} (hj:h[j]? =some (b,r)) (h1:q'.ty=q.ty) (h2:q'.m=q.m) (h3:∀i,i<q.m→Wk (q.cells i) (q'.cells i))
 (k:Nd (h.set j (b,q'))→TL P nt ks K env (h.set j (b,q'))):TL P nt ks K env (h.upd b q):=by
 obtain ⟨hu,nd'⟩:=nd.upd (r':=q) hj
 obtain ⟨hu2,nd''⟩:=nd.upd (r':=q') hj
 have hr:=nd.get hj
 intro os hl hz μ a w s
 refine k nd'' os hl hz μ a w ⟨?_,s.env,s.size,s.defers⟩
 rw[←hu2]
 refine ⟨fun x p e=>?_,s.sim.inj,s.sim.lt,s.sim.vlt,s.sim.noban,s.sim.banlt,fun k a e=>⟨by
  have h1:=(s.sim.hadr k a e).1
  rw[Hp.get_upd] at h1 ⊢
  by_cases hk:k=b
  ·rw[if_pos hk,hr] at h1;cases h1
  ·rw[if_neg hk] at h1 ⊢;exact h1,(s.sim.hadr k a e).2⟩⟩
 rw[Hp.get_upd] at e
 by_cases hx:x=b
 ·subst hx
  rw[if_pos rfl,hr] at e
  simp only[Option.map_some,Option.some.injEq] at e
  subst e
  rcases s.sim.row x q (by rw[Hp.get_upd,if_pos rfl,hr];rfl) with ⟨hv,hn,h0⟩|⟨B,cs,hnv,q1,q2,q3,q4,q5,q6⟩
  ·exact .inl ⟨hv,hn,by rw[h2];exact h0⟩
  ·refine .inr ⟨B,cs,hnv,q1,by rw[h2];exact q2,by rw[h1];exact q3,q4,by rw[h2];exact q5,fun i hi=>?_⟩
   obtain ⟨u,hu,hv⟩:=q6 i (by rw[←h2];exact hi)
   exact ⟨u,hu,h3 i (by rw[←h2];exact hi) _ _ _ hv⟩
 ·rw[if_neg hx] at e
  exact s.sim.row x p (by rw[Hp.get_upd,if_neg hx];exact e)
theorem TL.stW {b st:Nat} {i:Int} {xs:List α} {a':α} {lu:List AV} {ti:TI} {ks:List KO} (nd:Nd h) (ht:C.ty t=some ti) (hx:ev env x=(true,.ref b (i.toNat*Enc.sz α+0) st)) {j:Nat} {ty:TypeId} (hj:h[j]? =some (b,RL ty xs)) (hst:st=xs.length*Enc.sz α)
 (hb:0≤i∧i<xs.length) (hy:ev env y=(true,u)) (hc:Cells h u lu) (hsz:ti.sz=lu.length) (hlu:WkL lu (Enc.cl a'))
 (rest:Nd (h.set j (b,RL ty (xs.set i.toNat a')))→TL C.P nt ks K env (h.set j (b,RL ty (xs.set i.toNat a')))):TL C.P nt (⟨none,none,.st t x y⟩::ks) K env h:=by
 obtain ⟨pc,S,h1,h2,h3,h4⟩:=hc
 have hlen:lu.length=Enc.sz α:=by rw[hlu.len,Enc.len]
 have hfit:(i.toNat+1)*Enc.sz α≤xs.length*Enc.sz α:=Nat.mul_le_mul_right _ (by omega)
 rw[Nat.add_mul] at hfit
 refine TL.st (m:=lu.length) (pc:=pc) (S:=S) (r:=RL ty xs) rfl rfl rfl ht (by rw[hx,hst];rfl) (nd.get hj) (by rw[hy]) (by rw[hy];exact h1) h2 hsz.symm (by simp only[RL];omega) (allOne_of fun d hd=>?_) ?_
 ·rw[h3 d hd]
  simp only[ofL,List.getD_eq_getElem?_getD,List.getElem?_eq_getElem hd,Option.getD_some]
  exact h4 _ (List.getElem_mem hd)
 ·refine TL.setrowW (q:={ RL ty xs with cells:=putC (RL ty xs).cells (i.toNat*Enc.sz α+0) lu.length pc }) (q':=RL ty (xs.set i.toNat a')) nd hj rfl (by simp[RL]) (fun k hk=>?_) rest
  simp only[RL] at hk ⊢
  have hsz0:=Enc.pos (α:=α)
  have hkd:k=k/Enc.sz α*Enc.sz α+k%Enc.sz α:=by rw[Nat.mul_comm];exact (Nat.div_add_mod _ _).symm
  have hm:=Nat.mod_lt k hsz0
  rw[rowL_split hsz0]
  unfold putC
  by_cases hki:k/Enc.sz α=i.toNat
  ·have hkm:k/Enc.sz α*Enc.sz α=i.toNat*Enc.sz α:=by rw[hki]
   rw[if_pos (by omega),hki,List.getElem?_set_self (by omega),h3 _ (by omega),show k-(i.toNat*Enc.sz α+0)=k%Enc.sz α by omega]
   exact WkL.at hlu _
  ·rw[List.getElem?_set_ne (fun e=>hki e.symm)]
   have hno:¬(i.toNat*Enc.sz α+0≤k∧k<i.toNat*Enc.sz α+0+lu.length):=by
    rintro ⟨q1,q2⟩
    apply hki
    rcases Nat.lt_trichotomy (k/Enc.sz α) i.toNat with h5|h5|h5
    ·have:(k/Enc.sz α+1)*Enc.sz α≤i.toNat*Enc.sz α:=Nat.mul_le_mul_right _ (by omega)
     rw[Nat.add_mul] at this
     omega
    ·exact h5
    ·have:(i.toNat+1)*Enc.sz α≤k/Enc.sz α*Enc.sz α:=Nat.mul_le_mul_right _ (by omega)
     rw[Nat.add_mul] at this
     omega
   rw[if_neg hno,rowL_split hsz0]
   exact Wk.refl _
theorem inb_of {γ:Type} {xs:List γ} {i:Int} {a:γ} (h:getI xs i=some a) {ys:List γ} (hl:ys.length=xs.length):0≤i∧i<ys.length:=by
 obtain ⟨h1,h2,_⟩:=getI_in h
 exact ⟨h1,by omega⟩
def Look1 (h:Hp) (a a':AV):Prop:=∀(μ:Mu) (w:World) (c:Value),Sim μ h w→VR μ w a c→VR μ.flat w a' c
def LookL (h:Hp):List AV→List AV→Prop
 |[],[]=>True
 |a::r,a'::r'=>Look1 h a a'∧LookL h r r'
 |_,_=>False
theorem Look1.of {a a':AV} {S:Prop} (e:lookV h a=(a',S)) (hS:S):Look1 h a a':=fun μ w c s hv=>by
 have:=lookV_ok s (a:=a) (by rw[e];exact hS) hv
 rw[e] at this
 exact this
theorem look_v {v:AV} (hv:v.val):Look1 h v v:=by
 refine Look1.of (S:=v.val) ?_ hv
 cases v<;>first|rfl|exact hv.elim
theorem look_OL (nd:Nd h) {j b:Nat} {ty:TypeId} {xs:List α} (hj:h[j]? =some (b,RL ty xs)):Look1 h (OL b xs) (L xs):=by
 have hr:=nd.get hj
 refine Look1.of (S:=(xs.length*Enc.sz α=(RL ty xs).m∧0<Enc.sz α)∧∀i,i<(RL ty xs).m→((RL ty xs).cells i).val) ?_ ⟨⟨rfl,Enc.pos⟩,fun i _=>rowL_val Enc.pos (fun x d _=>ec_val x d) i⟩
 simp only[lookV,OL,hr]
 congr 1
 exact CS_all Enc.pos
theorem LookL.at:∀{l l':List AV},LookL h l l'→l'.length=l.length∧∀i,i<l.length→Look1 h (ofL l i) (ofL l' i)
 |[],[],_=>⟨rfl,fun i hi=>by simp at hi⟩
 |a::r,a'::r',⟨h1,h2⟩=>by
  obtain ⟨h3,h4⟩:=LookL.at h2
  refine ⟨by simp[h3],fun i hi=>?_⟩
  cases i with
  |zero=>exact h1
  |succ i=>exact h4 i (by simpa using hi)
theorem look_ref (nd:Nd h) {j b o:Nat} {ty:TypeId} {l l':List AV} (hj:h[j]? =some (b,RV ty l)) (hl:LookL h l l'):Look1 h (.ref b o l.length) (.vref (ofL l') l.length o):=by
 have hr:=nd.get hj
 intro μ w c s hv
 obtain ⟨r',B,cs,hg,hst,hB,hL,rfl,hh,hE,hmE,hcells⟩:=s.ref (by unfold refOK;rw[hr];rfl) hv
 rw[hr] at hg
 injection hg with hg
 subst hg
 refine ⟨B.g,0,by simp,⟨(s.lt b B hB).2,s.noban b B hB,fun x B' e'=>by cases e'⟩,fun i hi=>?_⟩
 obtain ⟨u,hu,hv⟩:=hcells i hi
 exact ⟨u,by simp[World.cell?,hh,hu],hl.at.2 i hi μ w u s hv⟩
theorem TL.lookX {d:Nat} {g:Option (Nat×Bool)} {f:X} {xs:List X} {gc:Bool} {fid:FuncId} {args:List AV} {r:AV} {ks:List KO} (args':List AV) (hg:gcOf env g=some gc) (hd:Nat.ble (d+1) nt=true)
 (ha:argsA env f xs=some (fid,args)) (hgx:gc=true→(ev env f).1=true∧allG (evs env xs)) (hl:LookL h args args') (hf:gc=true→Fun P fid args' (·=r)) (hr:r.closed)
 (rest:TL P nt ks K ((d,gc,r)::env) h):TL P nt (⟨some d,g,.call f xs⟩::ks) K env h:=by
 have hd':∀x,some d=some x→x<nt:=dlt hd
 refine TL.cons (gc:=gc) hg ?_ (fun e=>⟨hd',by subst e;exact TL.under rest⟩)
 intro o μ a w ho hdst s hgc N hN
 have F:=hf hgc
 obtain ⟨cargs,hr',hsz,hv⟩:=call_run s ho ha (hgx hgc).1 (hgx hgc).2 F.enters
 unfold Oper.wp
 rw[hr']
 simp only[Oper.upon]
 have hm:MuOK μ.flat w:=⟨(fun b B e=>by cases e),s.sim.muok.2⟩
 refine (F.calls μ.flat w cargs hm (by rw[hl.at.1];simpa using hsz) (fun i hi=>?_)).mono ?_
 ·have hi':i<args.length:=by rw[←hl.at.1];exact hi
  exact hl.at.2 i hi' μ w _ s.sim (hv i hi')
 rintro e w' ⟨c,r',rfl,rfl,hrval,hrv,hb⟩
 simp only
 rw[hdst]
 have st:=Step.of_below s.sim.muok hb
 have s':SimA nt μ env h a w':=⟨s.sim.below hb,s.env.mono st,s.size,s.defers⟩
 subst hgc
 exact hN μ _ h _ w' (s'.put hd' (fun _=>VR.closed _ _ hr hrv) (fun e=>by simp at e)) st rest
theorem vok_lookX {f:X} {xs:List X} {fid:FuncId} {args:List AV} {r:AV} (args':List AV) (ha:argsA env f xs=some (fid,args)) (hgx:gc=true→(ev env f).1=true∧allG (evs env xs)) (hl:LookL h args args')
 (hf:gc=true→Fun P fid args' (·=r)) (hr:r.closed):gc=true→VOK P nt h env (.call f xs) r:=fun hgc=>by
 intro o μ a w ho s N hN
 have F:=hf hgc
 obtain ⟨cargs,hr',hsz,hv⟩:=call_run s ho ha (hgx hgc).1 (hgx hgc).2 F.enters
 unfold Oper.wp
 rw[hr']
 simp only[Oper.upon]
 have hm:MuOK μ.flat w:=⟨(fun b B e=>by cases e),s.sim.muok.2⟩
 refine (F.calls μ.flat w cargs hm (by rw[hl.at.1];simpa using hsz) (fun i hi=>?_)).mono ?_
 ·have hi':i<args.length:=by rw[←hl.at.1];exact hi
  exact hl.at.2 i hi' μ w _ s.sim (hv i hi')
 rintro e w' ⟨c,r',rfl,rfl,hrval,hrv,hb⟩
 exact hN c w' (VR.closed _ _ hr hrv) hb
def allClosed:List AV→Prop
 |[]=>True
 |v::r=>v.closed∧allClosed r
def TCX (P:Program) (f:FuncId) (args:List AV) (F:Hp) (Q:AV→Hp→Prop):Prop:=TC P f args F (fun r h'=>Q r h'∧Nd h'∧inH h' r∧clH h')∧NoL args∧NoHp F
theorem TL.tcX {d:Option Nat} {f:X} {xs:List X} {fid:FuncId} {args:List AV} {ks:List KO} {Q:AV→Hp→Prop} (F rest:Hp) (hh:h=F++rest) (nd:Nd h) (hd:∀x,d=some x→x<nt)
 (ha:argsA env f xs=some (fid,args)) (hgx:(ev env f).1=true∧allG (evs env xs)) (hf:TCX P fid args F Q)
 (k:∀r F',Q r F'→Nd (F'++rest)→TL P nt ks K (putE d true r env) (F'++rest)):TL P nt (⟨d,none,.call f xs⟩::ks) K env h:=by
 subst hh
 obtain ⟨hf,_,_⟩:=hf
 refine TL.tc (Q:=fun r h'=>∃F',(Q r F'∧Nd F'∧inH F' r∧clH F')∧h'=F'++rest∧Nd (F'++rest)) rfl rfl hd ha hgx (TC.frame hf nd (fun r h' hq=>hq.2)) ?_
 rintro r h' ⟨F',⟨hq,_⟩,rfl,nd'⟩
 exact k r F' hq nd'
theorem inH_rs {j b o n st sz:Nat} {r:Row} (nd:Nd h) (hj:h[j]? =some (b,r)):inH h (.rs b o n st sz):=by
 show h.get b≠none
 rw[nd.get hj];simp
theorem inH_ref {j b o st:Nat} {r:Row} (nd:Nd h) (hj:h[j]? =some (b,r)):inH h (.ref b o st):=by
 show h.get b≠none
 rw[nd.get hj];simp
def allIn (h:Hp):List AV→Prop
 |[]=>True
 |v::r=>inH h v∧allIn h r
theorem allIn.at:∀{l:List AV},allIn h l→∀i,inH h (ofL l i)
 |[],_,i=>trivial
 |v::r,hh,i=>by
  cases i with
  |zero=>exact hh.1
  |succ i=>exact allIn.at hh.2 i
theorem inH_tup {l:List AV} {n:Nat} (hl:allIn h l):inH h (.tup n (ofL l)):=fun i _=>allIn.at hl i
theorem inH_agg {l:List AV} {n:Nat} (hl:allIn h l):inH h (.agg n (ofL l)):=fun i _=>allIn.at hl i
def rowIn (h:Hp) (r:Row):Prop:=∀i,i<r.m→inH h (r.cells i)
theorem rowIn_RL {ty:TypeId} {xs:List α}:rowIn h (RL ty xs):=fun i _=>inH_val (rowL_val Enc.pos (fun x d _=>ec_val x d) i)
theorem rowIn_RV {ty:TypeId} {l:List AV} (hl:allIn h l):rowIn h (RV ty l):=fun i _=>allIn.at hl i
def rowsIn (h:Hp):Hp→Prop
 |[]=>True
 |p::r=>rowIn h p.2∧rowsIn h r
theorem rowsIn.get:∀{g:Hp},rowsIn h g→∀b r,g.get b=some r→rowIn h r
 |[],_,b,r,e=>by cases e
 |(x,q)::g,hh,b,r,e=>by
  simp only[Hp.get] at e
  by_cases hx:x=b
  ·rw[if_pos hx] at e;injection e with e;subst e;exact hh.1
  ·rw[if_neg hx] at e;exact rowsIn.get hh.2 b r e
theorem clH_of (hh:rowsIn h h):clH h:=fun b r e=>rowsIn.get hh b r e
theorem retX {ts:List Nat} {v:AV} {R:AV→Hp→Prop} (hv:(resA ts env).1=v∧(resA ts env).2) (hR:R v h) (nd:Nd h) (hin:inH h v) (hcl:rowsIn h h):RetQ ts (fun r h'=>R r h'∧Nd h'∧inH h' r∧clH h') .ret env h:=by
 obtain ⟨h1,h2⟩:=hv
 exact ⟨h2,by rw[h1];exact ⟨hR,nd,hin,clH_of hcl⟩⟩
theorem res1 {t:Nat} {v:AV} (hl:lk env t=some (true,v)):(resA [t] env).1=v∧(resA [t] env).2:=by
 simp only[resA,hl,Option.getD_some];exact ⟨trivial,trivial⟩
theorem Nd.take {g F:Hp} (nd:Nd g) (n:Nat) (hF:g.take n=F):Nd F:=by
 subst hF
 unfold Nd at nd ⊢
 exact nd.sublist ((List.take_sublist n g).map _)
theorem TCX.of {f:FuncId} {ts:List Nat} {k:KC} (B:Body P f nt ts k) {args:List AV} {Q:AV→Hp→Prop} (hn:args.length≤nt)
 (hT:TK P nt k (RetQ ts fun r h'=>Q r h'∧Nd h'∧inH h' r∧clH h') (argsE 0 args) h) [NoL args] [NoHp h]:TCX P f args h Q:=⟨TC.of B hn hT,inferInstance,inferInstance⟩
theorem TK.ownC {Q:Post} {c:KC} (nd:Nd h) {j b:Nat} {ty:TypeId} {l:List AV} (hj:h[j]? =some (b,RV ty l)) (o:Nat) (e:TypeId) (ho:l[o]? =some .nils∨l[o]? =some .z0)
 (k:∀b',Nd ((b',RL e ([]:List α))::h.set j (b,RV ty (l.set o (OL b' ([]:List α)))))→TK P nt c Q env ((b',RL e ([]:List α))::h.set j (b,RV ty (l.set o (OL b' ([]:List α)))))):TK P nt c Q env h:=by
 have hr:=nd.get hj
 have hlt:o<l.length:=by rcases ho with ho|ho<;>exact (List.getElem?_eq_some_iff.1 ho).1
 refine TK.ownH b o e (Enc.sz α) (rowL (Enc.sz α) ec ([]:List α)) hr ?_ (fun b'=>ofL (l.set o (.rs b' 0 0 0 (Enc.sz α)))) (fun b'=>⟨?_,fun i hi hm=>?_⟩) fun b' hb'=>?_
 ·rcases ho with ho|ho
  ·left;simp[RV,ofL,List.getD_eq_getElem?_getD,ho]
  ·right;simp[RV,ofL,List.getD_eq_getElem?_getD,ho]
 ·simp only[ofL,List.getD_eq_getElem?_getD]
  rw[List.getElem?_set_self hlt];rfl
 ·simp only[RV,ofL,List.getD_eq_getElem?_getD]
  rw[List.getElem?_set_ne (fun e=>hi e.symm)]
 ·obtain ⟨hu,nd'⟩:=nd.upd (r':=RV ty (l.set o (OL b' ([]:List α)))) hj
  have hb2:Hp.get (h.set j (b,RV ty (l.set o (OL b' ([]:List α))))) b'=none:=by
   rw[←hu,Hp.get_upd]
   by_cases hx:b'=b
   ·subst hx;rw[hr] at hb';cases hb'
   ·rw[if_neg hx];exact hb'
  have:=k b' (nd'.cons _ hb2)
  rw[←hu] at this
  have e1:({ RV ty l with cells:=ofL (l.set o (.rs b' 0 0 0 (Enc.sz α))) }:Row)=RV ty (l.set o (OL b' ([]:List α))):=by
   simp[RV,OL]
  rw[e1]
  have e2:(⟨e,0,rowL (Enc.sz α) ec ([]:List α)⟩:Row)=RL e ([]:List α):=by simp[RL]
  rw[e2]
  exact this
end
end Go.AX

namespace Go.AX
open Go.AM Go.RowKit
section
variable {C:Cx} {P:Program} {nt:Nat} {env:Env} {h hS:Hp} {K:Env→Hp→Prop} {gc gx gy:Bool} {t:TypeId} {x y:X} {u:AV} {α β:Type} [Enc α] [Enc β]
theorem p_eqV {e m o:Nat} {cs:Nat→AV} (hk:C.kd t=some (.ptr e)) (hx:ev env x=(gx,.vref cs m o)) (hy:ev env y=(gy,.nilp)) (hg:gc=true→gx=true∧gy=true:=by first|exact fun _=>⟨rfl,rfl⟩|simp_all):
 PVok C h env (.bin .eql t x y) gc (.bool false):=by
 refine pvE (S:=(gx=true∧gy=true)∧True) ?_ fun e=>⟨hg e,trivial⟩
 have:binAll C h .eql t (.vref cs m o) .nilp=(.bool false,True):=by
  show eqA C h t false _ _=_
  simp only[eqA,hk,eqB];rfl
 simp only[pv,hx,hy,this]
theorem p_neV {e m o:Nat} {cs:Nat→AV} (hk:C.kd t=some (.ptr e)) (hx:ev env x=(gx,.vref cs m o)) (hy:ev env y=(gy,.nilp)) (hg:gc=true→gx=true∧gy=true:=by first|exact fun _=>⟨rfl,rfl⟩|simp_all):
 PVok C h env (.bin .neq t x y) gc (.bool true):=by
 refine pvE (S:=(gx=true∧gy=true)∧True) ?_ fun e=>⟨hg e,trivial⟩
 have:binAll C h .neq t (.vref cs m o) .nilp=(.bool true,True):=by
  show eqA C h t true _ _=_
  simp only[eqA,hk,eqB];rfl
 simp only[pv,hx,hy,this]
def nilU {ρ γ:Type} [DecidableEq ρ] (xs:List γ) (k:Bool→Option ρ):Option ρ:=match xs with
 |[]=>if k true=k false then k true else none
 |_=>k false
theorem nilU_t {ρ γ:Type} [DecidableEq ρ] {xs:List γ} {k:Bool→Option ρ} {r:ρ} (hh:nilU xs k=some r) {b:Bool} (hb:b=true→xs=[]):k b=some r:=by
 unfold nilU at hh
 split at hh
 ·split at hh
  ·rename_i h2
   cases b
   ·rw[←h2];exact hh
   ·exact hh
  ·cases hh
 ·rename_i h1
  cases b
  ·exact hh
  ·exact (h1 (hb rfl)).elim
theorem bin_op {o:Oper} {op:BinOp} {t:TypeId} {x y:X} (ho:cookOp o.op=some (.bin op t x y)):∃ox oy ty,o.op= .binOp op t ox oy ty∧cookX ox=some x∧cookX oy=some y:=by
 unfold cookOp at ho
 split at ho<;>(try (simp at ho;done))<;>(try (split at ho<;>simp at ho<;>done))
 case h_11 op' t' x' y' ty e=>
  split at ho
  case h_2=>simp at ho
  case h_1 x2 y2 h1 h2=>
   simp only[Option.some.injEq,I.bin.injEq] at ho
   obtain ⟨rfl,rfl,rfl,rfl⟩:=ho
   exact ⟨_,_,_,e,h1,h2⟩
theorem TL.eqNilU {d:Nat} {e:TypeId} {xs:List α} {ks:List KO} (hk:C.kd t=some (.slc e)) (hx:ev env x=(true,L xs)) (hy:ev env y=(true,.nils)) (hd:Nat.ble (d+1) nt=true)
 (rest:∀b:Bool,(b=true→xs=[])→TL C.P nt ks K ((d,true,.bool b)::env) h):TL C.P nt (⟨some d,none,.bin .eql t x y⟩::ks) K env h:=by
 refine TL.cons (gc:=true) rfl ?_ (fun e=>by simp at e)
 intro o μ a w ho hdst s _ N hN
 obtain ⟨ox,oy,ty,hop,hcx,hcy⟩:=bin_op ho
 have vx:=ev_ok hcx s.env (by rw[hx])
 rw[hx] at vx
 have vy:=ev_ok hcy s.env (by rw[hy])
 rw[hy] at vy
 have vy:a.eval oy= .slice none 0 0:=vy
 have hb0:Below w.heap.size w w:=Below.refl _ _
 have key:∀b:Bool,(b=true→xs=[])→(Sem.run C.P (do eqGuard .eql t ox oy (a.eval ox) (a.eval oy);binOp .eql t (a.eval ox) (a.eval oy)) w= .ok (.bool b) w)→o.wp C.P a w N (fun _ _ _=>False):=by
  intro b hb hrun
  unfold Oper.wp
  have:(execOp a.eval o).run C.P w= .ok (.value (.bool b)) w:=by
   simp only[execOp,hop]
   rw[Sem.run_bind,hrun]
   rfl
  rw[this]
  simp only[Oper.upon]
  rw[hdst]
  exact hN μ _ _ _ _ (env_put (v:= .bool b) s (Step.refl μ w) s.sim (dlt hd) rfl) (Step.refl μ w) (rest b hb)
 obtain ⟨i,hi,hkk,hK⟩:=kd_ok hk
 have vx:VR μ w (L xs) (a.eval ox):=vx
 generalize hcx':a.eval ox=cx at key vx
 rw[vy] at key
 rcases vx with ⟨h0,h1,rfl⟩|⟨ad,cap,rfl,_⟩
 ·exact key true (fun _=>List.length_eq_zero_iff.1 h0) (run_eql (by simp) (by simp) (by unfold eqGuard;simp) (equal_of fun d=>by simp[Op.equalIn,run_und hK]) (.inl rfl))
 ·exact key false (fun e=>by cases e) (run_eql (by simp) (by simp) (by unfold eqGuard;simp) (equal_of fun d=>by simp[Op.equalIn,run_und hK]) (.inl rfl))
theorem TL.litZ {d:Nat} {e:TypeId} {ei:TI} {ks:List KO} (hk:C.kd t=some (.slc e)) (he:C.ty e=some ei) (hd:Nat.ble (d+1) nt=true)
 (rest:TL C.P nt ks K ((d,true,.z0)::env) h):TL C.P nt (⟨some d,none,.bsl t 0 []⟩::ks) K env h:=by
 refine TL.cons (gc:=true) rfl ?_ (fun e=>by simp at e)
 intro o μ a w ho hdst s hgc N hN
 obtain ⟨out,hrun,o2,o3⟩:=bsl_run (l:=[]) (S:=True) ho hk he (by simp) rfl trivial rfl s
 have hb:Below w.heap.size w { w with heap:=w.heap.push (.cells out e) }:=below_push
 have st:=Step.of_below s.sim.muok hb
 unfold Oper.wp
 rw[hrun]
 simp only[Oper.upon]
 rw[hdst]
 exact hN μ _ _ _ _ (env_put (v:= .z0) s st (s.sim.below hb) (dlt hd) ⟨_,rfl⟩) st rest
def allA (h:Hp):List AV→Prop
 |[]=>True
 |w::r=>oneA h w∧allA h r
theorem allA.mem:∀{l:List AV},allA h l→∀w∈l,oneA h w
 |_::_,hh,w,hw=>by
  rcases List.mem_cons.1 hw with rfl|hw
  ·exact hh.1
  ·exact allA.mem hh.2 w hw
theorem TK.endK {Q:Post} {c:KC} (k:∀KE:Env→Hp→Prop,(∀env h,TL P nt [] (fun env h=>Q .normal env h) env h→KE env h)→TK P nt c (thenQ KE Q) env h):TK P nt c Q env h:=by
 intro c' hc μ a w s
 refine wp_mono (k _ (fun _ _ h=>h) c' hc μ a w s) ?_
 rintro e a1 w1 ⟨μ1,env1,h1,q,s1,st1⟩
 cases e with
 |normal=>
  have q:TL P nt [] (fun env h=>Q .normal env h) env1 h1:=q
  obtain ⟨μ2,env2,h2,q2,s2,st2⟩:=q [] rfl (fun p hp=>by cases hp) μ1 a1 w1 s1
  exact ⟨μ2,env2,h2,q2,s2,st1.trans st2⟩
 |_=>exact ⟨μ1,env1,h1,q,s1,st1⟩
theorem TL.guardT {d:Option Nat} {g:Option (Nat×Bool)} {i:I} {ks:List KO} (hg:gcOf env g=some true) (hk:TL P nt (⟨d,none,i⟩::ks) K env h):TL P nt (⟨d,g,i⟩::ks) K env h:=by
 intro os hl hz μ a w hs
 cases os with
 |nil=>simp at hl
 |cons o os=>
  have hgo:=gc_ok hs hg
  have h1:=hk (o::os) (by simpa using hl) (fun p hp=>by
   simp only[List.zip_cons_cons,List.mem_cons] at hp
   rcases hp with rfl|hp
   ·exact hz (o,⟨d,g,i⟩) (by simp)
   ·exact hz p (by simp[hp])) μ a w hs
  simp only[List.zip_cons_cons,wpK] at h1 ⊢
  cases g with
  |none=>exact h1
  |some p=>
   obtain ⟨t,want⟩:=p
   simp only[GcSays] at hgo ⊢
   rw[hgo.1 (by trivial)]
   simp only[if_true]
   exact h1
theorem RetQ_end {ts:List Nat} {R:AV→Hp→Prop} (hh:RetQ ts R .ret env h):RetQ ts R .normal env h:=hh
theorem TL.keep (ts:List Nat) {ks:List KO} (k:TL P nt ks K (keepE ts env) h):TL P nt ks K env h:=TL.sub (keepE_sub ts env) k
end
end Go.AX

namespace Go.AX
open Go.AM Go.RowKit
section
variable {C:Cx} {P:Program} {nt:Nat} {env:Env} {h hS:Hp} {K:Env→Hp→Prop} {gc gx gy:Bool} {t:TypeId} {x y:X} {u:AV} {α β:Type} [Enc α] [Enc β]
end
end Go.AX

namespace Go.AX
open Go.AM Go.RowKit
inductive RS where
 |t (n:Nat)
 |c (n:Nat) (ty:TypeId)
def RS.var:RS→ResultVar
 | .t n=> .tmp n
 | .c n ty=> .cell n ty
def RS.i:RS→I
 | .t n=> .mv (.t n)
 | .c n ty=> .ld ty (.t n)
def ResL (C:Cx) (h:Hp) (env:Env):List RS→List AV→Prop
 |[],[]=>True
 |r::rs,v::vs=>PVok C h env r.i true v∧ResL C h env rs vs
 |_,_=>False
def oneV:List AV→AV
 |[v]=>v
 |vs=> .tup vs.length (ofL vs)
def RetC (C:Cx) (rs:List RS) (Q:AV→Hp→Prop):Post
 | .normal,env,h=>∃vs,ResL C h env rs vs∧Q (oneV vs) h
 | .ret,env,h=>∃vs,ResL C h env rs vs∧Q (oneV vs) h
 |_,_,_=>False
structure BodyC (C:Cx) (f:FuncId) (nt:Nat) (rs:List RS) (k:KC):Prop where
 enters:Enters C.P f
 body:∃fn c,C.P.funcs[f]? =some fn∧fn.body=some c∧cookC c=some k∧fn.ntmps=nt∧fn.results.toList=rs.map RS.var
section
variable {C:Cx} {nt:Nat} {env:Env} {h:Hp}
theorem res_one {μ:Mu} {a:Act} {w:World} (s:SimA nt μ env h a w) {f:ResultVar→Sem Value} (hf1:∀t,f (.tmp t)=Pure.pure (a.tmps.getD t undef)) (hf2:∀t ty,f (.cell t ty)=do loadVar ty (←asAddr (a.tmps.getD t undef)))
 {r:RS} {v:AV} (hv:PVok C h env r.i true v):∃c,(f r.var).run C.P w= .ok c w∧VR μ w v c:=by
 obtain ⟨h1,h2⟩:=hv rfl
 cases r with
 |t n=>
  simp only[RS.i,pv] at h1 h2
  refine ⟨a.tmps.getD n undef,by rw[RS.var,hf1];rfl,?_⟩
  have:=ev_ok (x:= .t n) (o:= .tmp n) rfl s.env h2
  rw[h1] at this
  exact this
 |c n ty=>
  simp only[RS.i,pv] at h1 h2
  have hx:=ev_ok (x:= .t n) (o:= .tmp n) rfl s.env h2.1
  obtain ⟨c,h3,h4⟩:=loadA_ok s.sim hx h2.2
  rw[h1] at h4
  refine ⟨c,?_,h4⟩
  rw[RS.var,hf2]
  have hp:∃p,a.tmps.getD n undef= .pointer (some p):=by
   have hx:VR μ w (ev env (.t n)).2 (a.tmps.getD n undef):=hx
   have h5:=h2.2
   unfold loadA at h5
   split at h5
   ·exact h5.elim
   ·split at h5
    ·rename_i heq
     rw[heq] at hx
     obtain ⟨g,o,e,_⟩:=hx
     exact ⟨_,e⟩
    ·rename_i b off st heq
     rw[heq] at hx
     split at h5
     ·rename_i r hr
      obtain ⟨_,_,_,_,_,_,_,e,_⟩:=s.sim.ref (by unfold refOK;rw[hr];exact h5.2.1) hx
      exact ⟨_,e⟩
     ·exact h5.elim
    ·exact h5.elim
  obtain ⟨p,hp⟩:=hp
  have h3:(Instr.loadAt ty (a.tmps.getD n undef)).run C.P w= .ok c w:=h3
  rw[hp] at h3 ⊢
  simpa[Instr.loadAt,Instr.sureAddr,asAddr] using h3
theorem res_list {μ:Mu} {a:Act} {w:World} (s:SimA nt μ env h a w) {f:ResultVar→Sem Value} (hf1:∀t,f (.tmp t)=Pure.pure (a.tmps.getD t undef)) (hf2:∀t ty,f (.cell t ty)=do loadVar ty (←asAddr (a.tmps.getD t undef))):
 ∀{rs:List RS} {vs:List AV},ResL C h env rs vs→∃cs:List Value,((rs.map RS.var).mapM f).run C.P w= .ok cs w∧cs.length=vs.length∧∀i,i<vs.length→VR μ w (ofL vs i) (cs.toArray.getD i undef)
 |[],[],_=>⟨[],by simp,rfl,fun i hi=>by simp at hi⟩
 |r::rs,v::vs,⟨h1,h2⟩=>by
  obtain ⟨c,h3,h4⟩:=res_one s hf1 hf2 h1
  obtain ⟨cs,h5,h6,h7⟩:=res_list s hf1 hf2 h2
  refine ⟨c::cs,?_,by simp[h6],fun i hi=>?_⟩
  ·simp only[List.map_cons,List.mapM_cons]
   rw[Sem.run_bind,h3]
   simp only[Result.andThen_ok]
   rw[Sem.run_bind,h5]
   rfl
  ·cases i with
   |zero=>exact h4
   |succ i=>
    have:=h7 i (by simpa using hi)
    simpa[ofL,Array.getD] using this
theorem res_run {μ:Mu} {a:Act} {w:World} (s:SimA nt μ env h a w) {fn:Func} {rs:List RS} {vs:List AV} (hr:fn.results.toList=rs.map RS.var) (hv:ResL C h env rs vs):∃c,(results fn a.tmps).run C.P w= .ok c w∧VR μ w (oneV vs) c:=by
 have hr':fn.results=(rs.map RS.var).toArray:=by rw[←hr]
 obtain ⟨f,hf0,hf1,hf2⟩:∃f:ResultVar→Sem Value,results fn a.tmps=(do let vs←fn.results.mapM f;Pure.pure (if h:vs.size=1 then vs[0] else .tuple vs))∧(∀t,f (.tmp t)=Pure.pure (a.tmps.getD t undef))∧(∀t ty,f (.cell t ty)=do loadVar ty (←asAddr (a.tmps.getD t undef))):=
  ⟨_,rfl,fun t=>rfl,fun t ty=>rfl⟩
 rw[hf0,hr']
 have key:∀f:ResultVar→Sem Value,(∀t,f (.tmp t)=Pure.pure (a.tmps.getD t undef))→(∀t ty,f (.cell t ty)=do loadVar ty (←asAddr (a.tmps.getD t undef)))→
  ∃cs:List Value,(((rs.map RS.var).toArray).mapM f).run C.P w= .ok cs.toArray w∧cs.length=vs.length∧∀i,i<vs.length→VR μ w (ofL vs i) (cs.toArray.getD i undef):=by
  intro f hf1 hf2
  obtain ⟨cs,h1,h2,h3⟩:=res_list s hf1 hf2 hv
  refine ⟨cs,?_,h2,h3⟩
  rw[Array.mapM_eq_mapM_toList,Sem.run_map]
  simp only[h1,Result.andThen_ok]
 obtain ⟨cs,h1,h2,h3⟩:=key f hf1 hf2
 refine ⟨if h:cs.toArray.size=1 then cs.toArray[0] else .tuple cs.toArray,?_,?_⟩
 ·rw[Sem.run_bind,h1]
  simp
 ·match vs,h2,h3 with
  |[v],h2,h3=>
   have hs:cs.toArray.size=1:=by simpa using h2
   rw[dif_pos hs]
   have:=h3 0 (by simp)
   simpa[ofL,Array.getD,hs,oneV] using this
  |[],h2,h3=>
   rw[dif_neg (by simp at h2;simp[h2])]
   exact ⟨_,rfl,by simpa using h2,fun i hi=>by simp at hi⟩
  |v1::v2::r,h2,h3=>
   rw[dif_neg (by simp at h2 ⊢;omega)]
   exact ⟨_,rfl,by simpa using h2,fun i hi=>h3 i hi⟩
theorem Fun.ofC {f:FuncId} {rs:List RS} {k:KC} (B:BodyC C f nt rs k) {args:List AV} {R:AV→Prop} (hn:args.length≤nt) (ha:∀x∈args,x.val)
 (hT:TK C.P nt k (RetC C rs fun r _=>R r∧r.val) (argsE 0 args) []):Fun C.P f args R:=by
 refine ⟨B.enters,fun μ w cargs hm hsz hargs=>?_⟩
 obtain ⟨fn,c,hf,hb,hc,hnt,hres⟩:=B.body
 let μ0:Mu:={ f:=fun _=>none,nx:=μ.nx,vir:=fun _=>False,ban:=fun g=>μ.ban g∨∃b B,μ.f b=some B∧B.g=g,adr:=fun _=>none }
 have hse:∀w' g,Sealed μ w' g→Sealed μ0 w' g:=fun w' g hs=>⟨hs.1,fun hb=>by
  rcases hb with hb|⟨b,B,e,he⟩
  ·exact hs.2.1 hb
  ·exact hs.2.2 b B e he,fun b B e=>by simp[μ0] at e⟩
 have hsim:Sim μ0 [] w:=⟨fun b r e=>by simp[Hp.get] at e,fun _ _ _ _ e=>by simp[μ0] at e,fun _ _ e=>by simp[μ0] at e,fun _ e=>e.elim,fun _ _ e=>by simp[μ0] at e,fun g hg=>by
  rcases hg with hg|⟨b,B,e,rfl⟩
  ·exact hm.2 g hg
  ·exact hm.1 b B e,fun _ _ e=>by cases e⟩
 have hA:SimA nt μ0 (argsE 0 args) [] { tmps:=cargs++Array.replicate (fn.ntmps-cargs.size) undef,defers:=[] } w:=by
  refine ⟨hsim,fun t g v e=>?_,by simp;omega,rfl⟩
  obtain ⟨rfl,_,h2,rfl⟩:=argsE_at args 0 t g v e
  refine ⟨fun _=>?_,fun hh=>by simp at hh⟩
  have ht:t<args.length:=by omega
  have h3:(cargs++Array.replicate (fn.ntmps-cargs.size) undef).getD t undef=cargs.getD t undef:=by
   simp[Array.getD_eq_getD_getElem?,Array.getElem?_append,hsz,ht]
  simp only[Nat.sub_zero]
  rw[h3]
  exact VR.conv (hse w) _ _ (ha _ (by simp only[ofL];rw[List.getD_eq_getElem?_getD,List.getElem?_eq_getElem ht];exact List.getElem_mem ht)) (hargs t ht)
 have:=hT c hc μ0 _ w hA
 refine calls_of_wp hf hb (wp_mono this ?_)
 rintro e a' w' ⟨μ',env',h',q,s',st⟩
 have fin:(∃vs,ResL C h' env' rs vs∧R (oneV vs)∧(oneV vs).val)→a'.defers=[]∧∃v,(results fn a'.tmps).run C.P w'= .ok v w'∧∃c r,Ending.returned v= .returned c∧R r∧r.val∧VR μ w' r c∧Below w.heap.size w w':=by
  rintro ⟨vs,h1,h2,hv⟩
  obtain ⟨c,hc1,hc2⟩:=res_run s' hres h1
  refine ⟨s'.defers,c,hc1,c,_,rfl,h2,hv,?_,?_⟩
  ·refine VR.conv (fun g hg=>?_) _ _ hv hc2
   refine ⟨hg.1,fun hb=>hg.2.1 ((st.ban g).2 (.inl hb)),fun b B e he=>hg.2.1 ((st.ban g).2 (.inr ⟨b,B,e,he⟩))⟩
  ·exact ⟨st.os,st.tape,st.output,st.size,fun g hg=>st.keep g hg (by
    by_cases hb:μ0.ban g
    ·exact .inl hb
    ·exact .inr ⟨hg,hb,fun b B e=>by simp[μ0] at e⟩)⟩
 cases e with
 |normal=>exact fin q
 |ret=>exact fin q
 |_=>exact q.elim
theorem retC {rs:List RS} {R:AV→Prop} (vs:List AV) (hv:ResL C h env rs vs) (hR:R (oneV vs)) (hval:(oneV vs).val):RetC C rs (fun r _=>R r∧r.val) .ret env h:=⟨vs,hv,hR,hval⟩
theorem Fun.wk {P:Program} {f:FuncId} {args args':List AV} {R:AV→Prop} (hw:WkL args args') (hf:Fun P f args' R):Fun P f args R:=by
 refine ⟨hf.enters,fun μ w cargs hm hsz hargs=>?_⟩
 have hl:=hw.len
 refine hf.calls μ w cargs hm (by omega) fun i hi=>?_
 exact WkL.at hw i μ w _ (hargs i (by omega))
end
end Go.AX

namespace Go.AX
open Go.AM Go.RowKit
section
variable {P:Program} {nt:Nat} {env:Env} {h:Hp} {K:Env→Hp→Prop} {α:Type} [Enc α]
theorem TL.ownH {ks:List KO} (b j:Nat) (ty:TypeId) (sz:Nat) (cells:Nat→AV) {r:Row} (hb:h.get b=some r) (hj:r.cells j= .nils∨r.cells j= .z0) (cells':Nat→Nat→AV)
 (hc':∀b',cells' b' j= .rs b' 0 0 0 sz∧∀i,i≠j→i<r.m→cells' b' i=r.cells i)
 (k:∀b',h.get b'=none→TL P nt ks K env ((b',⟨ty,0,cells⟩)::h.upd b { r with cells:=cells' b' })):TL P nt ks K env h:=by
 intro os ho hz μ a w s
 obtain ⟨μ',s',st,hn,hnx,hf⟩:=s.sim.own ⟨ty,0,cells⟩ rfl
 have hne:μ.nx≠b:=by rintro rfl;rw[hb] at hn;cases hn
 have s2:Sim μ' ((μ.nx,⟨ty,0,cells⟩)::h.upd b { r with cells:=cells' μ.nx }) w:=by
  refine ⟨fun x q e=>?_,s'.inj,s'.lt,s'.vlt,s'.noban,s'.banlt,fun k a e=>⟨by
   have h1:=(s'.hadr k a e).1
   simp only[Hp.get] at h1 ⊢
   by_cases hx:μ.nx=k
   ·rw[if_pos hx] at h1;cases h1
   ·rw[if_neg hx] at h1 ⊢
    rw[Hp.get_upd]
    by_cases hk:k=b
    ·subst hk;rw[hb] at h1;cases h1
    ·rw[if_neg hk];exact h1,(s'.hadr k a e).2⟩⟩
  simp only[Hp.get] at e
  by_cases hx:μ.nx=x
  ·rw[if_pos hx] at e
   exact s'.row x q (by simp only[Hp.get];rw[if_pos hx];exact e)
  ·rw[if_neg hx,Hp.get_upd] at e
   by_cases hxb:x=b
   ·subst hxb
    rw[if_pos rfl,hb] at e
    simp only[Option.map_some,Option.some.injEq] at e
    subst e
    rcases s'.row x r (by simp only[Hp.get];rw[if_neg hx];exact hb) with h1|⟨B,cs,hnv,h1,h2,h3,h4,h5,h6⟩
    ·exact .inl h1
    ·refine .inr ⟨B,cs,hnv,h1,h2,h3,h4,h5,fun i hi=>?_⟩
     obtain ⟨u,hu,hv⟩:=h6 i hi
     refine ⟨u,hu,?_⟩
     by_cases hij:i=j
     ·subst hij
      have hx:∃x,u= .slice x 0 0:=by
       rcases hj with hj|hj<;>rw[hj] at hv
       ·exact ⟨none,hv⟩
       ·exact hv
      simp only[(hc' μ.nx).1]
      exact ⟨by omega,by simp,fun _=>⟨rfl,rfl,hx⟩,fun B e=>by rw[hf] at e;cases e⟩
     ·simp only[(hc' μ.nx).2 i hij hi]
      exact hv
   ·rw[if_neg hxb] at e
    exact s'.row x q (by simp only[Hp.get];rw[if_neg hx];exact e)
 have:=k μ.nx hn os ho hz μ' a w ⟨s2,s.env.mono st,s.size,s.defers⟩
 refine TL.cons.wpK_mono ?_ _ _ _ this
 rintro a' w' ⟨μ2,env2,h2,q,s3,st3⟩
 exact ⟨μ2,env2,h2,q,s3,st.trans st3⟩
theorem TL.cut {ks:List KO} (t:Nat) {b len sz st:Nat} {r:Row} (hl:lk env t=some (true,.rs b 0 len st sz)) (hb:h.get b=some r) (hst:st=r.m) (hm:len*sz≤r.m) (cells:Nat→AV) (hcl:∀i,i<len*sz→cells i=r.cells i)
 (k:∀b',h.get b'=none→TL P nt ks K (cvE t (.rs b' 0 len (len*sz) sz) env) ((b',⟨r.ty,len*sz,cells⟩)::h.del b)):TL P nt ks K env h:=by
 intro os ho hz μ a w s
 obtain ⟨μ',s',st',hnx,hgn,hor,hVR⟩:=s.sim.cut hb hm cells hcl
 have hvv:=(s.env t true _ hl).1 rfl
 have:=k μ.nx hgn os ho hz μ' a w ⟨s',fun t' g v' e=>?_,s.size,s.defers⟩
 ·refine TL.cons.wpK_mono ?_ _ _ _ this
  rintro a' w' ⟨μ2,env2,h2,q,s2,st2⟩
  exact ⟨μ2,env2,h2,q,s2,st'.trans st2⟩
 ·rcases cvE_lk hl e with ⟨rfl,rfl,rfl⟩|⟨_,h2⟩
  ·refine ⟨fun _=>?_,fun hh=>by cases hh⟩
   rcases s.sim.rs (by unfold refOK;rw[hb];exact hst) hvv with ⟨_,x,_,_,_,hl0,_,hvir,hno,hx⟩|⟨r',B,cs,cap,hr',_,hB,hL,hex,hcap,hlen,_⟩
   ·rcases hor with ⟨_,hv',hf',_⟩|⟨B,hB,hnv,_⟩
    ·subst hl0
     exact ⟨by omega,by simp,fun _=>⟨by simp,rfl,x,hx⟩,fun B e=>by rw[hf'] at e;cases e⟩
    ·exact (hnv hvir).elim
   ·rcases hor with ⟨hv,_⟩|⟨B',hB',hnv,hL',hnv',hf'⟩
    ·exact (hvv.2.2.1 hv|>fun _=>by
      rcases s.sim.row b r hb with ⟨_,hn,_⟩|⟨_,_,hnv,_⟩
      ·rw[hn] at hB;cases hB
      ·exact (hnv hv).elim)
    ·rw[hB] at hB'
     injection hB' with hB'
     subst hB'
     refine ⟨by omega,by omega,fun hh=>(hnv' hh).elim,fun D e=>?_⟩
     rw[hf'] at e
     injection e with e
     subst e
     exact ⟨Nat.le_refl _,fun _=>⟨cap,hex,hcap⟩⟩
  ·exact (s.env.mono st') t' g v' h2
theorem TL.ownC {ks:List KO} (nd:Nd h) {j b:Nat} {ty:TypeId} {l:List AV} (hj:h[j]? =some (b,RV ty l)) (o:Nat) (e:TypeId) (ho:l[o]? =some .nils∨l[o]? =some .z0)
 (k:∀b',Nd ((b',RL e ([]:List α))::h.set j (b,RV ty (l.set o (OL b' ([]:List α)))))→TL P nt ks K env ((b',RL e ([]:List α))::h.set j (b,RV ty (l.set o (OL b' ([]:List α)))))):TL P nt ks K env h:=by
 have hr:=nd.get hj
 have hlt:o<l.length:=by rcases ho with ho|ho<;>exact (List.getElem?_eq_some_iff.1 ho).1
 refine TL.ownH b o e (Enc.sz α) (rowL (Enc.sz α) ec ([]:List α)) hr ?_ (fun b'=>ofL (l.set o (.rs b' 0 0 0 (Enc.sz α)))) (fun b'=>⟨?_,fun i hi hm=>?_⟩) fun b' hb'=>?_
 ·rcases ho with ho|ho
  ·left;simp[RV,ofL,List.getD_eq_getElem?_getD,ho]
  ·right;simp[RV,ofL,List.getD_eq_getElem?_getD,ho]
 ·simp only[ofL,List.getD_eq_getElem?_getD]
  rw[List.getElem?_set_self hlt];rfl
 ·simp only[RV,ofL,List.getD_eq_getElem?_getD]
  rw[List.getElem?_set_ne (fun e=>hi e.symm)]
 ·obtain ⟨hu,nd'⟩:=nd.upd (r':=RV ty (l.set o (OL b' ([]:List α)))) hj
  have hb2:Hp.get (h.set j (b,RV ty (l.set o (OL b' ([]:List α))))) b'=none:=by
   rw[←hu,Hp.get_upd]
   by_cases hx:b'=b
   ·subst hx;rw[hr] at hb';cases hb'
   ·rw[if_neg hx];exact hb'
  have:=k b' (nd'.cons _ hb2)
  rw[←hu] at this
  have e1:({ RV ty l with cells:=ofL (l.set o (.rs b' 0 0 0 (Enc.sz α))) }:Row)=RV ty (l.set o (OL b' ([]:List α))):=by
   simp[RV,OL]
  rw[e1]
  have e2:(⟨e,0,rowL (Enc.sz α) ec ([]:List α)⟩:Row)=RL e ([]:List α):=by simp[RL]
  rw[e2]
  exact this
theorem TL.cutX {ks:List KO} (t:Nat) (nd:Nd h) {j b:Nat} {e:TypeId} {xs:List α} {k:Int} (hj:h[j]? =some (b,RL e xs)) (hl:lk env t=some (true,OS b xs 0 k)) (hb:0≤k∧k≤xs.length)
 (KK:∀b',Nd ((b',RL e (slc xs 0 k))::h.eraseIdx j)→TL P nt ks K (cvE t (OL b' (slc xs 0 k)) env) ((b',RL e (slc xs 0 k))::h.eraseIdx j)):TL P nt ks K env h:=by
 have hr:=nd.get hj
 have hlen:(slc xs 0 k).length=k.toNat:=by simp[slc];omega
 have hfit:k.toNat*Enc.sz α≤xs.length*Enc.sz α:=Nat.mul_le_mul_right _ (by omega)
 refine TL.cut (len:=k.toNat) (sz:=Enc.sz α) (st:=xs.length*Enc.sz α) t (by rw[hl];simp[OS]) hr rfl hfit (rowL (Enc.sz α) ec (slc xs 0 k)) (fun i hi=>?_) fun b' hb'=>?_
 ·show _=rowL (Enc.sz α) ec xs i
  rw[rowL_split Enc.pos,rowL_split Enc.pos]
  have hq:i/Enc.sz α<k.toNat:=Nat.div_lt_of_lt_mul (by rw[Nat.mul_comm];exact hi)
  have:(slc xs 0 k)[i/Enc.sz α]? =xs[i/Enc.sz α]? :=by
   simp only[slc,Int.toNat_zero,List.drop_zero,Int.sub_zero]
   rw[List.getElem?_take,if_pos hq]
  rw[this]
 ·have hsub:∀x q,Hp.get ((b',RL e (slc xs 0 k))::h.eraseIdx j) x=some q→Hp.get ((b',(⟨(RL e xs).ty,k.toNat*Enc.sz α,rowL (Enc.sz α) ec (slc xs 0 k)⟩:Row))::h.del b) x=some q:=by
   intro x q e'
   simp only[Hp.get] at e' ⊢
   by_cases hx:b'=x
   ·rw[if_pos hx] at e' ⊢
    rw[←e']
    simp only[RL,hlen]
   ·rw[if_neg hx] at e' ⊢
    obtain ⟨h1,h2⟩:=get_erase nd hj e'
    rw[Hp.get_del,if_neg h1];exact h2
  have hb2:Hp.get (h.eraseIdx j) b'=none:=by
   cases hq:Hp.get (h.eraseIdx j) b' with
   |none=>rfl
   |some q=>have:=(get_erase nd hj hq).2;rw[hb'] at this;cases this
  have:=KK b' ((nd.erase j).cons _ hb2)
  have e1:OL b' (slc xs 0 k)= .rs b' 0 k.toNat (k.toNat*Enc.sz α) (Enc.sz α):=by unfold OL;rw[hlen]
  rw[e1] at this
  exact TL.subH hsub this
end
end Go.AX

namespace Go.AX
open Go.AM Go.RowKit
section
variable {C:Cx} {P:Program} {nt:Nat} {env:Env} {h hS:Hp} {K:Env→Hp→Prop} {gc gx gy:Bool} {t:TypeId} {x y:X} {u:AV} {α β:Type} [Enc α] [Enc β]
theorem TL.ofV {d:Nat} {g:Option (Nat×Bool)} {i:I} {v:AV} {ks:List KO} (hv:gc=true→VOK P nt h env i v) (hg:gcOf env g=some gc) (hd:Nat.ble (d+1) nt=true)
 (rest:TL P nt ks K ((d,gc,v)::env) h):TL P nt (⟨some d,g,i⟩::ks) K env h:=by
 have hd':∀x,some d=some x→x<nt:=dlt hd
 refine TL.cons (gc:=gc) hg ?_ (fun e=>⟨hd',by subst e;exact TL.under rest⟩)
 intro o μ a w ho hdst s hgc N hN
 refine hv hgc o μ a w ho s N fun c w' h1 hb=>?_
 have st:=Step.of_below s.sim.muok hb
 have s':SimA nt μ env h a w':=⟨s.sim.below hb,s.env.mono st,s.size,s.defers⟩
 rw[hdst]
 subst hgc
 exact hN μ _ h _ w' (s'.put hd' (fun _=>h1) (fun e=>by simp at e)) st rest
theorem cvt_op {o:Oper} {s t:TypeId} {x:X} (ho:cookOp o.op=some (.cvt s t x)):∃ox,o.op= .convert s t ox∧cookX ox=some x:=by
 unfold cookOp at ho
 split at ho<;>(try (simp at ho;done))<;>(try (split at ho<;>simp at ho<;>done))
 rename_i s' t' x' e
 obtain ⟨y,hy,e2⟩:=Option.map_eq_some_iff.1 ho
 simp only[I.cvt.injEq] at e2
 obtain ⟨rfl,rfl,rfl⟩:=e2
 exact ⟨_,e,hy⟩
end
end Go.AX

namespace Go.AX
open Go.AM Go.RowKit
section
variable {C:Cx} {P:Program} {nt:Nat} {env:Env} {h hS:Hp} {K:Env→Hp→Prop} {gc gx gy:Bool} {t:TypeId} {x y:X} {u:AV} {α β:Type} [Enc α] [Enc β]
theorem zeroV_ok {μ:Mu} {w:World} {e:TypeId} {ei:TI} {n:Nat} (he:C.ty e=some ei):∀j,j<n*ei.sz→VR μ w (rep ei n j) ((Builtin.zeroCells ei.zv.cells n).getD j undef):=by
 intro j hj
 have hz:=(C.ok e ei he).2.2
 have hpos:0<ei.sz:=by
  rcases Nat.eq_zero_or_pos ei.sz with h0|h0
  ·rw[h0] at hj;simp at hj
  ·exact h0
 have hlt2:j%ei.sz<ei.sz:=Nat.mod_lt _ hpos
 have:(Builtin.zeroCells ei.zv.cells n).getD j undef=ei.zv.cells.getD (j%ei.sz) undef:=by simp[Builtin.zeroCells,Array.getD,hz,hj,hlt2]
 rw[this,rep_at hj]
 exact cAV_ok μ w _
theorem fit48 {a n by':Nat} (h1:n≤a) (h2:a*by'≤140737488355328):n*by'≤281474976710656:=by
 have:=Nat.mul_le_mul_right by' h1
 omega
theorem run_app_newZ {t t' ty e:TypeId} {k:IntKind} {i:TypeInfo} {z:Value} (ht:C.P.underlying t=some (.slice e)) (ht':C.P.underlying t'=some (.int k)) (hi:C.P.info? e=some i) (hz:i.zero=some z) (hzs:z.cells.size=i.size)
 {w:World} {s:Value} {sl sc n:Nat} {ad:Option Addr} {old:Array Value} (hs:s= .slice ad sl sc) (hold:(Builtin.firstCells i.size sl s).run C.P w.drew= .ok old w.drew)
 (hg:sc<sl+n) (h63:((sl+n:Nat):Int)≤9223372036854775807) (hb:n*i.bytes≤281474976710656) (hfit:Builtin.nextslicecap (sl+n) sc*i.bytes≤281474976710656):
 (Builtin.append_ #[t,t'] ty #[s,.int k (n:Int)]).run C.P w= .ok (.slice (some ⟨w.heap.size,0,none⟩) (sl+n) (grownCap w (sl+n) sc e))
   (w.drew.alloc (.cells (old++Builtin.zeroCells z.cells n++Builtin.zeroCells z.cells (grownCap w (sl+n) sc e-(sl+n))) e)):=by
 have hn:¬(sl+n≤sc):=by omega
 have h63':¬(9223372036854775807<((sl:Int)+(n:Int))):=by omega
 have h48':¬(281474976710656<Builtin.nextslicecap (sl+n) sc*i.bytes):=by omega
 have hw:IntKind.i64.wrap (n:Int)=n:=by rw[w64 (by omega) (by omega)]
 have hb':¬((281474976710656:Int)<(n:Int)*(i.bytes:Int)):=by
  have:((n*i.bytes:Nat):Int)≤281474976710656:=by omega
  rw[Int.natCast_mul] at this;omega
 have hneg:¬((n:Int)<0):=by omega
 subst hs
 by_cases h0:n*i.size=0
 ·have e0:Builtin.zeroCells z.cells n= #[]:=Array.eq_empty_of_size_eq_zero (by rw[size_zeroCells,hzs];exact h0)
  simp[Builtin.append_,run_und ht,run_und ht',sizeOf,typeInfo,zeroValue,asIntOf,hi,hz,hn,h63',h48',hw,hb',hneg,Question.forced,hold,newRow,grownCap,e0,asInt]
 ·simp[Builtin.append_,run_und ht,run_und ht',sizeOf,typeInfo,zeroValue,asIntOf,hi,hz,hn,h63',h48',hw,hb',hneg,h0,Question.forced,hold,newRow,grownCap,asInt]
theorem run_app_roomZ {t t' ty e:TypeId} {k:IntKind} {i:TypeInfo} {z:Value} (ht:C.P.underlying t=some (.slice e)) (ht':C.P.underlying t'=some (.int k)) (hi:C.P.info? e=some i) (hz:i.zero=some z) (hzs:z.cells.size=i.size)
 {w:World} {sl sc n g:Nat} {cur:Array Value} (hcur:w.heap[g]? =some (.cells cur e (0,0))) (h1:∀v∈(Builtin.zeroCells z.cells n).toList,v.oneCell'=true)
 (hroom:sl+n≤sc) (hfit:sl*i.size+(Builtin.zeroCells z.cells n).size≤cur.size) (h63:(n:Int)≤9223372036854775807) (hb:n*i.bytes≤281474976710656):
 (Builtin.append_ #[t,t'] ty #[.slice (some ⟨g,0,none⟩) sl sc,.int k (n:Int)]).run C.P w= .ok (.slice (some ⟨g,0,none⟩) (sl+n) sc)
   (w.setRow g (cur.toList.take (sl*i.size)++(Builtin.zeroCells z.cells n).toList++cur.toList.drop (sl*i.size+(Builtin.zeroCells z.cells n).toList.length)).toArray):=by
 have hw:IntKind.i64.wrap (n:Int)=n:=by rw[w64 (by omega) (by omega)]
 have hb':¬((281474976710656:Int)<(n:Int)*(i.bytes:Int)):=by
  have:((n*i.bytes:Nat):Int)≤281474976710656:=by omega
  rw[Int.natCast_mul] at this;omega
 have hneg:¬((n:Int)<0):=by omega
 have hst:=run_storeCells_at C.P g (sl*i.size) e (Builtin.zeroCells z.cells n).toList 0 cur w hcur (by simpa using hfit) h1
 simp only[Nat.add_zero] at hst
 by_cases h0:n*i.size=0
 ·have e0:Builtin.zeroCells z.cells n= #[]:=Array.eq_empty_of_size_eq_zero (by rw[size_zeroCells,hzs];exact h0)
  rw[e0] at hst
  simp[Builtin.append_,run_und ht,run_und ht',sizeOf,typeInfo,zeroValue,asIntOf,hi,hz,hw,hb',hneg,asInt,hroom,add_at,e0] at hst ⊢
  rw[hst]
  rfl
 ·simp[Builtin.append_,run_und ht,run_und ht',sizeOf,typeInfo,zeroValue,asIntOf,hi,hz,hw,hb',hneg,h0,asInt,hroom,add_at]
  rw[hst]
  simp
theorem run_app_noneZ {t t' ty e:TypeId} {k:IntKind} {i:TypeInfo} {z:Value} {w:World} (ht:C.P.underlying t=some (.slice e)) (ht':C.P.underlying t'=some (.int k)) (hi:C.P.info? e=some i) (_:i.zero=some z) (ad:Option Addr):
 (Builtin.append_ #[t,t'] ty #[.slice ad 0 0,.int k ((0:Nat):Int)]).run C.P w= .ok (.slice ad 0 0) w:=by
 have hw:IntKind.i64.wrap (0:Int)=0:=by decide
 cases ad<;>simp[Builtin.append_,run_und ht,run_und ht',sizeOf,typeInfo,hi,asInt,asIntOf,hw,storeCells]
theorem app_wpZ {P':Program} (hPC:P'=C.P) {ks:List KO} {o:Oper} {d:Option Nat} {μ:Mu} {a:Act} {w:World} {t t' e:TypeId} {ei:TI} {k:IntKind} {ox oy:Operand} {b len n:Nat} {r:Row}
 (s:SimA nt μ env h a w) (hop:o.op= .call { callee:= .builtin .append,args:= #[ox,oy],argTypes:= #[t,t'] }) (hdst:o.dst=d)
 (hd:∀x,d=some x→x<nt) (ht:C.kd t=some (.slc e)) (ht':C.kd t'=some (.int k)) (he:C.ty e=some ei) (vx:VR μ w (.rs b 0 len r.m ei.sz) (a.eval ox)) (hr:h.get b=some r) (hty:r.ty=e)
 (htip:len*ei.sz=r.m) (vy:a.eval oy= .int k (n:Int)) (hsz:0<ei.sz) (hby:0<ei.by') (hlim:(len+n)*ei.by'≤140737488355328)
 (h1:∀j,j<n*ei.sz→oneA h (rep ei n j)) (N:Act→World→Prop)
 (hN:∀μ' env' h' a' w',SimA nt μ' env' h' a' w'→Step μ w μ' w'→TL C.P nt ks K env' h'→N a' w')
 (rest:TL C.P nt ks K (putE d true (.rs b 0 (len+n) (r.m+n*ei.sz) ei.sz) env) (h.upd b ⟨e,r.m+n*ei.sz,appC r.cells r.m (rep ei n) (n*ei.sz)⟩)):o.wp P' a w N (fun _ _ _=>False):=by
 subst hPC
 have hns:(Builtin.zeroCells ei.zv.cells n).size=n*ei.sz:=by rw[size_zeroCells,(C.ok e ei he).2.2]
 have hnv:=zeroV_ok (μ:=μ) (w:=w) (n:=n) he
 generalize hnewd:Builtin.zeroCells ei.zv.cells n=new at hns hnv
 obtain ⟨_,_,_,hK⟩:=kd_ok ht
 obtain ⟨_,_,_,hK'⟩:=kd_ok ht'
 have vy':Value.int k (n:Int)=a.eval oy:=vy.symm
 obtain ⟨j,hj,hjs,hjb,hjz⟩:=C.info he
 have hz:=(C.ok e ei he).2.2
 have hone:∀v∈new.toList,v.oneCell'=true:=by
  intro v hv
  obtain ⟨q,hq,rfl⟩:=List.getElem_of_mem hv
  simp only[Array.length_toList] at hq
  have:=oneA_ok s.sim (hnv q (by omega)) (h1 q (by omega))
  simpa[Array.getD,hq] using this
 have hbl:len+n≤140737488355328:=Nat.le_trans (Nat.le_mul_of_pos_right _ hby) hlim
 have hexec:∀r,(Builtin.append_ #[t,t'] o.type #[a.eval ox,a.eval oy]).run C.P w=r→(execOp a.eval o).run C.P w=r.andThen fun v w'=> .ok (.value v) w':=by
  intro r hr
  simp[execOp,hop,resolve,invoke,builtin,hr]
 rcases s.sim.rs (by unfold refOK;rw[hr]) vx with ⟨r',ad,_,_,hm0,rfl,_,hvir,hno,hex⟩|⟨r',B,cs,cap,hr',_,hB,hL,hex,hcap,hlen,hh,hE,hmE,hcells⟩
 · -- no block yet
   by_cases hn0:n=0
   ·subst hn0
    have hrun:=run_app_noneZ (C:=C) (w:=w) (ty:=o.type) (k:=k) hK hK' hj hjz ad
    obtain ⟨s',st⟩:=s.sim.revir hr (r':=⟨e,r.m+0*ei.sz,appC r.cells r.m (rep ei 0) (0*ei.sz)⟩) hvir (by simp[hm0])
    rw[vy'] at hrun
    unfold Oper.wp
    rw[←hex] at hrun
    rw[hexec _ hrun]
    simp only[Result.andThen_ok,Oper.upon]
    rw[hdst]
    refine hN μ _ _ _ _ (env_put s st s' hd ?_) st rest
    rw[hex]
    exact ⟨vx.1,by simp,fun _=>⟨by simp[hm0],rfl,ad,rfl⟩,fun B e=>by rw[hno] at e;cases e⟩
   have hrun:=run_app_newZ (C:=C) (w:=w) (ty:=o.type) (k:=k) (n:=n) hK hK' hj hjz (by rw[hjs];exact hz) (s:= .slice ad 0 0) (ad:=ad) (old:= #[]) rfl (by cases ad<;>simp[Builtin.firstCells,loadCells,loadCellsFrom]) (by omega) (by omega) (by rw[hjb];exact fit48 (Nat.le_add_left _ _) hlim)
    (by rw[hjb];exact growslice_fits (by omega) hlim)
   rw[hnewd,vy'] at hrun
   simp only[Nat.zero_add] at hrun
   let gc:=grownCap w n 0 e
   let out:Array Value:= #[]++new++Builtin.zeroCells ei.zv.cells (gc-n)
   have hsz2:out.size=gc*ei.sz:=grown_size (by simp[hns]) hz
   have hge:n≤gc:=grownCap_ge w n 0 e
   have hget:∀q,q<n*ei.sz→out[q]? =new[q]? :=by
    intro q hq
    simp only[out,Array.empty_append]
    rw[Array.getElem?_append,if_pos (by omega)]
   have hLE:n*ei.sz≤gc*ei.sz:=Nat.mul_le_mul_right _ hge
   have hpos:0<n*ei.sz:=Nat.mul_pos (by omega) hsz
   obtain ⟨μ',s',st,hnx,hnv,hf⟩:=s.sim.turnv (w':=w.drew.alloc (.cells out e)) (r':=⟨e,r.m+n*ei.sz,appC r.cells r.m (rep ei n) (n*ei.sz)⟩) (cs:=out) hr hvir (by simp only;omega) rfl rfl rfl rfl (by rw[hsz2,hm0];simpa using hLE)
    (fun q hq=>by
      have hq':q<n*ei.sz:=by simp only at hq;omega
      rw[hget q hq']
      have hlt:q<new.size:=by omega
      refine ⟨new[q],by simp[hlt],?_⟩
      have:=hnv q hq'
      simp only[appC,hm0]
      rw[if_neg (by omega),if_pos (by omega),Nat.sub_zero]
      simpa[Array.getD,hlt] using this)
   unfold Oper.wp
   rw[←hex] at hrun
   rw[hexec _ hrun]
   simp only[Result.andThen_ok,Oper.upon]
   rw[hdst]
   refine hN μ' _ _ _ _ (env_put s st s' hd ?_) st rest
   refine ⟨by rw[hnx];exact vx.1,by simp,fun hh=>(hnv hh).elim,fun B' e'=>?_⟩
   rw[hf] at e'
   injection e' with e'
   subst e'
   refine ⟨Nat.le_refl _,fun _=>⟨gc,?_,by simp[hsz2]⟩⟩
   simp only[Nat.zero_add]
   rfl
 rw[hr] at hr'
 injection hr' with hr'
 subst hr'
 rw[hty] at hh
 by_cases hroom:len+n≤cap
 · -- in place
   have hfit:len*j.size+new.size≤cs.size:=by
    rw[hjs,hns,hE,←hcap,Nat.zero_add,←Nat.add_mul]
    exact Nat.mul_le_mul_right _ hroom
   have hrun:=run_app_roomZ (C:=C) (ty:=o.type) (k:=k) (n:=n) hK hK' hj hjz (by rw[hjs];exact hz) (sc:=cap) hh (by rw[hnewd];exact hone) hroom (by rw[hnewd];exact hfit) (by omega) (by rw[hjb];exact fit48 (Nat.le_add_left _ _) hlim)
   rw[hnewd,vy'] at hrun
   rw[hjs] at hrun hfit
   let cs':Array Value:=(cs.toList.take (len*ei.sz)++new.toList++cs.toList.drop (len*ei.sz+new.toList.length)).toArray
   have hget:∀q,cs'[q]? =if r.m≤q∧q<r.m+n*ei.sz then new[q-r.m]? else cs[q]? :=by
    intro q
    have:=seg_get cs.toList new.toList (len*ei.sz) q (by simpa using hfit)
    simpa[cs',hns,htip] using this
   have hsize:cs'.size=cs.size:=by simp[cs'];omega
   have hLE:r.m+n*ei.sz≤B.E:=by rw[←hE,←htip,←hns];exact hfit
   obtain ⟨μ',s',st,hnx,hnv',hf⟩:=s.sim.turn (w':=w.setRow B.g cs') (r':=⟨e,r.m+n*ei.sz,appC r.cells r.m (rep ei n) (n*ei.sz)⟩) (B':=⟨B.g,r.m+n*ei.sz,B.E⟩) (cs:=cs') hr hB (.inl rfl) (by simp;exact (s.sim.lt b B hB).2)
    (by rw[hL];exact Nat.le_add_right _ _) (fun h=>by cases B;simp only at h ⊢;rw[h]) rfl (setRow_heap w B.g cs cs' e (0,0) hh) (by rw[hsize,hE]) hLE (fun q hq=>by
      simp only[appC]
      rw[hget q]
      by_cases hq1:q<r.m
      ·rw[if_pos hq1,if_neg (by omega)]
       exact hcells q hq1
      ·simp only at hq
       rw[if_neg hq1,if_pos (by omega),if_pos (by omega)]
       have hlt:q-r.m<new.size:=by omega
       refine ⟨new[q-r.m],by simp[hlt],?_⟩
       have:=hnv (q-r.m) (by omega)
       simpa[Array.getD,hlt] using this) (fun k' _ hk'=>setRow_other w B.g k' cs' hk') (by simp) rfl rfl rfl
   unfold Oper.wp
   rw[←hex] at hrun
   rw[hexec _ hrun]
   simp only[Result.andThen_ok,Oper.upon]
   rw[hdst]
   refine hN μ' _ _ _ _ (env_put s st s' hd ?_) st rest
   refine ⟨by rw[hnx];exact vx.1,by rw[Nat.zero_add,Nat.add_mul,htip];exact Nat.le_refl _,fun hh=>(hnv' hh).elim,fun B' e'=>?_⟩
   rw[hf] at e'
   injection e' with e'
   subst e'
   exact ⟨Nat.le_refl _,fun _=>⟨cap,rfl,hcap⟩⟩
 · -- a new block
   have hold:∃old:Array Value,(Builtin.firstCells j.size len (.slice (some ⟨B.g,0,none⟩) len cap)).run C.P w.drew= .ok old w.drew∧old.size=r.m∧∀q,q<r.m→VR μ w (r.cells q) (old.getD q undef):=by
    have hexs:∀q,∃u,q<r.m→cs[q]? =some u∧VR μ w (r.cells q) u:=by
     intro q
     by_cases hq:q<r.m
     ·obtain ⟨u,hu⟩:=hcells q hq;exact ⟨u,fun _=>hu⟩
     ·exact ⟨undef,fun hh=>absurd hh hq⟩
    obtain ⟨f,hf⟩:=Classical.axiomOfChoice hexs
    refine ⟨((List.range r.m).map f).toArray,?_,by simp,fun q hq=>by simpa[hq] using (hf q hq).2⟩
    simp only[Builtin.firstCells]
    rw[hjs,htip]
    refine run_loadCells w.drew _ _ f (fun q hq=>?_)
    rw[cell_at]
    have hcs:=(hf q hq).1
    rw[World.cell?_drew]
    simp[World.cell?,hh,hcs]
   obtain ⟨old,ho1,ho2,ho3⟩:=hold
   have hrun:=run_app_newZ (C:=C) (w:=w) (ty:=o.type) (k:=k) (n:=n) hK hK' hj hjz (by rw[hjs];exact hz) (s:= .slice (some ⟨B.g,0,none⟩) len cap) rfl ho1 (by omega) (by omega) (by rw[hjb];exact fit48 (Nat.le_add_left _ _) hlim) (by rw[hjb];exact growslice_fits (by omega) hlim)
   rw[hnewd,vy'] at hrun
   let gc:=grownCap w (len+n) cap e
   let out:Array Value:=old++new++Builtin.zeroCells ei.zv.cells (gc-(len+n))
   have hsz2:out.size=gc*ei.sz:=grown_size (by rw[ho2,hns,←htip,Nat.add_mul]) hz
   have hge:len+n≤gc:=grownCap_ge w (len+n) cap e
   have hget:∀q,q<r.m+n*ei.sz→out[q]? =if q<r.m then old[q]? else new[q-r.m]? :=by
    intro q hq
    simp only[out,Array.append_assoc]
    rw[Array.getElem?_append]
    by_cases h2:q<r.m
    ·rw[if_pos (by omega),if_pos h2]
    ·rw[if_neg (by omega),if_neg h2,Array.getElem?_append,if_pos (by omega),ho2]
   have hnewb:(w.drew.alloc (.cells out e)).heap[w.heap.size]? =some (.cells out e (0,0)):=heap_alloc_new w.drew _
   have hoth:∀k',k'<w.heap.size→(w.drew.alloc (.cells out e)).heap[k']? =w.heap[k']? :=fun k' hk'=>heap_alloc_old w.drew _ k' hk'
   have hLE:r.m+n*ei.sz≤gc*ei.sz:=by
    rw[←htip,←Nat.add_mul]
    exact Nat.mul_le_mul_right _ hge
   have hn0:0<n*ei.sz:=by
    rcases Nat.eq_zero_or_pos n with h0|h0
    ·exfalso
     subst h0
     have:len*ei.sz≤cap*ei.sz:=by omega
     have:=Nat.le_of_mul_le_mul_right this hsz
     omega
    ·exact Nat.mul_pos h0 hsz
   obtain ⟨μ',s',st,hnx,hnv',hf⟩:=s.sim.turn (w':=w.drew.alloc (.cells out e)) (r':=⟨e,r.m+n*ei.sz,appC r.cells r.m (rep ei n) (n*ei.sz)⟩) (B':=⟨w.heap.size,r.m+n*ei.sz,gc*ei.sz⟩) (cs:=out) hr hB (.inr (Nat.le_refl _)) (by simp)
    (by rw[hL];exact Nat.le_add_right _ _) (fun h=>by simp only at h;omega) rfl hnewb hsz2 hLE (fun q hq=>by
      simp only at hq
      simp only[appC]
      rw[hget q hq]
      by_cases hq1:q<r.m
      ·rw[if_pos hq1,if_pos hq1]
       have hlt:q<old.size:=by omega
       refine ⟨old[q],by simp[hlt],?_⟩
       have:=ho3 q hq1
       simpa[Array.getD,hlt] using this
      ·rw[if_neg hq1,if_neg hq1,if_pos (by omega)]
       have hlt:q-r.m<new.size:=by omega
       refine ⟨new[q-r.m],by simp[hlt],?_⟩
       have:=hnv (q-r.m) (by omega)
       simpa[Array.getD,hlt] using this) (fun k' hk' _=>hoth k' hk') (by simp) rfl rfl rfl
   unfold Oper.wp
   rw[←hex] at hrun
   rw[hexec _ hrun]
   simp only[Result.andThen_ok,Oper.upon]
   rw[hdst]
   refine hN μ' _ _ _ _ (env_put s st s' hd ?_) st rest
   refine ⟨by rw[hnx];exact vx.1,by rw[Nat.zero_add,Nat.add_mul,htip];exact Nat.le_refl _,fun hh=>(hnv' hh).elim,fun B' e'=>?_⟩
   rw[hf] at e'
   injection e' with e'
   subst e'
   exact ⟨Nat.le_refl _,fun _=>⟨gc,rfl,by simp⟩⟩
theorem rep_oneA {ei:TI} {n:Nat} {z:α} (hs:ei.sz=Enc.sz α) (hz:∀j,j<Enc.sz α→ei.z j=ec z j):∀j,j<n*ei.sz→oneA h (rep ei n j):=by
 intro j hj
 have hp:0<ei.sz:=by rw[hs];exact Enc.pos
 have hm:j%ei.sz<Enc.sz α:=by rw[←hs];exact Nat.mod_lt _ hp
 rw[rep_at hj,hz _ hm]
 have:j%ei.sz<(Enc.cl z).length:=by rw[Enc.len];exact hm
 unfold ec ofL
 rw[List.getD_eq_getElem?_getD,List.getElem?_eq_getElem this]
 exact oneA_AV1 (Enc.cell _ _ (List.getElem_mem this))
theorem TL.appOZ {d b:Nat} {t' e:TypeId} {ei:TI} {k:IntKind} {xs:List α} {n:Int} {ks:List KO} (nd:Nd h) (z:α) (hk:C.kd t=some (.slc e)) (hk':C.kd t'=some (.int k)) (he:C.ty e=some ei) (hs:ei.sz=Enc.sz α) (hz:∀j,j<Enc.sz α→ei.z j=ec z j)
 (hx:ev env x=(true,OL b xs)) {j:Nat} (hj:h[j]? =some (b,RL e xs)) (hy:ev env y=(true,.int k n)) (hn:0≤n) (hby:0<ei.by') (hlim:(xs.length+n.toNat)*ei.by'≤140737488355328) (hd:Nat.ble (d+1) nt=true)
 (rest:Nd (h.set j (b,RL e (xs++List.replicate n.toNat z)))→TL C.P nt ks K ((d,true,OL b (xs++List.replicate n.toNat z))::env) (h.set j (b,RL e (xs++List.replicate n.toNat z)))):TL C.P nt (⟨some d,none,.bi .append [t,t'] [x,y]⟩::ks) K env h:=by
 refine TL.cons (gc:=true) rfl ?_ (fun e=>by simp at e)
 intro o μ a w ho hdst s _ N hN
 obtain ⟨ox,oy,hop,hcx,hcy⟩:=two_ops ho
 have vx:=ev_ok hcx s.env (by rw[hx])
 rw[hx] at vx
 have vy:=ev_ok hcy s.env (by rw[hy])
 rw[hy] at vy
 have vy:a.eval oy= .int k (n.toNat:Int):=by rw[Int.toNat_of_nonneg hn];exact vy
 refine app_wpZ (ei:=ei) (b:=b) (len:=xs.length) (n:=n.toNat) (r:=RL e xs) rfl s hop hdst (dlt hd) hk hk' he (by rw[hs];exact vx) (nd.get hj) rfl (by simp[RL,hs]) vy (by rw[hs];exact Enc.pos) hby hlim (rep_oneA hs hz) N hN ?_
 have hrep:rep ei n.toNat=rowL (Enc.sz α) ec (List.replicate n.toNat z):=rep_rowL hs Enc.pos hz
 have hap:=appC_rowL (sz:=Enc.sz α) (enc:=ec) (xs:=xs) (ys:=List.replicate n.toNat z) (m:=xs.length*Enc.sz α) (k:=n.toNat*Enc.sz α) (pc:=rep ei n.toNat) Enc.pos rfl (by simp) (fun q _=>by rw[hrep])
 refine TL.setrow (q':=RL e (xs++List.replicate n.toNat z)) nd hj rfl (by simp[RL,hs,Nat.add_mul]) (fun i _=>?_) fun nd'=>?_
 ·simp only[RL]
  rw[hs,hap]
 ·have:=rest nd'
  simp only[putE]
  have e1:(AV.rs b 0 (xs.length+n.toNat) ((RL e xs).m+n.toNat*ei.sz) ei.sz)=OL b (xs++List.replicate n.toNat z):=by
   simp[OL,RL,hs,Nat.add_mul]
  rw[e1]
  exact this
end
end Go.AX

namespace Go.AX
open Go.AM Go.RowKit
section
variable {P:Program} {nt:Nat} {env:Env} {h:Hp} {K:Env→Hp→Prop} {α:Type} [Enc α]
def FixR (h:Hp) (b:Nat):List AV→List AV→Prop
 |[],[]=>True
 |v::r,v'::r'=>FixTo h b v v'∧FixR h b r r'
 |_,_=>False
theorem FixR.at {b:Nat}:∀{l l':List AV},FixR h b l l'→l'.length=l.length∧∀i:Nat,FixTo h b (ofL l i) (ofL l' i)
 |[],[],_=>⟨rfl,fun i=>fix_id _⟩
 |v::r,v'::r',hh=>by
  obtain ⟨h1,h2⟩:=FixR.at hh.2
  refine ⟨by simp[h1],fun i=>?_⟩
  cases i with
  |zero=>exact hh.1
  |succ i=>exact h2 i
theorem Sim.layR {μ:Mu} {w:World} (s:Sim μ h w) (nd:Nd h) {j b:Nat} {r:Row} (hj:h[j]? =some (b,r)) {j2 b2:Nat} {ty:TypeId} {l l':List AV} (hj2:h[j2]? =some (b2,RV ty l)) (hb:b2≠b) (hf:FixR h b l l'):
 Sim (μ.less b) ((h.set j2 (b2,RV ty l')).eraseIdx j) w:=by
 have S1:=Sim.layd s nd hj
 obtain ⟨hu,nd'⟩:=nd.upd (r':=RV ty l') hj2
 have hr:=nd.get hj2
 have hlen:=hf.at.1
 have hjne:j≠j2:=by rintro rfl;rw[hj] at hj2;injection hj2 with e;injection e with e1 _;exact hb e1.symm
 have hj':(h.set j2 (b2,RV ty l'))[j]? =some (b,r):=by rw[List.getElem?_set_ne (fun e=>hjne e.symm)];exact hj
 refine ⟨fun x q e=>?_,S1.inj,S1.lt,S1.vlt,S1.noban,S1.banlt,fun k a e=>⟨?_,(s.hadr k a e).2⟩⟩
 rotate_right
 ·cases hq:Hp.get ((h.set j2 (b2,RV ty l')).eraseIdx j) k with
  |none=>rfl
  |some q=>
   obtain ⟨h1,h2⟩:=get_erase nd' hj' hq
   have h3:=(s.hadr k a e).1
   rw[←hu,Hp.get_upd] at h2
   by_cases hk:k=b2
   ·subst hk;rw[hr] at h3;cases h3
   ·rw[if_neg hk,h3] at h2;cases h2
 obtain ⟨h1,h2⟩:=get_erase nd' hj' e
 rw[←hu,Hp.get_upd] at h2
 by_cases hx:x=b2
 ·subst hx
  rw[if_pos rfl,hr] at h2
  simp only[Option.map_some,Option.some.injEq] at h2
  subst h2
  rcases s.row x _ hr with ⟨hv,hn,h0⟩|⟨B,cs,hnv,q1,q2,q3,q4,q5,q6⟩
  ·exact .inl ⟨by simpa[Mu.less,h1] using hv,by simpa[Mu.less,h1] using hn,by simp only[RV] at h0 ⊢;omega⟩
  ·refine .inr ⟨B,cs,by simpa[Mu.less,h1] using hnv,by simpa[Mu.less,h1] using q1,by simp only[RV] at q2 ⊢;omega,q3,q4,by simp only[RV] at q5 ⊢;omega,fun i hi=>?_⟩
   obtain ⟨u,hu',hv⟩:=q6 i (by simp only[RV] at hi ⊢;omega)
   exact ⟨u,hu',hf.at.2 i μ w u s (s.vis (nd.get hj)) hv⟩
 ·rw[if_neg hx] at h2
  exact (s.less (b:=b) (s.vis (nd.get hj))).row x q (by rw[Hp.get_del,if_neg h1];exact h2)
theorem TL.layR {ks:List KO} (l:List (Nat×AV)) (nd:Nd h) {j b:Nat} {r:Row} (hj:h[j]? =some (b,r)) (j2:Nat) {b2:Nat} {ty:TypeId} {l2 l2':List AV} (hj2:h[j2]? =some (b2,RV ty l2)) (hne:Nat.beq j j2=false) (hf:FixR h b l2 l2') (hl:SealL env h b l)
 (k:Nd ((h.set j2 (b2,RV ty l2')).eraseIdx j)→TL P nt ks K (cvs l env) ((h.set j2 (b2,RV ty l2')).eraseIdx j)):TL P nt ks K env h:=by
 obtain ⟨_,nd'⟩:=nd.upd (r':=RV ty l2') hj2
 have hb:b2≠b:=by
  rintro rfl
  obtain rfl:=nd.inj hj hj2
  simp at hne
 intro os ho hz μ a w s
 refine TL.cons.wpK_mono ?_ _ _ _ (k (nd'.erase j) os ho hz (μ.less b) a w ⟨Sim.layR s.sim nd hj hj2 hb hf,seal_env s.sim (s.sim.vis (nd.get hj)) s.env hl,s.size,s.defers⟩)
 rintro a' w' ⟨μ2,env2,h2,q,s2,st2⟩
 exact ⟨μ2,env2,h2,q,s2,(Step.less (s.sim.vis (nd.get hj))).trans st2⟩
theorem TK.layR {Q:Post} {c:KC} (l:List (Nat×AV)) (nd:Nd h) {j b:Nat} {r:Row} (hj:h[j]? =some (b,r)) (j2:Nat) {b2:Nat} {ty:TypeId} {l2 l2':List AV} (hj2:h[j2]? =some (b2,RV ty l2)) (hne:Nat.beq j j2=false) (hf:FixR h b l2 l2') (hl:SealL env h b l)
 (k:Nd ((h.set j2 (b2,RV ty l2')).eraseIdx j)→TK P nt c Q (cvs l env) ((h.set j2 (b2,RV ty l2')).eraseIdx j)):TK P nt c Q env h:=by
 obtain ⟨_,nd'⟩:=nd.upd (r':=RV ty l2') hj2
 have hb:b2≠b:=by
  rintro rfl
  obtain rfl:=nd.inj hj hj2
  simp at hne
 intro c' hc μ a w s
 refine wp_mono (k (nd'.erase j) c' hc (μ.less b) a w ⟨Sim.layR s.sim nd hj hj2 hb hf,seal_env s.sim (s.sim.vis (nd.get hj)) s.env hl,s.size,s.defers⟩) ?_
 rintro e a' w' ⟨μ2,env2,h2,q,s2,st2⟩
 exact ⟨μ2,env2,h2,q,s2,(Step.less (s.sim.vis (nd.get hj))).wtrans st2⟩
theorem vok_cap0 {C:Cx} {t e:TypeId} {x:X} {v:AV} {gc gx:Bool} (hk:C.kd t=some (.slc e)) (hx:ev env x=(gx,v)) (hv:v= .nils∨v= .z0) (hg:gc=true→gx=true:=by first|exact fun _=>rfl|simp_all):
 gc=true→VOK C.P nt h env (.bi .cap [t] [x]) (.int .i64 0):=fun hgc=>by
 intro o μ a w ho sa N hN
 obtain ⟨ox,hop,hcx⟩:=one_op ho
 have vx:=ev_ok hcx sa.env (by rw[hx];exact hg hgc)
 rw[hx] at vx
 have hxx:∃p,a.eval ox= .slice p 0 0:=by
  rcases hv with rfl|rfl
  ·exact ⟨none,vx⟩
  ·exact vx
 obtain ⟨p,hp⟩:=hxx
 obtain ⟨_,_,_,hK⟩:=kd_ok hk
 unfold Oper.wp
 have:(execOp a.eval o).run C.P w= .ok (.value (.int .i64 0)) w:=by
  simp[execOp,hop,resolve,invoke,builtin,Builtin.cap_,run_und hK,hp]
  rfl
 rw[this]
 exact hN _ w rfl (Below.refl _ _)
theorem p_sliN {C:Cx} {t e:TypeId} {ei:TI} {x:X} {lo hi:Option X} {gc gx g1 g2:Bool} (hk:C.kd t=some (.slc e)) (he:C.ty e=some ei) (hx:ev env x=(gx,.nils)) (h1:boundA env lo 0=some (g1,0)) (h2:boundA env hi 0=some (g2,0))
 (hg:gc=true→gx=true∧g1=true∧g2=true:=by first|exact fun _=>⟨rfl,rfl,rfl⟩|simp_all):PVok C h env (.sli t x lo hi none) gc .nils:=fun ee=>by
 obtain ⟨a1,a2,a3⟩:=hg ee
 have:sliB C h env (some (.slc e)) .nils lo hi=(.nils,((g1=true∧g2=true)∧(0:Int)=0∧(0:Int)=0)∧(C.ty e).isSome=true):=by simp only[sliB,h1,h2]
 simp only[pv,hx,sliA,hk,this]
 exact ⟨trivial,a1,⟨⟨a2,a3⟩,trivial,trivial⟩,by rw[he];rfl⟩
theorem p_lenN {C:Cx} {t e:TypeId} {x:X} {gc gx:Bool} (hk:C.kd t=some (.slc e)) (hx:ev env x=(gx,.nils)) (hg:gc=true→gx=true:=by first|exact fun _=>rfl|simp_all):PVok C h env (.bi .len [t] [x]) gc (.int .i64 0):=fun ee=>by
 have h1:lenT C t .nils:=by simp[lenT,hk]
 simp only[pv,hx]
 exact ⟨rfl,⟨hg ee,h1⟩,trivial⟩
end
end Go.AX

namespace Go.AX
open Go.AM
set_option linter.unusedSectionVars false
section
variable {C:Cx} {P:Program} {nt:Nat} {env:Env} {h:Hp} {K:Env→Hp→Prop} {Q:Post} {gc gx gy:Bool} {t:TypeId} {x y:X} {u:AV} {α β:Type} [Enc α] [Enc β]
end
end Go.AX

namespace Go.AX
open Go.AM Go.RowKit
set_option linter.unusedSectionVars false
section
variable {P:Program} {nt:Nat} {env:Env} {h:Hp} {Q:Post} {b:KC}
def unr (P:Program) (nt:Nat) (b:KC) (Q:Post):Nat→Env→Hp→Prop
 |0,_,_=>False
 |n+1,env,h=>TK P nt b (thenQ (unr P nt b Q n) Q) env h
theorem TK.unroll (n:Nat) (h0:unr P nt b Q n env h):TK P nt (.loop b) Q env h:=by
 refine TK.loop (fun (s:Nat) env h=>unr P nt b Q s env h) id n h0 ?_
 intro s env h hI
 cases s with
 |zero=>exact hI.elim
 |succ s=>
  refine TK.mono hI ?_
  intro e env' h' hq
  cases e<;>first|exact ⟨s,hq,Nat.lt_succ_self _⟩|exact hq
theorem unr_s {n:Nat} (k:TK P nt b (thenQ (unr P nt b Q n) Q) env h):unr P nt b Q (n+1) env h:=k
end
section
variable {C:Cx} {nt:Nat} {env:Env} {h:Hp} {K:Env→Hp→Prop} {gc gx gy:Bool} {t:TypeId} {x y:X}
def LitR (env:Env) (h:Hp):Nat→List (Nat×X)→List AV→Prop
 |_,[],[]=>True
 |i,(k,x)::r,.ref b o st::az=>(k=i∧ev env x=(true,.ref b o st)∧refOK h b st)∧LitR env h (i+1) r az
 |_,_,_=>False
theorem litR_of:∀{ps:List (Nat×X)} {az:List AV} {i:Nat},LitR env h i ps az→∃l S,litA h env 1 i ps=some (l,S)∧S∧l=az.map fun a (_:Nat)=>a
 |[],[],_,_=>⟨[],True,rfl,trivial,rfl⟩
 |(k,x)::r,.ref b o st::az,i,⟨⟨hk,hx,hr⟩,hl⟩=>by
  obtain ⟨l,S,h1,h2,h3⟩:=litR_of hl
  refine ⟨(fun _=> .ref b o st)::l,(k=i∧(ev env x).1=true∧refOK h b st∧1=1)∧S,?_,⟨⟨hk,by rw[hx],hr,rfl⟩,h2⟩,by rw[h3];rfl⟩
  simp only[litA,hx,cellsA,h1]
theorem TL.litR {d n:Nat} {ps:List (Nat×X)} {e:TypeId} {ei:TI} {ks:List KO} (az:List AV) (hk:C.kd t=some (.slc e)) (he:C.ty e=some ei) (hs:ei.sz=1) (hl:LitR env h 0 ps az) (hn:az.length=n)
 (hlim:Nat.ble n 16777216=true) (hd:Nat.ble (d+1) nt=true) (rest:TL C.P nt ks K ((d,true,.sl (ofL az) n n)::env) h):TL C.P nt (⟨some d,none,.bsl t n ps⟩::ks) K env h:=by
 obtain ⟨l,S,h1,h2,h3⟩:=litR_of hl
 refine TL.bslv (l:=l) (S:=S) (gc:=true) rfl rfl (dlt hd) hk he (by rw[hs,Nat.mul_one];exact Nat.le_of_ble_eq_true hlim) (by rw[hs];exact h1) (fun _=>h2) (by rw[h3,List.length_map,hn]) ?_
 have e1:catC ei.sz l=ofL az:=by
  funext j
  rw[hs,h3]
  simp only[catC,ofL,List.getD_eq_getElem?_getD,Nat.div_one,List.getElem?_map]
  cases az[j]? <;>rfl
 rw[e1,hs,Nat.mul_one]
 exact rest
theorem p_lenR' {e n m:Nat} {c:Nat→AV} (hk:C.kd t=some (.slc e)) (hx:ev env x=(gx,.sl c m n)) (hg:gc=true→gx=true:=by first|exact fun _=>rfl|simp_all):
 PVok C h env (.bi .len [t] [x]) gc (.int .i64 n):=by
 refine pvE (S:=(gx=true∧lenT C t (.sl c m n))∧True) ?_ fun e=>⟨⟨hg e,by unfold lenT;rw[hk];trivial⟩,trivial⟩
 simp only[pv,hx];rfl
theorem p_iaR {e:TypeId} {ei:TI} {n m:Nat} {c:Nat→AV} {k:IntKind} {i:Int} (hk:C.kd t=some (.slc e)) (he:C.ty e=some ei) (hs:ei.sz=1) (hx:ev env x=(gx,.sl c m n)) (hy:ev env y=(gy,.int k i))
 (hi:0≤i∧i<n) (hm:0<m) (hg:gc=true→gx=true∧gy=true:=by first|exact fun _=>⟨rfl,rfl⟩|simp_all):PVok C h env (.ia t x y) gc (.vref c m i.toNat):=by
 refine pvE (S:=(gx=true∧gy=true)∧(0≤i∧i<n)∧0<m) ?_ fun e=>⟨hg e,hi,hm⟩
 simp only[pv,hx,hy,iaA,hk,he,iaB,hs,Nat.mul_one]
theorem TL.eqNilO {α:Type} [Enc α] {d b:Nat} {e:TypeId} {xs:List α} {ks:List KO} (nd:Nd h) (hk:C.kd t=some (.slc e)) (hx:ev env x=(true,OL b xs)) (hy:ev env y=(true,.nils)) {j:Nat} {ty:TypeId} (hj:h[j]? =some (b,RL ty xs)) (hd:Nat.ble (d+1) nt=true)
 (rest:∀b:Bool,(b=true→xs=[])→TL C.P nt ks K ((d,true,.bool b)::env) h):TL C.P nt (⟨some d,none,.bin .eql t x y⟩::ks) K env h:=by
 refine TL.cons (gc:=true) rfl ?_ (fun e=>by simp at e)
 intro o μ a w ho hdst s _ N hN
 obtain ⟨ox,oy,ty',hop,hcx,hcy⟩:=bin_op ho
 have vx:=ev_ok hcx s.env (by rw[hx])
 rw[hx] at vx
 have vy:=ev_ok hcy s.env (by rw[hy])
 rw[hy] at vy
 have vy:a.eval oy= .slice none 0 0:=vy
 have hb0:Below w.heap.size w w:=Below.refl _ _
 have key:∀b:Bool,(b=true→xs=[])→(Sem.run C.P (do eqGuard .eql t ox oy (a.eval ox) (a.eval oy);binOp .eql t (a.eval ox) (a.eval oy)) w= .ok (.bool b) w)→o.wp C.P a w N (fun _ _ _=>False):=by
  intro b hb hrun
  unfold Oper.wp
  have:(execOp a.eval o).run C.P w= .ok (.value (.bool b)) w:=by
   simp only[execOp,hop]
   rw[Sem.run_bind,hrun]
   rfl
  rw[this]
  simp only[Oper.upon]
  rw[hdst]
  exact hN μ _ _ _ _ (env_put (v:= .bool b) s (Step.refl μ w) s.sim (dlt hd) rfl) (Step.refl μ w) (rest b hb)
 obtain ⟨i,hi,hkk,hK⟩:=kd_ok hk
 have vx:VR μ w (OL b xs) (a.eval ox):=vx
 generalize hcx':a.eval ox=cx at key vx
 rw[vy] at key
 obtain ⟨_,_,hvir,hB⟩:=vx
 rcases s.sim.row b _ (nd.get hj) with ⟨hv,hf,hm⟩|⟨B,cs,hnv,hf,hL,_⟩
 ·obtain ⟨_,h2,x0,rfl⟩:=hvir hv
  cases x0 with
  |none=>exact key true (fun _=>List.length_eq_zero_iff.1 h2) (run_eql (by simp) (by simp) (by unfold eqGuard;simp) (equal_of fun d=>by simp[Op.equalIn,run_und hK]) (.inl rfl))
  |some q=>exact key false (fun e=>by cases e) (run_eql (by simp) (by simp) (by unfold eqGuard;simp) (equal_of fun d=>by simp[Op.equalIn,run_und hK]) (.inl rfl))
 ·obtain ⟨_,h5⟩:=hB B hf
  obtain ⟨cap,rfl,_⟩:=h5 hL.symm
  exact key false (fun e=>by cases e) (run_eql (by simp) (by simp) (by unfold eqGuard;simp) (equal_of fun d=>by simp[Op.equalIn,run_und hK]) (.inl rfl))
end
end Go.AX

namespace Go.AX
open Go.AM Go.RowKit Go.ChangeShapes
def OpX (P:Program) (t:TypeId) (α:Type) [Enc α] (ok:α→Prop):Prop:=Opens P t (Enc.sz α) (fun (x:α)=>ec x) ok
section
variable {P:Program} {t e:TypeId} {α:Type} [Enc α]
theorem wf_i64 {n:Int} (h:(Lit.int .i64 n).wf=true): -9223372036854775808≤n∧n≤9223372036854775807:=by
 simp[Lit.wf,IntKind.min,IntKind.max,IntKind.bits,IntKind.signed] at h;omega
theorem OpX.int (ht:P.underlying t=some (.int .i64)):OpX P t Int (fun n=> -9223372036854775808≤n∧n≤9223372036854775807):=by
 intro H en w base held fuel cs x h hw
 obtain ⟨v,h1,h2,h3⟩:=Opens.int ht en w base held fuel cs x h hw
 exact ⟨v,h1,wf_i64 h2,fun d hd=>by obtain rfl:d=0:=by simpa[Enc.sz] using hd
                                    exact h3 0 (by omega)⟩
theorem OpX.one {ok:α→Prop} (ho:OpX P t α ok) (hs:Enc.agg α=false) {H:Type} {en:TypeId×Value→H} {w:World} {base:Nat} {held:Bool} {v:Value} {d:DataW H} {ps:List MemPlace}
 (hv:v.cells= #[v]) (h:DataW.Trod en P w base (fun _=>true) held t v d ps) (hw:∀n∈d.weights P t,n≤reachBytes):∃a:α,ok a∧VR flat0 w (Enc.v a) v:=by
 have h1:=Enc.one hs
 unfold OpX at ho
 rw[h1] at ho
 obtain ⟨a,h2,h3⟩:=Opens.one ho hv h hw
 refine ⟨a,h2,?_⟩
 rw[Enc.veq,hs]
 exact h3
end
end Go.AX

namespace Go.AM
open Go.RowKit Go.ChangeShapes
section
variable {P:Program} {t e:TypeId} {k:IntKind}
theorem Opens.sliceB {sz:Nat} {α:Type} {enc:α→Nat→AV} {ok:α→Prop} (ht:P.underlying t=some (.slice e)) (hc:P.cellsOf e=sz) (h0:0<sz) {by':Nat} (hby:P.bytesOf e=by') (ho:Opens P e sz enc ok):
 Opens P t 1 (encV sz enc) (fun xs=>xs.length*by'≤reachBytes∧∀y∈xs,ok y):=by
 intro H en w base held fuel cs x h hw
 rcases DataW.trod_slice ht h with ⟨rfl,_⟩|⟨a,len,cap,elems,rest,n,rfl,rfl,rfl,hb,hl,hm,hlen,hel,_⟩
 ·refine ⟨([]:List α),rfl,⟨by simp,fun y hy=>by cases hy⟩,fun d hd=>?_⟩
  obtain rfl:d=0:=by omega
  exact Or.inl ⟨rfl,by simp,rfl⟩
 ·rw[hc] at hel
  have each:∀i,i<len→∃v:α,ok v∧∀d,d<sz→(∃u,w.cell? ⟨a.block,a.off+(i*sz+d),none⟩=some u∧VR flat0 w (enc v d) u)∧a.block<w.heap.size∧(i=0→d=0→a.spot=none):=by
   intro i hi
   have h1:=hel i hi
   have hi':i<elems.length:=by omega
   rw[List.getElem?_eq_getElem hi'] at h1
   obtain ⟨cs',h2,h3⟩:=Option.bind_eq_some_iff.1 h1
   obtain ⟨v,h4,h5,h6⟩:=ho en w base held n cs' _ h3 fun k hk=>hw k (by
    simp only[DataW.weights,ht]
    refine List.mem_cons_of_mem _ (List.mem_append_left _ (weights_all (List.mem_map_of_mem (List.getElem_mem hi')) hk)))
   obtain ⟨h7,h8⟩:=cells_at h2
   have hblk:(a.add (i*sz)).block=a.block:=by unfold Addr.add;split<;>rfl
   have hoff:(a.add (i*sz)).off=a.off+i*sz:=by
    unfold Addr.add
    split
    ·rename_i hz;rw[hz];rfl
    ·rfl
   refine ⟨v,h5,fun d hd=>⟨⟨_,?_,h6 d hd⟩,?_⟩⟩
   ·have:=(h8 d hd).1
    rw[hblk,hoff] at this
    rw[←Nat.add_assoc]
    exact this
   ·have h9:=h8 d hd
    rw[hblk] at h9
    refine ⟨h9.2.1,fun e1 e2=>?_⟩
    subst e1
    have:=h9.2.2 e2
    simpa[Addr.add] using this
  obtain ⟨xs,hx1,hx2⟩:=exists_list len each
  refine ⟨xs,rfl,⟨?_,fun y hy=>?_⟩,fun d hd=>?_⟩
  ·have:=hw _ (by simp only[DataW.weights,ht];exact List.mem_cons_self)
   simp only[List.length_map] at this
   rw[hby] at this
   have h4:xs.length*by'≤(elems.length+rest.length)*by':=Nat.mul_le_mul_right _ (by omega)
   omega
  ·obtain ⟨i,hi,rfl⟩:=List.getElem_of_mem hy
   exact (hx2 i _ (List.getElem?_eq_getElem hi)).1
  ·obtain rfl:d=0:=by omega
   refine Or.inr ⟨a,cap,by rw[hx1];rfl,by rw[hx1];exact hl,fun hpos=>?_,fun j hj=>?_⟩
   ·have hlen0:0<xs.length:=by
     rcases Nat.eq_zero_or_pos xs.length with h|h
     ·rw[h] at hpos;simp at hpos
     ·exact h
    have:=(hx2 0 _ (List.getElem?_eq_getElem hlen0)).2 0 h0
    exact ⟨this.2.2 rfl rfl,sealed0 this.2.1⟩
   ·have hq:j/sz<xs.length:=Nat.div_lt_of_lt_mul (by rw[Nat.mul_comm];exact hj)
    obtain ⟨⟨u,hu1,hu2⟩,_⟩:=(hx2 _ _ (List.getElem?_eq_getElem hq)).2 (j%sz) (Nat.mod_lt _ h0)
    refine ⟨u,?_,?_⟩
    ·rw[←hu1,Nat.mul_comm,Nat.div_add_mod]
    ·rw[rowL_split h0,List.getElem?_eq_getElem hq]
     exact hu2
end
end Go.AM
namespace Go.AX
open Go.AM Go.RowKit Go.ChangeShapes
section
variable {P:Program} {t e:TypeId} {α:Type} [Enc α]
theorem OpX.sliceB {ok:α→Prop} {by':Nat} (ht:P.underlying t=some (.slice e)) (hc:P.cellsOf e=Enc.sz α) (hby:P.bytesOf e=by') (ho:OpX P e α ok):OpX P t (List α) (fun xs=>xs.length*by'≤reachBytes∧∀y∈xs,ok y):=by
 intro H en w base held fuel cs x h hw
 obtain ⟨v,h1,h2,h3⟩:=Opens.sliceB ht hc Enc.pos hby ho en w base held fuel cs x h hw
 exact ⟨v,h1,h2,fun d hd=>by obtain rfl:d=0:=by simpa[Enc.sz] using hd
                             exact h3 0 (by omega)⟩
end
end Go.AX

namespace Go.AX
open Go.AM Go.RowKit
section
variable {C:Cx} {nt:Nat} {env:Env} {h:Hp} {gc gx gy:Bool} {t:TypeId} {x y:X}
end
end Go.AX

namespace Go.AX
open Go.AM Go.RowKit
section
variable {C:Cx} {nt:Nat} {env:Env} {h:Hp} {K:Env→Hp→Prop} {x y:X} {t:TypeId} {u:AV} {α:Type} [Enc α]
theorem src_okN {P:Program} {μ:Mu} {w:World} (s:Sim μ h w) {sz n:Nat} {u:AV} {x:Value} {pc:Nat→AV} {S:Prop} (hu:VR μ w u x) (hs:srcA h sz u=some (n,pc,S)) (hS:S):
 (∀w1:World,(Builtin.lenOf x).run P w1= .ok n w1)∧∀m,m≤n→∃new:Array Value,new.size=m*sz∧(∀w1:World,w1.heap=w.heap→(Builtin.firstCells sz m x).run P w1= .ok new w1)∧
   ∀j,j<m*sz→VR μ w (pc j) (new.getD j undef):=by
 refine ⟨(src_ok (P:=P) s hu hs hS).1,fun m hmn=>?_⟩
 have hms:m*sz≤n*sz:=Nat.mul_le_mul_right _ hmn
 have rows:∀(g o:Nat) (cs:Nat→AV),(∀j,j<m*sz→∃u,w.cell? ⟨g,o+j,none⟩=some u∧VR μ w (cs j) u)→
  ∃new:Array Value,new.size=m*sz∧(∀w1:World,w1.heap=w.heap→(loadCells ⟨g,o,none⟩ (m*sz)).run P w1= .ok new w1)∧∀j,j<m*sz→VR μ w (cs j) (new.getD j undef):=by
  intro g o cs hc
  have hex:∀j,∃u,j<m*sz→w.cell? ⟨g,o+j,none⟩=some u∧VR μ w (cs j) u:=by
   intro j
   by_cases hj:j<m*sz
   ·obtain ⟨u,hu⟩:=hc j hj;exact ⟨u,fun _=>hu⟩
   ·exact ⟨undef,fun hh=>absurd hh hj⟩
  obtain ⟨f,hf⟩:=Classical.axiomOfChoice hex
  refine ⟨((List.range (m*sz)).map f).toArray,by simp,fun w1 h1=>run_loadCells w1 _ _ f (fun j hj=>?_),fun j hj=>by simpa[hj] using (hf j hj).2⟩
  rw[cell_at]
  have:=(hf j hj).1
  simpa only[World.cell?,h1] using this
 have zero:n=0→(∃ad sc,x= .slice ad 0 sc)→∃new:Array Value,new.size=m*sz∧(∀w1:World,w1.heap=w.heap→(Builtin.firstCells sz m x).run P w1= .ok new w1)∧
  ∀j,j<m*sz→VR μ w (pc j) (new.getD j undef):=by
  rintro h0 ⟨ad,sc,rfl⟩
  have hm0:m=0:=by omega
  subst hm0
  exact ⟨#[],by simp,fun w1 _=>by cases ad<;>simp[Builtin.firstCells,loadCells,loadCellsFrom],fun j hj=>absurd hj (by omega)⟩
 unfold srcA at hs
 split at hs
 case h_1 cells m' n'=>
  simp only[Option.some.injEq,Prod.mk.injEq] at hs
  obtain ⟨rfl,rfl,rfl⟩:=hs
  rcases hu with ⟨rfl,rfl,rfl⟩|⟨ad,cap,rfl,hn,hse,hc⟩
  ·exact zero rfl ⟨_,_,rfl⟩
  by_cases h0:m*sz=0
  ·exact ⟨#[],by simp[h0],fun w1 _=>by simp[Builtin.firstCells,h0,loadCells,loadCellsFrom],fun j hj=>absurd hj (by omega)⟩
  ·have hm:0<m':=by omega
   obtain ⟨hsp,_⟩:=hse hm
   obtain ⟨ab,ao,asp⟩:=ad
   simp only at hsp
   subst hsp
   obtain ⟨new,h1,h2,h3⟩:=rows ab ao cells (fun j hj=>hc j (by omega))
   exact ⟨new,h1,fun w1 hw=>by simpa[Builtin.firstCells] using h2 w1 hw,h3⟩
 case h_2=>
  simp only[Option.some.injEq,Prod.mk.injEq] at hs
  obtain ⟨rfl,rfl,rfl⟩:=hs
  obtain rfl:x= .slice none 0 0:=hu
  exact zero rfl ⟨_,_,rfl⟩
 case h_3 b off len st sz'=>
  cases hg:h.get b with
  |none=>rw[hg] at hs;simp at hs
  |some r=>
   rw[hg] at hs
   simp only[Option.some.injEq,Prod.mk.injEq] at hs
   obtain ⟨rfl,rfl,rfl⟩:=hs
   obtain ⟨hst,rfl⟩:=hS
   rcases s.rs (by unfold refOK;rw[hg];exact hst) hu with ⟨_,x',_,_,_,rfl,_,_,_,rfl⟩|⟨r',B,cs,cap,hg',_,hB,hL,rfl,hcap,hlen,hh,hE,hmE,hcells⟩
   ·exact zero rfl ⟨_,_,rfl⟩
   rw[hg] at hg'
   injection hg' with hg'
   subst hg'
   obtain ⟨new,h1,h2,h3⟩:=rows B.g off (cutM r.cells off (len*sz')) (fun j hj=>by
    obtain ⟨u,hu,hv⟩:=hcells (off+j) (by omega)
    exact ⟨u,by simp[World.cell?,hh,hu],by rw[cutM_at (by omega)];exact hv⟩)
   exact ⟨new,h1,fun w1 hw=>by simpa[Builtin.firstCells] using h2 w1 hw,h3⟩
 case h_4 s'=>
  simp only[Option.some.injEq,Prod.mk.injEq] at hs
  obtain ⟨rfl,rfl,rfl⟩:=hs
  obtain rfl:x= .string s':=hu
  subst hS
  refine ⟨(s'.extract 0 m).data.map fun b=> .int .u8 b.toNat,by simp;omega,fun w1 _=>by simp[Builtin.firstCells],fun j hj=>?_⟩
  have hj':j<s'.size:=by omega
  have hb:btA s' (j:Int)=(s'[j]'hj').toNat:=by simp[btA,hj']
  show _=_
  rw[hb]
  have hjm:j<min m s'.size:=by omega
  simp only[Array.getD,Array.size_map]
  simp only[ByteArray.size_data,ByteArray.size_extract,Nat.sub_zero]
  simp[hjm]
  rfl
 case h_5=>
  simp only[Option.some.injEq,Prod.mk.injEq] at hs
  obtain ⟨rfl,rfl,rfl⟩:=hs
  obtain ⟨x',rfl⟩:=hu
  exact zero rfl ⟨_,_,rfl⟩
 case h_6=>simp at hs
def cpy {γ:Type} (xs ys:List γ):List γ:=ys.take xs.length++xs.drop ys.length
theorem cpy_len {γ:Type} {xs ys:List γ}:xs.length=(cpy xs ys).length:=by simp[cpy];omega
theorem TL.copyO {d b:Nat} {t' e:TypeId} {ei:TI} {xs ys:List α} {ks:List KO} (nd:Nd h) (hk:C.kd t=some (.slc e)) (he:C.ty e=some ei) (hs:ei.sz=Enc.sz α) (hx:ev env x=(true,OL b xs)) {j:Nat} (hj:h[j]? =some (b,RL e xs))
 (hy:ev env y=(true,u)) (hsrc:Src h u ys) (hd:Nat.ble (d+1) nt=true)
 (rest:Nd (h.set j (b,RL e (cpy xs ys)))→TL C.P nt ks K ((d,true,.int .i64 (min (ys.length:Int) xs.length))::env) (h.set j (b,RL e (cpy xs ys)))):TL C.P nt (⟨some d,none,.bi .copy [t,t'] [x,y]⟩::ks) K env h:=by
 obtain ⟨pc,S,h1,h2,h3⟩:=hsrc
 have hr:=nd.get hj
 refine TL.cons (gc:=true) rfl ?_ (fun e=>by simp at e)
 intro o μ a w ho hdst s _ N hN
 obtain ⟨ox,oy,hop,hcx,hcy⟩:=two_ops ho
 have vx:=ev_ok hcx s.env (by rw[hx])
 rw[hx] at vx
 have vy:=ev_ok hcy s.env (by rw[hy])
 rw[hy] at vy
 obtain ⟨hl,hnew⟩:=src_okN (P:=C.P) s.sim vy h1 h2
 obtain ⟨new,hns,hnew,hnv⟩:=hnew (min ys.length xs.length) (Nat.min_le_left _ _)
 obtain ⟨_,_,_,hK⟩:=kd_ok hk
 obtain ⟨q,hq,hqs,_,_⟩:=C.info he
 have hsz0:=Enc.pos (α:=α)
 have hexec:∀r,(Builtin.copy_ #[t,t'] o.type #[a.eval ox,a.eval oy]).run C.P w=r→(execOp a.eval o).run C.P w=r.andThen fun v w'=> .ok (.value v) w':=by
  intro r hr
  simp[execOp,hop,resolve,invoke,builtin,hr]
 have hmin:((min ys.length xs.length:Nat):Int)=min (ys.length:Int) xs.length:=by omega
 have same:xs.length=0→xs=[]:=fun h0=>List.length_eq_zero_iff.1 h0
 have none0:xs.length=0→(∃y cap,a.eval ox= .slice y 0 cap)→o.wp C.P a w N (fun _ _ _=>False):=by
  rintro h0 ⟨z,cap,hz⟩
  have hm0:min ys.length xs.length=0:=by omega
  rw[hm0] at hnew hns
  have hempty:new.toList=[]:=by
   have:new.size=0:=by simpa using hns
   rw[←Array.length_toList] at this
   exact List.length_eq_zero_iff.1 this
  have hrun:(Builtin.copy_ #[t,t'] o.type #[a.eval ox,a.eval oy]).run C.P w= .ok (goInt 0) w:=by
   rw[hz]
   cases z<;>simp[Builtin.copy_,run_und hK,sizeOf,typeInfo,hq,hl,hqs,hs,hnew w rfl,hempty,storeCells]
  unfold Oper.wp
  rw[hexec _ hrun]
  simp only[Result.andThen_ok,Oper.upon]
  rw[hdst]
  have hx0:=same h0
  subst hx0
  have hc0:cpy ([]:List α) ys=[]:=by simp[cpy]
  have e0:h.set j (b,RL e (cpy ([]:List α) ys))=h:=by rw[hc0];obtain ⟨hlt,e1⟩:=List.getElem?_eq_some_iff.1 hj;rw[←e1];exact List.set_getElem_self hlt
  have:=rest (by rw[e0];exact nd)
  rw[e0,show min (ys.length:Int) (([]:List α).length:Int)=0 by simp;omega] at this
  exact hN μ _ _ _ _ (env_put (v:= .int .i64 0) (u:=goInt 0) (d:=some d) s (Step.refl _ _) s.sim (dlt hd) rfl) (Step.refl _ _) this
 have hx':VR μ w (.rs b 0 xs.length (xs.length*Enc.sz α) (Enc.sz α)) (a.eval ox):=vx
 rcases s.sim.rs (by unfold refOK;rw[hr];rfl) hx' with ⟨_,z,_,_,_,hl0,_,_,_,hex⟩|⟨r',B,cs,cap,hr',_,hB,hL,hex,hcap,hlen,hh,hE,hmE,hcells⟩
 ·exact none0 hl0 ⟨z,0,hex⟩
 rw[hr] at hr'
 injection hr' with hr'
 subst hr'
 by_cases hl0:xs.length=0
 ·exact none0 hl0 ⟨_,cap,by rw[hex,hl0]⟩
 have hle:min ys.length xs.length*Enc.sz α≤xs.length*Enc.sz α:=Nat.mul_le_mul_right _ (Nat.min_le_right _ _)
 have hley:min ys.length xs.length*Enc.sz α≤ys.length*Enc.sz α:=Nat.mul_le_mul_right _ (Nat.min_le_left _ _)
 have hone:∀v∈new.toList,v.oneCell'=true:=by
  intro v hv
  obtain ⟨q,hq,rfl⟩:=List.getElem_of_mem hv
  simp only[Array.length_toList] at hq
  have hq':q<min ys.length xs.length*Enc.sz α:=by omega
  have h1':oneA h (pc q):=by
   rw[h3 q (by omega),rowL_split hsz0]
   have hq2:q/Enc.sz α<ys.length:=Nat.div_lt_of_lt_mul (by rw[Nat.mul_comm];omega)
   rw[List.getElem?_eq_getElem hq2]
   have:q%Enc.sz α<(Enc.cl ys[q/Enc.sz α]).length:=by rw[Enc.len];exact Nat.mod_lt _ hsz0
   show oneA _ (ec _ _)
   unfold ec ofL
   rw[List.getD_eq_getElem?_getD,List.getElem?_eq_getElem this]
   exact oneA_AV1 (Enc.cell _ _ (List.getElem_mem this))
  have:=oneA_ok s.sim (hnv q hq') h1'
  simpa[Array.getD,hq] using this
 have hmr:(RL e xs).m=xs.length*Enc.sz α:=rfl
 have hfit:0+new.toList.length≤cs.size:=by rw[Array.length_toList,hns,hE];omega
 have hst:=run_storeCells_at C.P B.g 0 e new.toList 0 cs w hh (by simpa using hfit) hone
 let cs':Array Value:=(cs.toList.take 0++new.toList++cs.toList.drop (0+new.toList.length)).toArray
 have hrun:(Builtin.copy_ #[t,t'] o.type #[a.eval ox,a.eval oy]).run C.P w= .ok (goInt (min ys.length xs.length:Nat)) (w.setRow B.g cs'):=by
  simp only[Nat.add_zero] at hst
  rw[hex]
  simp[Builtin.copy_,run_und hK,sizeOf,typeInfo,hq,hl,hqs,hs,hnew w rfl]
  rw[hst]
  rfl
 have hget:∀q,cs'[q]? =if 0≤q∧q<0+min ys.length xs.length*Enc.sz α then new[q-0]? else cs[q]? :=by
  intro q
  have:=seg_get cs.toList new.toList 0 q (by simpa using hfit)
  simpa[cs',hns] using this
 have hsize:cs'.size=cs.size:=by simp[cs',hns];omega
 obtain ⟨hu,nd'⟩:=nd.upd (r':=RL e (cpy xs ys)) hj
 have hlc:(cpy xs ys).length=xs.length:=cpy_len.symm
 have hcl:∀q,q<xs.length*Enc.sz α→(RL e (cpy xs ys)).cells q=if q<min ys.length xs.length*Enc.sz α then pc q else (RL e xs).cells q:=by
  intro q hq
  show rowL (Enc.sz α) ec (cpy xs ys) q=_
  have hq2:q/Enc.sz α<xs.length:=Nat.div_lt_of_lt_mul (by rw[Nat.mul_comm];omega)
  by_cases hc:q<min ys.length xs.length*Enc.sz α
  ·rw[if_pos hc,h3 q (by omega),rowL_split hsz0,rowL_split hsz0]
   have hq3:q/Enc.sz α<min ys.length xs.length:=Nat.div_lt_of_lt_mul (by rw[Nat.mul_comm];omega)
   have:(cpy xs ys)[q/Enc.sz α]? =ys[q/Enc.sz α]? :=by
    unfold cpy
    rw[List.getElem?_append_left (by simp;omega),List.getElem?_take,if_pos (by omega)]
   rw[this]
  ·rw[if_neg hc]
   show _=rowL (Enc.sz α) ec xs q
   rw[rowL_split hsz0,rowL_split hsz0]
   have hq3:min ys.length xs.length≤q/Enc.sz α:=(Nat.le_div_iff_mul_le hsz0).2 (by omega)
   have:(cpy xs ys)[q/Enc.sz α]? =xs[q/Enc.sz α]? :=by
    unfold cpy
    rw[List.getElem?_append_right (by simp;omega),List.getElem?_drop]
    congr 1
    simp
    omega
   rw[this]
 obtain ⟨μ',s',st,_,_,hf⟩:=s.sim.turn (w':=w.setRow B.g cs') (r':=RL e (cpy xs ys)) (B':=B) (cs:=cs') hr hB (.inl rfl) (by simp;exact (s.sim.lt b B hB).2) (Nat.le_refl _) (fun _=>rfl)
  (by rw[hL];simp[RL,hlc]) (setRow_heap w B.g cs cs' e (0,0) hh) (by rw[hsize,hE]) (by simp only[RL,hlc];omega) (fun q hq=>by
    have hq':q<xs.length*Enc.sz α:=by simpa[RL,hlc] using hq
    rw[hget q,hcl q hq']
    by_cases hr2:q<min ys.length xs.length*Enc.sz α
    ·rw[if_pos ⟨Nat.zero_le _,by omega⟩,if_pos hr2]
     have hlt:q<new.size:=by omega
     refine ⟨new[q],by simp[hlt],?_⟩
     have:=hnv q hr2
     simpa[Array.getD,hlt] using this
    ·rw[if_neg (by omega),if_neg hr2]
     exact hcells q (by omega)) (fun k' _ hk'=>setRow_other w B.g k' cs' hk') (by simp) rfl rfl rfl
 have:=rest nd'
 rw[←hu] at this
 unfold Oper.wp
 rw[hexec _ hrun]
 simp only[Result.andThen_ok,Oper.upon]
 rw[hdst]
 rw[hmin.symm] at this
 exact hN μ' _ _ _ _ (env_put (v:= .int .i64 _) (u:=goInt _) (d:=some d) s st s' (dlt hd) rfl) st this
end
end Go.AX

namespace Go.AX
open Go.AM Go.RowKit
def RetD (C:Cx) (rs:List RS) (Q:AV→Hp→Prop):Post
 | .normal,env,h=>∃vs h2,ResL C h env rs vs∧(∀b r,h2.get b=some r→h.get b=some r)∧Q (oneV vs) h2
 | .ret,env,h=>∃vs h2,ResL C h env rs vs∧(∀b r,h2.get b=some r→h.get b=some r)∧Q (oneV vs) h2
 |_,_,_=>False
section
variable {C:Cx} {nt:Nat} {env:Env} {h:Hp}
theorem TC.ofD {f:FuncId} {rs:List RS} {k:KC} (B:BodyC C f nt rs k) {args:List AV} {Q:AV→Hp→Prop} (hn:args.length≤nt)
 (hT:TK C.P nt k (RetD C rs Q) (argsE 0 args) h):TC C.P f args h Q:=by
 refine ⟨B.enters,fun μ w cargs hh0 hs hsz hargs=>?_⟩
 obtain ⟨fn,c,hf,hb,hc,hnt,hres⟩:=B.body
 have hA:SimA nt μ (argsE 0 args) h { tmps:=cargs++Array.replicate (fn.ntmps-cargs.size) undef,defers:=[] } w:=by
  refine ⟨hs,fun t g v e=>?_,by simp;omega,rfl⟩
  obtain ⟨rfl,_,h2,rfl⟩:=argsE_at args 0 t g v e
  refine ⟨fun _=>?_,fun hh=>by simp at hh⟩
  have ht:t<args.length:=by omega
  have h3:(cargs++Array.replicate (fn.ntmps-cargs.size) undef).getD t undef=cargs.getD t undef:=by
   simp[Array.getD_eq_getD_getElem?,Array.getElem?_append,hsz,ht]
  simp only[Nat.sub_zero]
  rw[h3]
  exact hargs t ht
 refine calls_of_wp hf hb (wp_mono (hT c hc μ _ w hA) ?_)
 rintro e a' w' ⟨μ',env',h',q,s',st⟩
 have fin:(∃vs h2,ResL C h' env' rs vs∧(∀b r,h2.get b=some r→h'.get b=some r)∧Q (oneV vs) h2)→a'.defers=[]∧∃v,(results fn a'.tmps).run C.P w'= .ok v w'∧∃c r μ' h',Ending.returned v= .returned c∧Q r h'∧VR μ' w' r c∧Sim μ' h' w'∧Step μ w μ' w':=by
  rintro ⟨vs,h2,h1,hs,hq⟩
  obtain ⟨c,hc1,hc2⟩:=res_run s' hres h1
  exact ⟨s'.defers,c,hc1,c,_,μ',h2,rfl,hq,hc2,Sim.sub s'.sim hs,st.step hh0⟩
 cases e with
 |normal=>exact fin q
 |ret=>exact fin q
 |_=>exact q.elim
theorem TCX.ofD {f:FuncId} {rs:List RS} {k:KC} (B:BodyC C f nt rs k) {args:List AV} {Q:AV→Hp→Prop} (hn:args.length≤nt)
 (hT:TK C.P nt k (RetD C rs fun r h'=>Q r h'∧Nd h'∧inH h' r∧clH h') (argsE 0 args) h) [NoL args] [NoHp h]:TCX C.P f args h Q:=⟨TC.ofD B hn hT,inferInstance,inferInstance⟩
theorem retXD {rs:List RS} {R:AV→Hp→Prop} (is:List Nat) (vs:List AV) (nd:Nd h) (hd:is.Nodup) (hv:ResL C h env rs vs) (k:Nd (AX.pick h is)→R (oneV vs) (AX.pick h is)∧inH (AX.pick h is) (oneV vs)∧rowsIn (AX.pick h is) (AX.pick h is)):
 RetD C rs (fun r h'=>R r h'∧Nd h'∧inH h' r∧clH h') .ret env h:=by
 obtain ⟨h1,h2,h3⟩:=k (nd.pick hd)
 exact ⟨vs,AX.pick h is,hv,fun _ _ e=>get_pick nd hd e,h1,nd.pick hd,h2,clH_of h3⟩
end
end Go.AX

namespace Go.AX
open Go.AM Go.RowKit
end Go.AX

namespace Go.AX
open Go.AM Go.RowKit
section
variable {C:Cx} {nt:Nat} {env:Env} {h:Hp} {K:Env→Hp→Prop} {t:TypeId} {x y:AM.X} {α:Type} [Enc α]
theorem TL.cvW {P:Program} {ks:List KO} (nd:Nd h) {j b:Nat} {r:Row} (r':Row) (hj:h[j]? =some (b,r)) (hty:r'.ty=r.ty) (hm:r'.m=r.m) (hw:∀i,i<r.m→Wk (r.cells i) (r'.cells i))
 (k:Nd (h.set j (b,r'))→TL P nt ks K env (h.set j (b,r'))):TL P nt ks K env h:=by
 obtain ⟨hu,nd'⟩:=nd.upd (r':=r') hj
 have hr:=nd.get hj
 intro os hl hz μ a w s
 refine k nd' os hl hz μ a w ⟨?_,s.env,s.size,s.defers⟩
 rw[←hu]
 refine ⟨fun x q e=>?_,s.sim.inj,s.sim.lt,s.sim.vlt,s.sim.noban,s.sim.banlt,fun k a e=>⟨s.sim.hadr_upd e hr,(s.sim.hadr k a e).2⟩⟩
 rw[Hp.get_upd] at e
 by_cases hx:x=b
 ·subst hx
  rw[if_pos rfl,hr] at e
  simp only[Option.map_some,Option.some.injEq] at e
  subst e
  rcases s.sim.row x _ hr with ⟨hv,hn,h0⟩|⟨B,cs,hnv,q1,q2,q3,q4,q5,q6⟩
  ·exact .inl ⟨hv,hn,by rw[hm];exact h0⟩
  ·refine .inr ⟨B,cs,hnv,q1,by rw[hm];exact q2,by rw[hty];exact q3,q4,by rw[hm];exact q5,fun i hi=>?_⟩
   obtain ⟨u,hu,hv⟩:=q6 i (by omega)
   exact ⟨u,hu,hw i (by omega) _ _ _ hv⟩
 ·rw[if_neg hx] at e
  exact s.sim.row x q e
theorem TL.appNW {d:Nat} {t' e:TypeId} {ei:TI} {q:IntKind} {n:Int} {v:AV} {ks:List KO} (nd:Nd h) (z:α) (hk:C.kd t=some (.slc e)) (hk':C.kd t'=some (.int q)) (he:C.ty e=some ei) (hs:ei.sz=Enc.sz α)
 (hz:∀j,j<Enc.sz α→Wk (ei.z j) (ec z j)∧∀h:Hp,oneA h (ei.z j))
 (hx:ev env x=(true,v)) (hv:v= .nils∨v= .z0) (hy:ev env y=(true,.int q n)) (hn0:0≤n) (hby:0<ei.by') (hlim:n.toNat*ei.by'≤140737488355328) (hd:Nat.ble (d+1) nt=true)
 (rest:∀b,Nd ((b,RL e (List.replicate n.toNat z))::h)→TL C.P nt ks K ((d,true,OL b (List.replicate n.toNat z))::env) ((b,RL e (List.replicate n.toNat z))::h)):TL C.P nt (⟨some d,none,.bi .append [t,t'] [x,y]⟩::ks) K env h:=by
 refine TL.cons (gc:=true) rfl ?_ (fun e=>by simp at e)
 intro o μ a w ho hdst s _ N hN
 obtain ⟨ox,oy,hop,hcx,hcy⟩:=two_ops ho
 have vx:=ev_ok hcx s.env (by rw[hx])
 rw[hx] at vx
 have vy:=ev_ok hcy s.env (by rw[hy])
 rw[hy] at vy
 have vy:a.eval oy= .int q (n.toNat:Int):=by rw[Int.toNat_of_nonneg hn0];exact vy
 obtain ⟨μ',s',st,hn,hnx,hf⟩:=s.sim.own ⟨e,0,rowL (Enc.sz α) ec ([]:List α)⟩ rfl
 have hxx:∃p,a.eval ox= .slice p 0 0:=by
  rcases hv with rfl|rfl
  ·exact ⟨none,vx⟩
  ·exact vx
 have sa:SimA nt μ' env ((μ.nx,⟨e,0,rowL (Enc.sz α) ec ([]:List α)⟩)::h) a w:=⟨s',s.env.mono st,s.size,s.defers⟩
 have vx':VR μ' w (.rs μ.nx 0 0 0 ei.sz) (a.eval ox):=⟨by omega,by simp,fun _=>⟨rfl,rfl,hxx⟩,fun B e=>by rw[hf] at e;cases e⟩
 have hp:0<ei.sz:=by rw[hs];exact Enc.pos
 have h1:∀j,j<n.toNat*ei.sz→oneA ((μ.nx,⟨e,0,rowL (Enc.sz α) ec ([]:List α)⟩)::h) (rep ei n.toNat j):=fun j hj=>by
  rw[rep_at hj]
  exact (hz _ (by rw[←hs];exact Nat.mod_lt _ hp)).2 _
 refine app_wpZ (ei:=ei) (b:=μ.nx) (len:=0) (n:=n.toNat) (r:=⟨e,0,rowL (Enc.sz α) ec ([]:List α)⟩) rfl sa hop hdst (dlt hd) hk hk' he vx' (by simp[Hp.get]) rfl (by simp) vy hp hby (by simpa using hlim) h1 N
  (fun μ2 env2 h2' a2 w2 s2 st2 k2=>hN μ2 env2 h2' a2 w2 s2 (st.trans st2) k2) ?_
 have nd1:∀r,Nd ((μ.nx,r)::h):=fun r=>nd.cons r hn
 simp only[Hp.upd,if_true,Nat.zero_add,putE]
 refine TL.cvW (j:=0) (nd1 _) (RL e (List.replicate n.toNat z)) rfl rfl (by simp[RL,hs]) (fun i hi=>?_) fun nd'=>?_
 ·simp only at hi
  have hi2:i<n.toNat*ei.sz:=hi
  simp only[appC,RL]
  rw[if_neg (by omega),if_pos (by omega),Nat.sub_zero,rep_at hi2,rowL_split Enc.pos]
  have hdiv:i/Enc.sz α<n.toNat:=by
   rw[hs] at hi2
   exact (Nat.div_lt_iff_lt_mul Enc.pos).2 hi2
  rw[List.getElem?_replicate,if_pos hdiv,hs]
  exact (hz _ (Nat.mod_lt _ Enc.pos)).1
 ·have:=rest μ.nx nd'
  rw[hs]
  simpa[OL] using this
end
end Go.AX

namespace Go.AX
open Go.AM Go.RowKit
def NoAt (b:Nat) (p:List Nat):AV→Prop
 | .vref cells m _=>∀i,i<m→NoAt b p (cells i)
 | .sl cells m _=>∀i,i<m→NoAt b p (cells i)
 | .agg m cs=>∀i,i<m→NoAt b p (cs i)
 | .tup m cs=>∀i,i<m→NoAt b p (cs i)
 | .fn _ m cs=>∀i,i<m→NoAt b p (cs i)
 | .own b' p' n sz _ cs=>¬(b'=b∧p'=p)∧∀i,i<n*sz→NoAt b p (cs i)
 |_=>True
def NoRoot (b:Nat):AV→Prop
 | .vref cells m _=>∀i,i<m→NoRoot b (cells i)
 | .sl cells m _=>∀i,i<m→NoRoot b (cells i)
 | .agg m cs=>∀i,i<m→NoRoot b (cs i)
 | .tup m cs=>∀i,i<m→NoRoot b (cs i)
 | .fn _ m cs=>∀i,i<m→NoRoot b (cs i)
 | .own b' _ n sz _ cs=>b'≠b∧∀i,i<n*sz→NoRoot b (cs i)
 |_=>True
theorem NO.at {b:Nat} {p:List Nat}:∀{a:AV},NO a→NoAt b p a:=by
 intro a
 induction a with
 |own=>exact fun h=>h.elim
 |vref cells m off ih=>exact fun h i hi=>ih i (h i hi)
 |sl cells m n ih=>exact fun h i hi=>ih i (h i hi)
 |agg m cs ih=>exact fun h i hi=>ih i (h i hi)
 |tup m cs ih=>exact fun h i hi=>ih i (h i hi)
 |fn f m cs ih=>exact fun h i hi=>ih i (h i hi)
 |_=>exact fun _=>trivial
theorem NO.root {b:Nat}:∀{a:AV},NO a→NoRoot b a:=by
 intro a
 induction a with
 |own=>exact fun h=>h.elim
 |vref cells m off ih=>exact fun h i hi=>ih i (h i hi)
 |sl cells m n ih=>exact fun h i hi=>ih i (h i hi)
 |agg m cs ih=>exact fun h i hi=>ih i (h i hi)
 |tup m cs ih=>exact fun h i hi=>ih i (h i hi)
 |fn f m cs ih=>exact fun h i hi=>ih i (h i hi)
 |_=>exact fun _=>trivial
def Mu.re (μ:Mu) (ad:Nat→Option (Nat×List Nat)):Mu:={ f:=μ.f,nx:=μ.nx,ban:=μ.ban,vir:=μ.vir,adr:=ad }
theorem Mu.re_w (μ:Mu) (w:World) (ad:Nat→Option (Nat×List Nat)):WStep μ w (Mu.re μ ad) w:=
 ⟨Nat.le_refl _,fun _ _ B h=> .inr ⟨B,h,Nat.le_refl _,fun _=>rfl⟩,fun _ _ h=>h,fun _=>Iff.rfl,fun _ _ _=>rfl,fun _ h=>h,Nat.le_refl _,rfl,rfl,rfl⟩
theorem VR.re {μ:Mu} {w:World} {ad:Nat→Option (Nat×List Nat)} {G:AV→Prop} (hG:∀b p n sz ty cs,G (.own b p n sz ty cs)→(∀k,μ.adr k=some (b,p)→ad k=some (b,p))∧∀i,i<n*sz→G (cs i))
 (h1:∀c m o,G (.vref c m o)→∀i,i<m→G (c i)) (h2:∀c m n,G (.sl c m n)→∀i,i<m→G (c i)) (h3:∀m c,G (.agg m c)→∀i,i<m→G (c i)) (h4:∀m c,G (.tup m c)→∀i,i<m→G (c i))
 (h5:∀f m c,G (.fn f m c)→∀i,i<m→G (c i)):∀(a:AV) (v:Value),G a→VR μ w a v→VR (Mu.re μ ad) w a v:=by
 intro a
 induction a with
 |own b p n sz ty cs ih=>
  rintro v hg (h0|⟨k,B,arr,cap,hk,hb,hv,hf,e,hL,hc,ha,hs,hE,hi⟩)
  ·exact .inl h0
  obtain ⟨g1,g2⟩:=hG _ _ _ _ _ _ hg
  refine .inr ⟨k,B,arr,cap,g1 k hk,hb,hv,hf,e,hL,hc,ha,hs,hE,fun i hi'=>?_⟩
  obtain ⟨u,hu,hr⟩:=hi i hi'
  exact ⟨u,hu,ih i u (g2 i hi') hr⟩
 |vref cells m off ih=>
  rintro v hg ⟨g,o,e,hs,hc⟩
  refine ⟨g,o,e,hs,fun i hi=>?_⟩
  obtain ⟨u,hu,hv⟩:=hc i hi
  exact ⟨u,hu,ih i u (h1 _ _ _ hg i hi) hv⟩
 |sl cells m n ih=>
  rintro v hg (h0|⟨a,cap,e,hn,hs,hc⟩)
  ·exact .inl h0
  refine .inr ⟨a,cap,e,hn,hs,fun i hi=>?_⟩
  obtain ⟨u,hu,hv⟩:=hc i hi
  exact ⟨u,hu,ih i u (h2 _ _ _ hg i hi) hv⟩
 |agg m cs ih=>
  rintro v hg ⟨vs,e,hm,hc⟩
  exact ⟨vs,e,hm,fun i hi=>ih i _ (h3 _ _ hg i hi) (hc i hi)⟩
 |tup m cs ih=>
  rintro v hg ⟨vs,e,hm,hc⟩
  exact ⟨vs,e,hm,fun i hi=>ih i _ (h4 _ _ hg i hi) (hc i hi)⟩
 |fn f m cs ih=>
  rintro v hg ⟨vs,e,hm,hc⟩
  exact ⟨vs,e,hm,fun i hi=>ih i _ (h5 _ _ _ hg i hi) (hc i hi)⟩
 |_=>exact fun v _ hv=>hv
theorem VR.noAt {μ:Mu} {w:World} {b:Nat} {p:List Nat} {k0:Nat} (h0:μ.adr k0=some (b,p)) (a:AV) (v:Value) (hn:NoAt b p a) (hv:VR μ w a v):
 VR (Mu.re μ fun x=>if x=k0 then none else μ.adr x) w a v:=
 VR.re (G:=NoAt b p) (fun b' p' n sz ty cs hg=>⟨fun k hk=>by
  rw[if_neg]
  ·exact hk
  ·rintro rfl
   rw[h0] at hk
   injection hk with hk
   injection hk with e1 e2
   exact hg.1 ⟨e1.symm,e2.symm⟩,hg.2⟩) (fun _ _ _ h=>h) (fun _ _ _ h=>h) (fun _ _ h=>h) (fun _ _ h=>h) (fun _ _ _ h=>h) a v hn hv
def adI (μ:Mu) (k rb:Nat) (p:List Nat) (x:Nat):Option (Nat×List Nat):=
 if x=k then some (rb,p) else match μ.adr x with
  |some (b,q)=>if b=k then some (rb,p++q) else some (b,q)
  |none=>none
theorem VR.noRoot {μ:Mu} {w:World} {k rb:Nat} {p:List Nat} (h0:μ.adr k=none) (a:AV) (v:Value) (hn:NoRoot k a) (hv:VR μ w a v):VR (Mu.re μ (adI μ k rb p)) w a v:=
 VR.re (G:=NoRoot k) (fun b' p' n sz ty cs hg=>⟨fun x hx=>by
  unfold adI
  rw[if_neg (fun e=>by subst e;rw[h0] at hx;cases hx),hx]
  simp only
  rw[if_neg hg.1],hg.2⟩) (fun _ _ _ h=>h) (fun _ _ _ h=>h) (fun _ _ h=>h) (fun _ _ h=>h) (fun _ _ _ h=>h) a v hn hv
def readr (k rb:Nat) (p:List Nat):AV→AV
 | .own b q n sz ty cs=> .own (if b=k then rb else b) (if b=k then p++q else q) n sz ty (fun i=>readr k rb p (cs i))
 |a=>a
def ReOK (k:Nat):AV→Prop
 | .own _ _ n sz _ cs=>∀i,i<n*sz→ReOK k (cs i)
 |a=>NoRoot k a
theorem VR.reI {μ:Mu} {w:World} {k rb:Nat} {p:List Nat} (h0:μ.adr k=none):∀(a:AV) (v:Value),ReOK k a→VR μ w a v→VR (Mu.re μ (adI μ k rb p)) w (readr k rb p a) v:=by
 intro a
 induction a with
 |own b q n sz ty cs ih=>
  rintro v hg (h|⟨x,B,arr,cap,hk,hb,hv,hf,e,hL,hc,ha,hs,hE,hi⟩)
  ·exact .inl h
  refine .inr ⟨x,B,arr,cap,?_,hb,hv,hf,e,hL,hc,ha,hs,hE,fun i hi'=>?_⟩
  ·show adI μ k rb p x=_
   unfold adI
   rw[if_neg (fun e=>by subst e;rw[h0] at hk;cases hk),hk]
   simp only
   split<;>rfl
  ·obtain ⟨u,hu,hr⟩:=hi i hi'
   exact ⟨u,hu,ih i u (hg i hi') hr⟩
 |vref c m o=>exact fun v hg hv=>VR.noRoot h0 _ v hg hv
 |sl c m n=>exact fun v hg hv=>VR.noRoot h0 _ v hg hv
 |agg m c=>exact fun v hg hv=>VR.noRoot h0 _ v hg hv
 |tup m c=>exact fun v hg hv=>VR.noRoot h0 _ v hg hv
 |fn f m c=>exact fun v hg hv=>VR.noRoot h0 _ v hg hv
 |_=>exact fun v hg hv=>VR.noRoot h0 _ v trivial hv
def rowC (r:Row) (i0:Nat) (a:AV):Row:=⟨r.ty,r.m,fun i=>if i=i0 then a else r.cells i⟩
section
variable {μ:Mu} {h:Hp} {w:World}
theorem Sim.ownF (s:Sim μ h w) (r:Row) (h0:r.m=0):
 ∃μ',Sim μ' ((μ.nx,r)::h) w∧Step μ w μ' w∧h.get μ.nx=none∧μ'.nx=μ.nx+1∧μ'.f μ.nx=none∧∀x,μ'.f x=μ.f x:=by
 have hnvir:¬μ.vir μ.nx:=fun hh=>Nat.lt_irrefl _ (s.vlt _ hh)
 have hfn:μ.f μ.nx=none:=by
  cases hq:μ.f μ.nx with
  |none=>rfl
  |some B=>have:=(s.lt _ B hq).1;omega
 let μ':Mu:={ f:=μ.f,nx:=μ.nx+1,ban:=μ.ban,vir:=fun x=>x=μ.nx∨μ.vir x,adr:=μ.adr }
 have st:Step μ w μ' w:=by
  refine ⟨⟨by simp[μ'],fun b hb B e=> .inr ⟨B,e,Nat.le_refl _,fun _=>rfl⟩,fun b hb hh=>hh.resolve_left (by omega),fun _=>Iff.rfl,fun g hg _=>rfl,fun g hg=>hg,Nat.le_refl _,rfl,rfl,rfl⟩,fun k a e B f=>⟨e,f,rfl⟩⟩
 refine ⟨μ',⟨fun b q e=>?_,s.inj,fun b B e=>?_,fun b hb=>?_,s.noban,s.banlt,fun k a e=>⟨by
  have:=s.hadr k a e
  simp only[Hp.get]
  rw[if_neg (by omega)]
  exact this.1,Nat.lt_succ_of_lt (s.hadr k a e).2⟩⟩,st,?_,rfl,hfn,fun _=>rfl⟩
 ·simp only[Hp.get] at e
  by_cases hb:μ.nx=b
  ·rw[if_pos hb] at e
   injection e with e
   subst e hb
   exact .inl ⟨.inl rfl,hfn,h0⟩
  ·rw[if_neg hb] at e
   rcases s.row b q e with ⟨hv,hn,h0⟩|⟨B,ds,hnv,h1,h2,h3,h4,h5,h6⟩
   ·exact .inl ⟨.inr hv,hn,h0⟩
   refine .inr ⟨B,ds,fun hh=>hnv (hh.resolve_left fun e=>hb e.symm),h1,h2,h3,h4,h5,fun i hi=>?_⟩
   obtain ⟨u,hu,hv⟩:=h6 i hi
   exact ⟨u,hu,VR.mono st _ _ hv⟩
 ·have:=s.lt b B e;exact ⟨Nat.lt_succ_of_lt this.1,this.2⟩
 ·rcases hb with rfl|hb
  ·exact Nat.lt_succ_self _
  ·exact Nat.lt_succ_of_lt (s.vlt b hb)
 ·cases hq:h.get μ.nx with
  |none=>rfl
  |some q=>
   rcases s.row _ q hq with ⟨hv,_⟩|⟨B,ds,_,h1,_⟩
   ·exact (hnvir hv).elim
   have:=(s.lt _ B h1).1
   omega
theorem Sim.cellC (s:Sim μ h w) {b i0:Nat} {r:Row} {a:AV} (hb:h.get b=some r)
 (hv:∀B arr u,μ.f b=some B→w.heap[B.g]? =some (.cells arr r.ty (0,0))→arr[i0]? =some u→i0<r.m→VR μ w (r.cells i0) u→VR μ w a u):Sim μ (h.upd b (rowC r i0 a)) w:=by
 refine ⟨fun x q e=>?_,s.inj,s.lt,s.vlt,s.noban,s.banlt,fun k a e=>⟨s.hadr_upd e hb,(s.hadr k a e).2⟩⟩
 rw[Hp.get_upd] at e
 by_cases hx:x=b
 ·subst hx
  rw[if_pos rfl,hb] at e
  simp only[Option.map_some,Option.some.injEq] at e
  subst e
  rcases s.row x r hb with h1|⟨B,arr,hnv,h1,h2,h3,h4,h5,h6⟩
  ·exact .inl h1
  ·refine .inr ⟨B,arr,hnv,h1,h2,h3,h4,h5,fun i hi=>?_⟩
   obtain ⟨u,hu,hh⟩:=h6 i hi
   refine ⟨u,hu,?_⟩
   simp only[rowC]
   by_cases hij:i=i0
   ·subst hij
    rw[if_pos rfl]
    exact hv B arr u h1 h3 hu hi hh
   ·rw[if_neg hij];exact hh
 ·rw[if_neg hx] at e
  exact s.row x q e
theorem Sim.pull (s:Sim μ h w) {b i0:Nat} {r:Row} (hb:h.get b=some r) (hi0:i0<r.m) {rb:Nat} {p:List Nat} {n sz:Nat} {ty:TypeId} {cs:Nat→AV} (hc:r.cells i0= .own rb p n sz ty cs)
 (hcs:∀i,i<n*sz→NoAt rb p (cs i)) (hr:∀i,i<r.m→i≠i0→NoAt rb p (r.cells i)) (hh:∀b' r',h.get b'=some r'→b'≠b→∀i,i<r'.m→NoAt rb p (r'.cells i)):
 ∃μ' k,h.get k=none∧Sim μ' ((k,⟨ty,n*sz,cs⟩)::h.upd b (rowC r i0 (.rs k 0 n (n*sz) sz))) w∧WStep μ w μ' w∧∀a v,NoAt rb p a→VR μ w a v→VR μ' w a v:=by
 have hbn:b<μ.nx:=by
  rcases s.row b r hb with ⟨hv,_⟩|⟨B,ds,_,h1,_⟩
  ·exact s.vlt b hv
  ·exact (s.lt _ B h1).1
 have hown:∃B arr u,μ.f b=some B∧w.heap[B.g]? =some (.cells arr r.ty (0,0))∧arr[i0]? =some u∧VR μ w (.own rb p n sz ty cs) u:=by
  rcases s.row b r hb with ⟨_,_,h0⟩|⟨B,arr,_,h1,_,h3,_,_,h6⟩
  ·omega
  ·obtain ⟨u,hu,hv⟩:=h6 i0 hi0
   exact ⟨B,arr,u,h1,h3,hu,by rw[←hc];exact hv⟩
 obtain ⟨B0,arr0,u0,hB0,hA0,hu0,hv0⟩:=hown
 rcases hv0 with ⟨rfl,hx0⟩|⟨k,B,arr,cap,hk,hlt,hvk,hfk,he,hL,hcap,ha,hs,hE,hi⟩
 · -- nothing is hidden: a row of nothing
   obtain ⟨μ',s',st,hn,hnx,hf,hfa⟩:=Sim.ownF s ⟨ty,0*sz,cs⟩ (by simp)
   refine ⟨μ',μ.nx,hn,?_,st.toWStep,fun a v _ hv=>VR.mono st a v hv⟩
   have hne:μ.nx≠b:=by omega
   have hb':Hp.get ((μ.nx,⟨ty,0*sz,cs⟩)::h) b=some r:=by simp only[Hp.get];rw[if_neg hne];exact hb
   have:=Sim.cellC s' (i0:=i0) (a:= .rs μ.nx 0 0 (0*sz) sz) hb' (fun B arr u h1 h3 hu _ _=>by
    rw[hfa,hB0] at h1
    injection h1 with h1
    subst h1
    rw[hA0] at h3
    injection h3 with h3
    injection h3 with h3
    subst h3
    rw[hu0] at hu
    injection hu with hu
    subst hu
    exact ⟨by omega,by simp,fun _=>⟨by simp,rfl,hx0⟩,fun B e=>by rw[hf] at e;cases e⟩)
   simp only[Hp.upd] at this
   rw[if_neg hne] at this
   exact this
 ·have hkb:k≠b:=fun e=>by subst e;rw[(s.hadr k _ hk).1] at hb;cases hb
  let ad:Nat→Option (Nat×List Nat):=fun x=>if x=k then none else μ.adr x
  have keep:∀a v,NoAt rb p a→VR μ w a v→VR (Mu.re μ ad) w a v:=fun a v hn hv=>VR.noAt hk a v hn hv
  have hgk:=(s.hadr k _ hk).1
  refine ⟨Mu.re μ ad,k,hgk,⟨fun x q e=>?_,s.inj,s.lt,s.vlt,s.noban,s.banlt,fun x a e=>?_⟩,Mu.re_w μ w ad,keep⟩
  ·simp only[Hp.get] at e
   by_cases hx:k=x
   ·rw[if_pos hx] at e
    injection e with e
    subst e hx
    refine .inr ⟨B,arr,hvk,hfk,hL,ha,hs,hE,fun i hi'=>?_⟩
    obtain ⟨u,hu,hv⟩:=hi i hi'
    exact ⟨u,hu,keep _ _ (hcs i hi') hv⟩
   ·rw[if_neg hx,Hp.get_upd] at e
    by_cases hxb:x=b
    ·subst hxb
     rw[if_pos rfl,hb] at e
     simp only[Option.map_some,Option.some.injEq] at e
     subst e
     rcases s.row x r hb with h1|⟨B1,arr1,hnv,h1,h2,h3,h4,h5,h6⟩
     ·exact .inl h1
     ·refine .inr ⟨B1,arr1,hnv,h1,h2,h3,h4,h5,fun i hi'=>?_⟩
      obtain ⟨u,hu,hv⟩:=h6 i hi'
      refine ⟨u,hu,?_⟩
      simp only[rowC]
      by_cases hij:i=i0
      ·subst hij
       rw[if_pos rfl]
       rw[hB0] at h1
       injection h1 with h1
       subst h1
       rw[hA0] at h3
       injection h3 with h3
       injection h3 with h3
       subst h3
       rw[hu0] at hu
       injection hu with hu
       subst hu
       refine ⟨hlt,by simp,fun hh=>(hvk hh).elim,fun B' e=>?_⟩
       have e:μ.f k=some B':=e
       rw[hfk] at e
       injection e with e
       subst e
       exact ⟨by omega,fun _=>⟨cap,he,by omega⟩⟩
      ·rw[if_neg hij]
       exact keep _ _ (hr i hi' hij) hv
    ·rw[if_neg hxb] at e
     rcases s.row x q e with h1|⟨B1,arr1,hnv,h1,h2,h3,h4,h5,h6⟩
     ·exact .inl h1
     ·refine .inr ⟨B1,arr1,hnv,h1,h2,h3,h4,h5,fun i hi'=>?_⟩
      obtain ⟨u,hu,hv⟩:=h6 i hi'
      exact ⟨u,hu,keep _ _ (hh x q e hxb i hi') hv⟩
  ·have e:(if x=k then none else μ.adr x)=some a:=e
   by_cases hx:x=k
   ·rw[if_pos hx] at e;cases e
   ·rw[if_neg hx] at e
    refine ⟨?_,(s.hadr x a e).2⟩
    simp only[Hp.get]
    rw[if_neg (fun h=>hx h.symm)]
    exact s.hadr_upd e hb
theorem Sim.push (s:Sim μ h w) {b i0 k:Nat} {r rk:Row} (hb:h.get b=some r) (hk:h.get k=some rk) (hne:k≠b) {n sz:Nat} (hc:r.cells i0= .rs k 0 n rk.m sz) (hm:rk.m=n*sz) (rb:Nat) (p:List Nat)
 (hcs:∀i,i<rk.m→ReOK k (rk.cells i)) (hr:∀i,i<r.m→i≠i0→NoRoot k (r.cells i)) (hh:∀b' r',h.get b'=some r'→b'≠b→b'≠k→∀i,i<r'.m→NoRoot k (r'.cells i)):
 Sim (Mu.re μ (adI μ k rb p)) ((h.del k).upd b (rowC r i0 (.own rb p n sz rk.ty fun i=>readr k rb p (rk.cells i)))) w∧∀a v,NoRoot k a→VR μ w a v→VR (Mu.re μ (adI μ k rb p)) w a v:=by
 have h0:μ.adr k=none:=s.vis hk
 have keep:∀a v,NoRoot k a→VR μ w a v→VR (Mu.re μ (adI μ k rb p)) w a v:=fun a v hn hv=>VR.noRoot h0 a v hn hv
 have hdb:(h.del k).get b=some r:=by rw[Hp.get_del,if_neg (fun e=>hne e.symm)];exact hb
 refine ⟨⟨fun x q e=>?_,s.inj,s.lt,s.vlt,s.noban,s.banlt,fun x a e=>?_⟩,keep⟩
 ·rw[Hp.get_upd] at e
  by_cases hx:x=b
  ·subst hx
   rw[if_pos rfl,hdb] at e
   simp only[Option.map_some,Option.some.injEq] at e
   subst e
   rcases s.row x r hb with h1|⟨B,arr,hnv,h1,h2,h3,h4,h5,h6⟩
   ·exact .inl h1
   ·refine .inr ⟨B,arr,hnv,h1,h2,h3,h4,h5,fun i hi=>?_⟩
    obtain ⟨u,hu,hv⟩:=h6 i hi
    refine ⟨u,hu,?_⟩
    simp only[rowC]
    by_cases hij:i=i0
    ·subst hij
     rw[if_pos rfl]
     rw[hc] at hv
     obtain ⟨v1,_,v3,v4⟩:=hv
     rcases s.row k rk hk with ⟨k1,_,k3⟩|⟨Bk,ak,kv,kf,kL,kh,ks,kE,kc⟩
     ·obtain ⟨_,q2,q3⟩:=v3 k1
      exact .inl ⟨q2,q3⟩
     ·obtain ⟨cap,q1,q2⟩:=(v4 Bk kf).2 kL.symm
      refine .inr ⟨k,Bk,ak,cap,by show adI μ k rb p k=_;unfold adI;rw[if_pos rfl],v1,kv,kf,q1,by rw[kL,hm],by omega,kh,ks,by omega,fun i hi'=>?_⟩
      obtain ⟨u',hu',hv'⟩:=kc i (by omega)
      exact ⟨u',hu',VR.reI h0 _ _ (hcs i (by omega)) hv'⟩
    ·rw[if_neg hij]
     exact keep _ _ (hr i hi hij) hv
  ·rw[if_neg hx,Hp.get_del] at e
   by_cases hxk:x=k
   ·rw[if_pos hxk] at e;cases e
   ·rw[if_neg hxk] at e
    rcases s.row x q e with h1|⟨B,arr,hnv,h1,h2,h3,h4,h5,h6⟩
    ·exact .inl h1
    ·refine .inr ⟨B,arr,hnv,h1,h2,h3,h4,h5,fun i hi=>?_⟩
     obtain ⟨u,hu,hv⟩:=h6 i hi
     exact ⟨u,hu,keep _ _ (hh x q e hx hxk i hi) hv⟩
 ·have e:adI μ k rb p x=some a:=e
  have hkx:k<μ.nx:=by
   rcases s.row k rk hk with ⟨hv,_⟩|⟨B,ds,_,h1,_⟩
   ·exact s.vlt k hv
   ·exact (s.lt _ B h1).1
  by_cases hx:x=k
  ·subst hx
   refine ⟨?_,hkx⟩
   rw[Hp.get_upd,if_neg hne,Hp.get_del,if_pos rfl]
  ·unfold adI at e
   rw[if_neg hx] at e
   cases hq:μ.adr x with
   |none=>rw[hq] at e;cases e
   |some a'=>
    have h1:=s.hadr x a' hq
    refine ⟨?_,h1.2⟩
    rw[Hp.get_upd,if_neg (fun h=>by subst h;rw[h1.1] at hb;cases hb),Hp.get_del,if_neg hx]
    exact h1.1
end
theorem Sim.eqv {μ:Mu} {h h':Hp} {w:World} (s:Sim μ h w) (hs:∀x r,h'.get x=some r→∃r0,h.get x=some r0∧r0.ty=r.ty∧r0.m=r.m∧∀i,i<r.m→r.cells i=r0.cells i):Sim μ h' w:=by
 refine ⟨fun x r e=>?_,s.inj,s.lt,s.vlt,s.noban,s.banlt,fun k a e=>⟨?_,(s.hadr k a e).2⟩⟩
 ·obtain ⟨r0,e0,h1,h2,h3⟩:=hs x r e
  rcases s.row x r0 e0 with ⟨q1,q2,q3⟩|⟨B,arr,hnv,q1,q2,q3,q4,q5,q6⟩
  ·exact .inl ⟨q1,q2,by omega⟩
  ·refine .inr ⟨B,arr,hnv,q1,by omega,by rw[←h1];exact q3,q4,by omega,fun i hi=>?_⟩
   obtain ⟨u,hu,hv⟩:=q6 i (by omega)
   exact ⟨u,hu,by rw[h3 i hi];exact hv⟩
 ·cases hq:h'.get k with
  |none=>rfl
  |some r=>
   obtain ⟨r0,e0,_⟩:=hs k r hq
   rw[(s.hadr k a e).1] at e0
   cases e0
def NoAtE (b:Nat) (p:List Nat) (env:Env):Prop:=∀t v,lk env t=some (true,v)→NoAt b p v
def NoRootE (b:Nat) (env:Env):Prop:=∀t v,lk env t=some (true,v)→NoRoot b v
def NoAtH (rb:Nat) (p:List Nat) (b:Nat) (h:Hp):Prop:=∀b' r',h.get b'=some r'→b'≠b→∀i,i<r'.m→NoAt rb p (r'.cells i)
def NoRootH (k b:Nat) (h:Hp):Prop:=∀b' r',h.get b'=some r'→b'≠b→b'≠k→∀i,i<r'.m→NoRoot k (r'.cells i)
def SameRow (r r':Row):Prop:=r'.ty=r.ty∧r'.m=r.m∧∀i,i<r.m→r'.cells i=r.cells i
section
variable {P:Program} {nt:Nat} {Q:Post} {env:Env} {h:Hp}
theorem TK.pull {c:KC} (nd:Nd h) {j b i0:Nat} {r:Row} (hj:h[j]? =some (b,r)) (hi0:i0<r.m) {rb:Nat} {p:List Nat} {n sz:Nat} {ty:TypeId} {cs:Nat→AV} (hc:r.cells i0= .own rb p n sz ty cs)
 (hcs:∀i,i<n*sz→NoAt rb p (cs i)) (hr:∀i,i<r.m→i≠i0→NoAt rb p (r.cells i)) (hh:NoAtH rb p b h) (he:NoAtE rb p env)
 (r1:Nat→Row) (hr1:∀k,SameRow (rowC r i0 (.rs k 0 n (n*sz) sz)) (r1 k)) (rk:Row) (hrk:SameRow ⟨ty,n*sz,cs⟩ rk)
 (K:∀k,Nd ((k,rk)::h.set j (b,r1 k))→TK P nt c Q env ((k,rk)::h.set j (b,r1 k))):TK P nt c Q env h:=by
 intro c' hcc μ a w s
 obtain ⟨μ',k,hgk,s',st,keep⟩:=Sim.pull s.sim (nd.get hj) hi0 hc hcs hr hh
 obtain ⟨hu,nd'⟩:=nd.upd (r':=r1 k) hj
 obtain ⟨hu2,nd2⟩:=nd.upd (r':=rowC r i0 (.rs k 0 n (n*sz) sz)) hj
 have hbk:k≠b:=fun e=>by subst e;rw[nd.get hj] at hgk;cases hgk
 have hgs:Hp.get (h.set j (b,r1 k)) k=none:=by
  rw[←hu,Hp.get_upd,if_neg hbk];exact hgk
 have nd3:Nd ((k,rk)::h.set j (b,r1 k)):=nd'.cons rk hgs
 have s2:Sim μ' ((k,rk)::h.set j (b,r1 k)) w:=Sim.eqv s' fun x q e=>by
  simp only[Hp.get] at e ⊢
  by_cases hx:k=x
  ·rw[if_pos hx] at e ⊢
   injection e with e
   subst e
   exact ⟨_,rfl,hrk.1.symm,hrk.2.1.symm,fun i hi=>hrk.2.2 i (by rw[hrk.2.1] at hi;exact hi)⟩
  ·rw[if_neg hx] at e ⊢
   rw[←hu,Hp.get_upd] at e
   rw[Hp.get_upd]
   by_cases hxb:x=b
   ·rw[if_pos hxb,nd.get hj] at e ⊢
    simp only[Option.map_some,Option.some.injEq] at e ⊢
    subst e
    exact ⟨_,rfl,(hr1 k).1.symm,(hr1 k).2.1.symm,fun i hi=>(hr1 k).2.2 i (by rw[(hr1 k).2.1] at hi;exact hi)⟩
   ·rw[if_neg hxb] at e ⊢
    exact ⟨q,e,rfl,rfl,fun _ _=>rfl⟩
 have hE:EnvR μ' w env a:=fun t g v e=>⟨fun hg=>by subst hg;exact keep _ _ (he t v e) ((s.env t true v e).1 rfl),(s.env t g v e).2⟩
 refine wp_mono (K k nd3 c' hcc μ' a w ⟨s2,hE,s.size,s.defers⟩) ?_
 rintro e a' w' ⟨μ2,env2,h2,q,s3,st3⟩
 exact ⟨μ2,env2,h2,q,s3,st.trans st3⟩
theorem TK.push {c:KC} (nd:Nd h) {j j2 b i0 k:Nat} {r rk:Row} (hj:h[j]? =some (b,r)) (hj2:h[j2]? =some (k,rk)) (hne:Nat.beq j j2=false) {n sz:Nat} (hc:r.cells i0= .rs k 0 n rk.m sz) (hm:rk.m=n*sz) (rb:Nat) (p:List Nat)
 (hcs:∀i,i<rk.m→ReOK k (rk.cells i)) (hr:∀i,i<r.m→i≠i0→NoRoot k (r.cells i)) (hh:NoRootH k b h) (he:NoRootE k env)
 (r1:Row) (hr1:SameRow (rowC r i0 (.own rb p n sz rk.ty fun i=>readr k rb p (rk.cells i))) r1)
 (K:Nd ((h.set j (b,r1)).eraseIdx j2)→TK P nt c Q env ((h.set j (b,r1)).eraseIdx j2)):TK P nt c Q env h:=by
 intro c' hcc μ a w s
 have hjj:j≠j2:=Nat.ne_of_beq_eq_false hne
 have hbk:k≠b:=by
  intro e
  subst e
  exact hjj (nd.inj hj hj2)
 obtain ⟨s',keep⟩:=Sim.push s.sim (nd.get hj) (nd.get hj2) hbk hc hm rb p hcs hr hh
 obtain ⟨hu,nd'⟩:=nd.upd (r':=r1) hj
 have hj2':(h.set j (b,r1))[j2]? =some (k,rk):=by rw[List.getElem?_set_ne hjj];exact hj2
 have s2:Sim (Mu.re μ (adI μ k rb p)) ((h.set j (b,r1)).eraseIdx j2) w:=Sim.eqv s' fun x q e=>by
  obtain ⟨h1,h2⟩:=get_erase nd' hj2' e
  rw[←hu,Hp.get_upd] at h2
  rw[Hp.get_upd]
  by_cases hxb:x=b
  ·rw[if_pos hxb,nd.get hj] at h2
   rw[if_pos hxb,Hp.get_del,if_neg (fun e=>hbk e.symm),nd.get hj]
   simp only[Option.map_some,Option.some.injEq] at h2 ⊢
   subst h2
   exact ⟨_,rfl,hr1.1.symm,hr1.2.1.symm,fun i hi=>hr1.2.2 i (by rw[hr1.2.1] at hi;exact hi)⟩
  ·rw[if_neg hxb] at h2
   rw[if_neg hxb,Hp.get_del,if_neg h1]
   exact ⟨q,h2,rfl,rfl,fun _ _=>rfl⟩
 have hE:EnvR (Mu.re μ (adI μ k rb p)) w env a:=fun t g v e=>⟨fun hg=>by subst hg;exact keep _ _ (he t v e) ((s.env t true v e).1 rfl),(s.env t g v e).2⟩
 refine wp_mono (K (nd'.erase j2) c' hcc _ a w ⟨s2,hE,s.size,s.defers⟩) ?_
 rintro e a' w' ⟨μ2,env2,h2,q,s3,st3⟩
 exact ⟨μ2,env2,h2,q,s3,(Mu.re_w μ w _).trans st3⟩
end
end Go.AX

namespace Go.AX
open Go.AM Go.RowKit
instance {α:Type} [Enc α] (x:α):NoL (Enc.cl x):=⟨fun i hi=>by
 simp only[ofL,List.getD_eq_getElem?_getD,List.getElem?_eq_getElem hi,Option.getD_some]
 exact (Enc.val x _ (List.getElem_mem hi)).no⟩
instance {α:Type} [Enc α] (xs:List α):NoA (L xs):=⟨(v_val (α:=List α) xs).no⟩
instance {α:Type} [Enc α] (b:Nat) (xs:List α) (i:Int) (o:Nat):NoA (OP b xs i o):=⟨trivial⟩
instance {α:Type} [Enc α] (xs:List α) (i:Int) (o:Nat):NoA (EP xs i o):=⟨fun j _=>(rowL_val Enc.pos (fun x d _=>ec_val x d) j).no⟩
instance:NoE []:=⟨fun t v e=>by cases e⟩
instance (t:Nat) (g:Bool) (v:AV) (e:Env) [hv:NoA v] [he:NoE e]:NoE ((t,g,v)::e):=⟨fun s u h=>by
 simp only[lk] at h
 by_cases hx:t=s
 ·rw[if_pos hx] at h;injection h with h;injection h with _ h;subst h;exact hv.no
 ·rw[if_neg hx] at h;exact he.no s u h⟩
theorem NoE.c {t:Nat} {g:Bool} {v:AV} {e:Env} [hv:NoA v] (he:NoE e):NoE ((t,g,v)::e):=inferInstance
instance (d:Option Nat) (g:Bool) (v:AV) (e:Env) [hv:NoA v] [he:NoE e]:NoE (putE d g v e):=by
 cases d with
 |none=>exact he
 |some d=>exact inferInstanceAs (NoE ((d,g,v)::e))
theorem NoE.p {d:Option Nat} {g:Bool} {v:AV} {e:Env} [hv:NoA v] (he:NoE e):NoE (putE d g v e):=inferInstance
instance (n:Nat) (l:List AV) [hl:NoL l]:NoE (argsE n l):=⟨fun t v e=>by
 obtain ⟨_,h1,h2,rfl⟩:=argsE_at l n t true v e
 exact hl.no _ (by omega)⟩
class NoHi (h:Hp):Prop where
 no:∀(i b:Nat) (r:Row),h[i]? =some (b,r)→∀q,q<r.m→NO (r.cells q)
class NoHx (j:Nat) (h:Hp):Prop where
 no:∀(i b:Nat) (r:Row),h[i]? =some (b,r)→i≠j→∀q,q<r.m→NO (r.cells q)
instance:NoHi []:=⟨fun i b r e=>by simp at e⟩
instance (b:Nat) (r:Row) (h:Hp) [hr:NoR r] [hh:NoHi h]:NoHi ((b,r)::h):=⟨fun i b' r' e q hq=>by
 cases i with
 |zero=>simp only[List.getElem?_cons_zero,Option.some.injEq,Prod.mk.injEq] at e;obtain ⟨rfl,rfl⟩:=e;exact hr.no q hq
 |succ i=>exact hh.no i b' r' (by simpa using e) q hq⟩
instance (b:Nat) (r:Row) (h:Hp) [hh:NoHi h]:NoHx 0 ((b,r)::h):=⟨fun i b' r' e hi q hq=>by
 cases i with
 |zero=>exact (hi rfl).elim
 |succ i=>exact hh.no i b' r' (by simpa using e) q hq⟩
instance (j b:Nat) (r:Row) (h:Hp) [hr:NoR r] [hh:NoHx j h]:NoHx (j+1) ((b,r)::h):=⟨fun i b' r' e hi q hq=>by
 cases i with
 |zero=>simp only[List.getElem?_cons_zero,Option.some.injEq,Prod.mk.injEq] at e;obtain ⟨rfl,rfl⟩:=e;exact hr.no q hq
 |succ i=>exact hh.no i b' r' (by simpa using e) (by omega) q hq⟩
theorem get_at {h:Hp} {b:Nat} {r:Row} (e:h.get b=some r):∃i:Nat,h[i]? =some (b,r):=by
 induction h with
 |nil=>cases e
 |cons p h ih=>
  obtain ⟨x,q⟩:=p
  simp only[Hp.get] at e
  by_cases hx:x=b
  ·rw[if_pos hx] at e;injection e with e;subst e hx;exact ⟨0,rfl⟩
  ·rw[if_neg hx] at e
   obtain ⟨i,hi⟩:=ih e
   exact ⟨i+1,by simpa using hi⟩
theorem NoHx.get {h:Hp} (_:Nd h) {j b:Nat} {r:Row} (hj:h[j]? =some (b,r)) [hx:NoHx j h] {b':Nat} {r':Row} (e:h.get b'=some r') (hne:b'≠b):∀q,q<r'.m→NO (r'.cells q):=by
 obtain ⟨i,hi⟩:=get_at e
 refine hx.no i b' r' hi fun hh=>?_
 subst hh
 rw[hj] at hi
 injection hi with hi
 injection hi with h1 _
 exact hne h1.symm
section
variable {β:Type} [Enc β]
def hidL (b:Nat) (p:List Nat) (ty:TypeId) (x:List β):AV:= .own b p x.length (Enc.sz β) ty (rowL (Enc.sz β) ec x)
def RD (ty tyi:TypeId) (b:Nat) (xs:List (List β)):Row:=⟨ty,xs.length*Enc.sz (List β),fun i=>hidL b [i] tyi (xs.getD i [])⟩
theorem RD_m {ty tyi:TypeId} {b:Nat} {xs:List (List β)}:(RD ty tyi b xs).m=xs.length:=Nat.mul_one _
instance (ty tyi:TypeId) (b:Nat):NoR (RD (β:=β) ty tyi b []):=⟨fun i hi=>by simp[RD] at hi⟩
theorem rowL_no (xs:List β) (i:Nat):NO (rowL (Enc.sz β) ec xs i):=(rowL_val Enc.pos (fun x d _=>ec_val x d) i).no
theorem dI_at {b b':Nat} {p p':List Nat} {ty:TypeId} {x:List β} (h:¬(b'=b∧p'=p)):NoAt b p (hidL b' p' ty x):=⟨h,fun i _=>NO.at (rowL_no x i)⟩
theorem dI_root {b b':Nat} {p':List Nat} {ty:TypeId} {x:List β} (h:b'≠b):NoRoot b (hidL b' p' ty x):=⟨h,fun i _=>NO.root (rowL_no x i)⟩
theorem readr_val {k rb:Nat} {p:List Nat} {a:AV} (h:NO a):readr k rb p a=a:=by
 cases a with
 |own=>exact (show False from h).elim
 |_=>rfl
theorem reOK_no {k:Nat} {a:AV} (h:NO a):ReOK k a:=by
 cases a with
 |own=>exact (show False from h).elim
 |_=>exact NO.root h
variable {P:Program} {nt:Nat} {Q:Post} {env:Env} {h:Hp}
theorem TK.pushD {c:KC} (nd:Nd h) (i:Nat) {j j2 b k:Nat} {ty tyi:TypeId} {xs:List (List β)} {x y:List β} (hj:h[j]? =some (b,rowC (RD ty tyi b xs) i (OL k x))) (hj2:h[j2]? =some (k,RL tyi y)) (hne:Nat.beq j j2=false) (hl:y.length=x.length) (hi:i<xs.length)
 [hn:NoHx j h] [he:NoE env] (K:Nd ((h.set j (b,RD ty tyi b (xs.set i y))).eraseIdx j2)→TK P nt c Q env ((h.set j (b,RD ty tyi b (xs.set i y))).eraseIdx j2)):TK P nt c Q env h:=by
 have hbk:b≠k:=fun e=>by
  subst e
  have:=nd.inj hj hj2
  rw[this,show Nat.beq j2 j2=true from Nat.beq_refl j2] at hne;cases hne
 refine TK.push nd hj hj2 hne (i0:=i) (n:=y.length) (sz:=Enc.sz β) (by simp only[rowC,if_true];show OL k x= .rs k 0 y.length (y.length*Enc.sz β) (Enc.sz β);unfold OL;rw[hl]) rfl b [i]
  (fun q _=>reOK_no (rowL_no y q)) (fun q _ hq=>by
    simp only[rowC]
    rw[if_neg hq]
    exact dI_root hbk) (fun b' r' e h1 _ q hq=>NO.root (NoHx.get nd hj e h1 q hq)) (fun t v e=>NO.root (he.no t v e)) (RD ty tyi b (xs.set i y)) ⟨rfl,by simp[RD,rowC],fun q hq=>?_⟩ K
 simp only[rowC,RD]
 by_cases hqi:q=i
 ·subst hqi
  rw[if_pos rfl]
  have:(xs.set q y).getD q []=y:=by simp[List.getD_eq_getElem?_getD,hi]
  rw[this]
  show hidL b [q] tyi y=_
  unfold hidL
  congr 1
  funext z
  exact (readr_val (rowL_no y z)).symm
 ·rw[if_neg hqi,if_neg hqi]
  have:(xs.set i y).getD q []=xs.getD q []:=by simp[List.getD_eq_getElem?_getD,List.getElem?_set_ne (fun e=>hqi e.symm)]
  rw[this]
theorem TK.pushA {c:KC} (nd:Nd h) {j j2 b k:Nat} {ty tyi:TypeId} {xs:List (List β)} {x:List β} (hj:h[j]? =some (b,rowC (RD ty tyi b (xs++[x])) xs.length (OL k x))) (hj2:h[j2]? =some (k,RL tyi x)) (hne:Nat.beq j j2=false)
 [hn:NoHx j h] [he:NoE env] (K:Nd ((h.set j (b,RD ty tyi b (xs++[x]))).eraseIdx j2)→TK P nt c Q env ((h.set j (b,RD ty tyi b (xs++[x]))).eraseIdx j2)):TK P nt c Q env h:=by
 have e:(xs++[x]).set xs.length x=xs++[x]:=by simp
 refine TK.pushD nd xs.length hj hj2 hne rfl (by simp) ?_
 rw[e]
 exact K
variable {C:Cx} {K:Env→Hp→Prop} {gc gx gy:Bool} {t:TypeId} {x y:AM.X} {α:Type} [Enc α]
theorem p_iaD {e:TypeId} {ei:TI} {xs:List α} {k:IntKind} {i:Int} {b:Nat} {r:Row} (hk:C.kd t=some (.slc e)) (he:C.ty e=some ei) (hs:ei.sz=Enc.sz α) (hx:ev env x=(gx,OL b xs)) (hy:ev env y=(gy,.int k i))
 (nd:Nd h) {j:Nat} (hj:h[j]? =some (b,r)) (hm:xs.length*Enc.sz α=r.m)
 {a:α} (hi:gc=true→getI xs i=some a) (hg:gc=true→gx=true∧gy=true:=by first|exact fun _=>⟨rfl,rfl⟩|simp_all):PVok C h env (.ia t x y) gc (OP b xs i 0):=by
 refine pvE (S:=(gx=true∧gy=true)∧(0≤i∧i<xs.length)∧refOK h b (xs.length*Enc.sz α)) ?_ fun e=>?_
 ·simp only[pv,hx,hy,iaA,hk,he]
  show (AV.ref _ (0+i.toNat*ei.sz) _,_)=_
  rw[hs,Nat.zero_add];rfl
 ·obtain ⟨h1,h2,_⟩:=getI_in (hi e)
  exact ⟨hg e,⟨h1,h2⟩,refOK_of nd hj hm⟩
theorem p_ldC {xs:List (List β)} {i:Int} {b:Nat} {a:AV} {r:Row} {ti:TI} (ht:C.ty t=some ti) (hk:ti.known=true) (hx:ev env x=(gx,OP b xs i 0)) (nd:Nd h) {j:Nat} (hj:h[j]? =some (b,rowC r i.toNat a)) (hm:xs.length*Enc.sz (List β)=r.m)
 {z:List β} (hi:gc=true→getI xs i=some z) (ha:ti.isAgg=false) (hs:ti.sz=1) (hg:gc=true→gx=true:=by first|exact fun _=>rfl|simp_all):PVok C h env (.ld t x) gc a:=fun e=>by
 have hr:=nd.get hj
 have hz:Enc.sz (List β)=1:=rfl
 have:pv C h env (.ld t x)=(partA ti (rowC r i.toNat a).cells (i.toNat*Enc.sz (List β)+0),gx=true∧ti.known=true∧xs.length*Enc.sz (List β)=(rowC r i.toNat a).m∧i.toNat*Enc.sz (List β)+0+ti.sz≤(rowC r i.toNat a).m∧(ti.isAgg=false→ti.sz=1)):=by
  simp only[pv,hx,loadA,ht,OP,hr]
 rw[this]
 obtain ⟨h1,h2,_⟩:=getI_in (hi e)
 refine ⟨?_,hg e,hk,hm,?_,fun _=>hs⟩
 ·simp only[partA,ha,rowC]
  rw[hz,Nat.mul_one,Nat.add_zero,if_pos rfl]
  rfl
 ·show _≤r.m
  rw[←hm,hz,hs]
  omega
theorem Sim.toD {μ:Mu} {w:World} (s:Sim μ h w) (nd:Nd h) {j b:Nat} {ty tyi:TypeId} (hj:h[j]? =some (b,RL ty ([]:List (List β)))):Sim μ (h.set j (b,RD ty tyi b ([]:List (List β)))) w:=by
 obtain ⟨hu,_⟩:=nd.upd (r':=RD ty tyi b ([]:List (List β))) hj
 refine Sim.eqv s fun x r e=>?_
 rw[←hu,Hp.get_upd] at e
 by_cases hx:x=b
 ·subst hx
  rw[if_pos rfl,nd.get hj] at e
  simp only[Option.map_some,Option.some.injEq] at e
  subst e
  exact ⟨_,nd.get hj,rfl,by simp[RL,RD],fun i hi=>by simp[RD] at hi⟩
 ·rw[if_neg hx] at e
  exact ⟨r,e,rfl,rfl,fun _ _=>rfl⟩
theorem TK.toD {c:KC} (tyi:TypeId) (nd:Nd h) {j b:Nat} {ty:TypeId} (hj:h[j]? =some (b,RL ty ([]:List (List β)))) (k:Nd (h.set j (b,RD ty tyi b ([]:List (List β))))→TK P nt c Q env (h.set j (b,RD ty tyi b ([]:List (List β))))):TK P nt c Q env h:=
 fun c' hc μ a w s=>k (nd.upd hj).2 c' hc μ a w ⟨Sim.toD s.sim nd hj,s.env,s.size,s.defers⟩
end
def inR (μ:Mu) (b x:Nat):Bool:=x==b||match μ.adr x with
 |some (c,_)=>c==b
 |none=>false
def Mu.lessD (μ:Mu) (b:Nat):Mu:={ f:=fun x=>if inR μ b x=true then none else μ.f x,nx:=μ.nx,ban:=μ.ban,vir:=fun x=>inR μ b x=false∧μ.vir x,adr:=fun x=>if inR μ b x=true then none else μ.adr x }
theorem lessD_f {μ:Mu} {b x:Nat} {B:Blk} (h:(Mu.lessD μ b).f x=some B):inR μ b x=false∧μ.f x=some B:=by
 simp only[Mu.lessD] at h
 cases hx:inR μ b x
 ·rw[hx,if_neg (by decide)] at h;exact ⟨rfl,h⟩
 ·rw[hx,if_pos rfl] at h;cases h
theorem lessD_w (μ:Mu) (w:World) (b:Nat):WStep μ w (Mu.lessD μ b) w:=
 ⟨Nat.le_refl _,fun _ _ B h=> .inr ⟨B,(lessD_f h).2,Nat.le_refl _,fun _=>rfl⟩,fun _ _ h=>h.2,fun _=>Iff.rfl,fun _ _ _=>rfl,fun _ h=>⟨h.1,h.2.1,fun _ _ e=>h.2.2 _ _ (lessD_f e).2⟩,Nat.le_refl _,rfl,rfl,rfl⟩
theorem VR.lessD {μ:Mu} {w:World} {b:Nat} (a:AV) (v:Value) (hn:NO a) (hv:VR μ w a v):VR (Mu.lessD μ b) w a v:=
 VR.weak (μ:=μ) (μ':=Mu.lessD μ b) (Nat.le_refl _) (fun _ _ e=>(lessD_f e).2) (fun _ h=>h.2) (fun _ h=>⟨h.1,h.2.1,fun _ _ e=>h.2.2 _ _ (lessD_f e).2⟩) a v hn hv
section
variable {β:Type} [Enc β] {μ:Mu} {h:Hp} {w:World}
theorem sealedD (s:Sim μ h w) {b x:Nat} {B:Blk} (hx:inR μ b x=true) (hf:μ.f x=some B):Sealed (Mu.lessD μ b) w B.g:=
 ⟨(s.lt x B hf).2,s.noban x B hf,fun y B' e hg=>by
   obtain ⟨h1,h2⟩:=lessD_f e
   have:=s.inj y x B' B h2 hf hg
   subst this
   rw[h1] at hx;cases hx⟩
theorem VR.dI (s:Sim μ h w) {b:Nat} {p:List Nat} {ty:TypeId} {x:List β} {v:Value} (hv:VR μ w (AX.hidL b p ty x) v):VR (Mu.lessD μ b) w (L x) v:=by
 rcases hv with ⟨h0,y,rfl⟩|⟨k,B,arr,cap,hk,hlt,hvk,hf,rfl,hL,hc,ha,hs,hE,hi⟩
 ·have hx:x=[]:=List.length_eq_zero_iff.1 h0
  subst hx
  cases y with
  |none=>exact .inl ⟨rfl,by simp,rfl⟩
  |some y=>exact .inr ⟨y,0,rfl,Nat.le_refl _,fun hm=>by simp at hm,fun i hi=>by simp at hi⟩
 ·have hin:inR μ b k=true:=by unfold inR;rw[hk];simp
  refine .inr ⟨_,cap,rfl,?_,fun _=>⟨rfl,sealedD s hin hf⟩,fun i hi'=>?_⟩
  ·have:x.length*Enc.sz β≤cap*Enc.sz β:=by omega
   exact Nat.le_of_mul_le_mul_right this Enc.pos
  ·obtain ⟨u,hu,hh⟩:=hi i hi'
   exact ⟨u,by simp[World.cell?,ha,hu],VR.lessD _ _ (rowL_no x i) hh⟩
end
section
variable {β:Type} [Enc β] {P:Program} {nt:Nat} {Q:Post} {env:Env} {h:Hp}
end
section
variable {C:Cx} {nt:Nat} {env:Env} {h:Hp} {K:Env→Hp→Prop} {t:TypeId} {x y:AM.X} {β:Type} [Enc β]
theorem TL.appD {d b f:Nat} {t' e tyi:TypeId} {ei:TI} {xs:List (List β)} {ys:List β} {ks:List KO} (nd:Nd h) (hk:C.kd t=some (.slc e)) (hk':bytesOK C t') (he:C.ty e=some ei) (hs:ei.sz=1) (hx:ev env x=(true,OL b xs))
 {j:Nat} (hj:h[j]? =some (b,RD e tyi b xs)) {j2:Nat} {tyf:TypeId} (hj2:h[j2]? =some (f,RL tyf ys)) (hy:ev env y=(true,.sl (ofL [OL f ys]) 1 1)) (hby:0<ei.by') (hlim:(xs.length+([ys]:List (List β)).length)*ei.by'≤140737488355328) (hd:Nat.ble (d+1) nt=true)
 (rest:Nd (h.set j (b,rowC (RD e tyi b (xs++[ys])) xs.length (OL f ys)))→TL C.P nt ks K ((d,true,OL b (xs++[ys]))::env) (h.set j (b,rowC (RD e tyi b (xs++[ys])) xs.length (OL f ys)))):
 TL C.P nt (⟨some d,none,.bi .append [t,t'] [x,y]⟩::ks) K env h:=by
 have hz:Enc.sz (List β)=1:=rfl
 have hx':ev env x=(true,.rs b 0 xs.length (RD e tyi b xs).m ei.sz):=by rw[hx,hs];rfl
 have hr2:refOK h f (ys.length*Enc.sz β):=refOK_of nd hj2 rfl
 refine TL.app (n:=1) (pc:=ofL [OL f ys]) (S:=1*ei.sz≤1) (r:=RD e tyi b xs) rfl rfl (dlt hd) hk hk' he hx' (nd.get hj) rfl (by rw[hs];rfl) (by rw[hy]) (by rw[hy];simp only[srcA]) (by rw[hs];omega) (by omega) hby hlim (fun k hk=>?_) ?_
 ·rw[hs] at hk
  obtain rfl:k=0:=by omega
  exact hr2
 ·refine TL.setrow (q:=⟨e,(RD e tyi b xs).m+1*ei.sz,appC (RD e tyi b xs).cells (RD e tyi b xs).m (ofL [OL f ys]) (1*ei.sz)⟩) (q':=rowC (RD e tyi b (xs++[ys])) xs.length (OL f ys)) nd hj rfl (by simp[rowC,RD,hs,hz]) (fun i hi=>?_) fun nd1=>?_
  ·simp only[RD_m,hs] at hi
   simp only[rowC,appC,RD_m,hs]
   by_cases h1:i=xs.length
   ·subst h1
    rw[if_pos rfl,if_neg (by omega),if_pos (by omega),Nat.sub_self]
    rfl
   ·rw[if_neg h1,if_pos (by omega)]
    simp only[RD]
    have:(xs++[ys]).getD i []=xs.getD i []:=by
     rw[List.getD_eq_getElem?_getD,List.getD_eq_getElem?_getD,List.getElem?_append_left (by omega)]
    rw[this]
  ·have:=rest nd1
   simp only[putE,RD_m,hs]
   simpa[OL,hz] using this
end
end Go.AX

namespace Go.AX
open Go.AM Go.RowKit
section
variable {P:Program} {nt:Nat} {Q:Post} {env:Env} {h:Hp}
end
end Go.AX

namespace Go.AX
open Go.AM Go.RowKit
class NoHx2 (j j2:Nat) (h:Hp):Prop where
 no:∀(i b:Nat) (r:Row),h[i]? =some (b,r)→i≠j→i≠j2→∀q,q<r.m→NO (r.cells q)
instance (j b:Nat) (r:Row) (h:Hp) [hh:NoHx j h]:NoHx2 0 (j+1) ((b,r)::h):=⟨fun i b' r' e h1 h2 q hq=>by
 cases i with
 |zero=>exact (h1 rfl).elim
 |succ i=>exact hh.no i b' r' (by simpa using e) (by omega) q hq⟩
instance (j b:Nat) (r:Row) (h:Hp) [hh:NoHx j h]:NoHx2 (j+1) 0 ((b,r)::h):=⟨fun i b' r' e h1 h2 q hq=>by
 cases i with
 |zero=>exact (h2 rfl).elim
 |succ i=>exact hh.no i b' r' (by simpa using e) (by omega) q hq⟩
instance (j j2 b:Nat) (r:Row) (h:Hp) [hr:NoR r] [hh:NoHx2 j j2 h]:NoHx2 (j+1) (j2+1) ((b,r)::h):=⟨fun i b' r' e h1 h2 q hq=>by
 cases i with
 |zero=>simp only[List.getElem?_cons_zero,Option.some.injEq,Prod.mk.injEq] at e;obtain ⟨rfl,rfl⟩:=e;exact hr.no q hq
 |succ i=>exact hh.no i b' r' (by simpa using e) (by omega) (by omega) q hq⟩
section
variable {β:Type} [Enc β]
variable {P:Program} {nt:Nat} {Q:Post} {env:Env} {h:Hp}
theorem rowIn_RD {ty tyi:TypeId} {b:Nat} {xs:List (List β)}:rowIn h (RD ty tyi b xs):=fun _ _=>fun q _=>inH_val (rowL_val Enc.pos (fun x d _=>ec_val x d) q)
end
section
variable {C:Cx} {nt:Nat} {env:Env} {h:Hp} {K:Env→Hp→Prop} {t:TypeId} {x y:AM.X} {β:Type} [Enc β]
end
end Go.AX

namespace Go.AX
open Go.AM Go.RowKit
class DS (α:Type) [Enc α] (β:outParam Type) [Enc β] where
 get:α→List (List β)
 put:α→List (List β)→α
 o:Nat
 ho:o<Enc.sz α
 cell:∀a,(Enc.cl a)[o]? =some (L (get a))
 cput:∀a x,Enc.cl (put a x)=(Enc.cl a).set o (L x)
 gput:∀a x,get (put a x)=x
section
variable {β:Type} [Enc β]
def hidM (b:Nat) (p:List Nat) (t1 t2:TypeId) (xs:List (List β)):AV:= .own b p xs.length 1 t1 (fun q=>hidL b (p++[q]) t2 (xs.getD q []))
def RDa (t1 t2:TypeId) (b:Nat) (p:List Nat) (xs:List (List β)):Row:=⟨t1,xs.length*Enc.sz (List β),fun q=>hidL b (p++[q]) t2 (xs.getD q [])⟩
theorem RDa_m {t1 t2:TypeId} {b:Nat} {p:List Nat} {xs:List (List β)}:(RDa t1 t2 b p xs).m=xs.length:=Nat.mul_one _
theorem hidM_at {b b':Nat} {p p':List Nat} {t1 t2:TypeId} {xs:List (List β)} (h:¬(b'=b∧p'=p)) (h2:∀q,q<xs.length→¬(b'=b∧p'++[q]=p)):NoAt b p (hidM b' p' t1 t2 xs):=
 ⟨h,fun q hq=>dI_at (h2 q (by simpa using hq))⟩
theorem hidM_root {b b':Nat} {p':List Nat} {t1 t2:TypeId} {xs:List (List β)} (h:b'≠b):NoRoot b (hidM b' p' t1 t2 xs):=⟨h,fun _ _=>dI_root h⟩
theorem readr_hidL {k rb b:Nat} {p q:List Nat} {t:TypeId} {x:List β} (h:b≠k):readr k rb p (hidL b q t x)=hidL b q t x:=by
 unfold hidL
 simp only[readr]
 rw[if_neg h,if_neg h]
 congr 1
 funext z
 exact readr_val (rowL_no x z)
theorem readr_hidL0 {k rb:Nat} {p q:List Nat} {t:TypeId} {x:List β}:readr k rb p (hidL k q t x)=hidL rb (p++q) t x:=by
 unfold hidL
 simp only[readr]
 rw[if_pos trivial,if_pos trivial]
 congr 1
 funext z
 exact readr_val (rowL_no x z)
theorem reOK_hidL {k b:Nat} {q:List Nat} {t:TypeId} {x:List β}:ReOK k (hidL b q t x):=fun z _=>reOK_no (rowL_no x z)
variable {α:Type} [Enc α] [DS α β]
def dT (a:α) (b:Nat) (p:List Nat) (t1 t2:TypeId) (d:Nat):AV:=if d=DS.o α then hidM b p t1 t2 (DS.get a) else ec a d
def RT (ty t1 t2:TypeId) (b:Nat) (pf:Nat→Bool) (xs:List α):Row:=⟨ty,xs.length*Enc.sz α,fun i=>match xs[i/Enc.sz α]? with
 |some a=>if pf (i/Enc.sz α)=true then dT a b [i/Enc.sz α] t1 t2 (i%Enc.sz α) else ec a (i%Enc.sz α)
 |none=> .junk⟩
def allT (_:Nat):Bool:=true
instance (ty t1 t2:TypeId) (b:Nat) (pf:Nat→Bool):NoR (RT (α:=α) ty t1 t2 b pf []):=⟨fun i hi=>by simp[RT] at hi⟩
theorem ec_no (a:α) (d:Nat):NO (ec a d):=by
 by_cases hd:d<Enc.sz α
 ·exact (ec_val a d).no
 ·have:ec a d= .junk:=by
   unfold ec ofL
   rw[List.getD_eq_getElem?_getD,List.getElem?_eq_none (by rw[Enc.len];omega)]
   rfl
  rw[this]
  trivial
theorem div_o {s i o:Nat} (h:o<s):(i*s+o)/s=i∧(i*s+o)%s=o:=by
 have hs:0<s:=by omega
 constructor
 ·rw[Nat.mul_comm,Nat.mul_add_div hs,Nat.div_eq_of_lt h,Nat.add_zero]
 ·rw[Nat.mul_comm,Nat.mul_add_mod,Nat.mod_eq_of_lt h]
theorem split_o {s c i o:Nat} (h1:c/s=i) (h2:c%s=o):c=i*s+o:=by
 rw[←h1,←h2,Nat.mul_comm];exact (Nat.div_add_mod _ _).symm
theorem RT_o {ty t1 t2:TypeId} {pf:Nat→Bool} {b i:Nat} {xs:List α} {a:α} (h:xs[i]? =some a) (hp:pf i=true):(RT ty t1 t2 b pf xs).cells (i*Enc.sz α+DS.o α)=hidM b [i] t1 t2 (DS.get a):=by
 obtain ⟨e1,e2⟩:=div_o (i:=i) (DS.ho (α:=α))
 simp only[RT,e1,e2,h,dT,hp,if_true]
theorem RT_ne {ty t1 t2:TypeId} {pf:Nat→Bool} {b i c:Nat} {xs:List α} (hc:c≠i*Enc.sz α+DS.o α) {r:List Nat}:NoAt b (i::r) ((RT ty t1 t2 b pf xs).cells c):=by
 simp only[RT]
 cases hx:xs[c/Enc.sz α]? with
 |none=>trivial
 |some a=>
  simp only[dT]
  split
  case isFalse=>exact NO.at (ec_no a _)
  by_cases ho:c%Enc.sz α=DS.o α
  ·rw[if_pos ho]
   have hne:c/Enc.sz α≠i:=fun e=>hc (split_o e ho)
   exact hidM_at (fun e=>hne (by injection e.2)) (fun q _ e=>hne (by have:=e.2;injection this))
  ·rw[if_neg ho]
   exact NO.at (ec_no a _)
theorem RT_root {ty t1 t2:TypeId} {pf:Nat→Bool} {b k c:Nat} {xs:List α} (h:b≠k):NoRoot k ((RT ty t1 t2 b pf xs).cells c):=by
 simp only[RT]
 cases hx:xs[c/Enc.sz α]? with
 |none=>trivial
 |some a=>
  simp only[dT]
  split
  ·split
   ·exact hidM_root h
   ·exact NO.root (ec_no a _)
  ·exact NO.root (ec_no a _)
theorem o_lt {i n:Nat} (h:i<n):i*Enc.sz α+DS.o α<n*Enc.sz α:=by
 have h1:=DS.ho (α:=α)
 have h2:(i+1)*Enc.sz α≤n*Enc.sz α:=Nat.mul_le_mul_right _ h
 rw[Nat.add_mul] at h2
 omega
variable {P:Program} {nt:Nat} {Q:Post} {env:Env} {h:Hp}
theorem NoHx2.get {h:Hp} {j j2 b b2:Nat} {r r2:Row} (hj:h[j]? =some (b,r)) (hj2:h[j2]? =some (b2,r2)) [hx:NoHx2 j j2 h] {b':Nat} {r':Row} (e:h.get b'=some r') (h1:b'≠b) (h2:b'≠b2):∀q,q<r'.m→NO (r'.cells q):=by
 obtain ⟨i,hi⟩:=get_at e
 refine hx.no i b' r' hi (fun hh=>?_) (fun hh=>?_)
 ·subst hh
  rw[hj] at hi
  injection hi with hi
  injection hi with h3 _
  exact h1 h3.symm
 ·subst hh
  rw[hj2] at hi
  injection hi with hi
  injection hi with h3 _
  exact h2 h3.symm
theorem TK.pullT {c:KC} (nd:Nd h) (i:Nat) {j b:Nat} {ty t1 t2:TypeId} {pf:Nat→Bool} {xs:List α} {a:α} (hj:h[j]? =some (b,RT ty t1 t2 b pf xs)) (hi:xs[i]? =some a) (hp:pf i=true) [hn:NoHx j h] [he:NoE env]
 (K:∀k,Nd ((k,RDa t1 t2 b [i] (DS.get a))::h.set j (b,rowC (RT ty t1 t2 b pf xs) (i*Enc.sz α+DS.o α) (OL k (DS.get a))))→TK P nt c Q env ((k,RDa t1 t2 b [i] (DS.get a))::h.set j (b,rowC (RT ty t1 t2 b pf xs) (i*Enc.sz α+DS.o α) (OL k (DS.get a))))):TK P nt c Q env h:=by
 have hlt:i<xs.length:=(List.getElem?_eq_some_iff.1 hi).1
 refine TK.pull nd hj (i0:=i*Enc.sz α+DS.o α) (o_lt hlt) (rb:=b) (p:=[i]) (n:=(DS.get a).length) (sz:=1) (ty:=t1) (cs:=fun q=>hidL b ([i]++[q]) t2 ((DS.get a).getD q [])) (RT_o hi hp)
  (fun q _=>dI_at fun hh=>by have:=hh.2;simp at this) (fun q _ hq=>RT_ne hq) (fun b' r' e hne q hq=>NO.at (NoHx.get nd hj e hne q hq)) (fun t v e=>NO.at (he.no t v e))
  (fun k=>rowC (RT ty t1 t2 b pf xs) (i*Enc.sz α+DS.o α) (OL k (DS.get a))) (fun k=>⟨rfl,rfl,fun _ _=>rfl⟩) (RDa t1 t2 b [i] (DS.get a)) ⟨rfl,rfl,fun _ _=>rfl⟩ K
theorem TK.pullI {c:KC} (nd:Nd h) (q:Nat) {j j2 b k i:Nat} {ty t1 t2:TypeId} {pf:Nat→Bool} {xs:List α} {ys:List (List β)} {x:List β} (hj:h[j]? =some (k,RDa t1 t2 b [i] ys)) (hj2:h[j2]? =some (b,rowC (RT ty t1 t2 b pf xs) (i*Enc.sz α+DS.o α) (OL k ys))) (hq:ys[q]? =some x)
 [hn:NoHx2 j j2 h] [he:NoE env]
 (K:∀f,Nd ((f,RL t2 x)::h.set j (k,rowC (RDa t1 t2 b [i] ys) q (OL f x)))→TK P nt c Q env ((f,RL t2 x)::h.set j (k,rowC (RDa t1 t2 b [i] ys) q (OL f x)))):TK P nt c Q env h:=by
 have hlt:q<ys.length:=(List.getElem?_eq_some_iff.1 hq).1
 have hx:ys.getD q []=x:=by rw[List.getD_eq_getElem?_getD,hq];rfl
 refine TK.pull nd hj (i0:=q) (by rw[RDa_m];exact hlt) (rb:=b) (p:=[i]++[q]) (n:=x.length) (sz:=Enc.sz β) (ty:=t2) (cs:=rowL (Enc.sz β) ec x) (by show hidL b ([i]++[q]) t2 (ys.getD q [])=_;rw[hx];rfl)
  (fun z _=>NO.at (rowL_no x z)) (fun z _ hz=>dI_at fun hh=>hz (by have:=hh.2;simp at this;exact this)) (fun b' r' e hne z hz=>?_) (fun t v e=>NO.at (he.no t v e))
  (fun f=>rowC (RDa t1 t2 b [i] ys) q (OL f x)) (fun f=>⟨rfl,rfl,fun _ _=>rfl⟩) (RL t2 x) ⟨rfl,rfl,fun _ _=>rfl⟩ K
 by_cases hb:b'=b
 ·subst hb
  rw[nd.get hj2] at e
  injection e with e
  subst e
  simp only[rowC]
  by_cases hzz:z=i*Enc.sz α+DS.o α
  ·rw[if_pos hzz];trivial
  ·rw[if_neg hzz];exact RT_ne hzz
 ·exact NO.at (NoHx2.get hj hj2 e hne hb z hz)
theorem TK.pushI {c:KC} (nd:Nd h) (q:Nat) {j j2 j3 b k i f:Nat} {ty t1 t2:TypeId} {pf:Nat→Bool} {xs:List α} {ys zs:List (List β)} {x y:List β} (hj:h[j]? =some (k,rowC (RDa t1 t2 b [i] ys) q (OL f x))) (hj2:h[j2]? =some (b,rowC (RT ty t1 t2 b pf xs) (i*Enc.sz α+DS.o α) (OL k zs)))
 (hj3:h[j3]? =some (f,RL t2 y)) (hne:Nat.beq j j3=false) (hne2:Nat.beq j2 j3=false) (hl:y.length=x.length) (hq:q<ys.length) [hn:NoHx2 j j2 h] [he:NoE env]
 (K:Nd ((h.set j (k,RDa t1 t2 b [i] (ys.set q y))).eraseIdx j3)→TK P nt c Q env ((h.set j (k,RDa t1 t2 b [i] (ys.set q y))).eraseIdx j3)):TK P nt c Q env h:=by
 have hbf:b≠f:=fun e=>by
  subst e
  have:=nd.inj hj2 hj3
  rw[this,show Nat.beq j3 j3=true from Nat.beq_refl j3] at hne2;cases hne2
 refine TK.push nd hj hj3 hne (i0:=q) (n:=y.length) (sz:=Enc.sz β) (by simp only[rowC,if_true];show OL f x= .rs f 0 y.length (y.length*Enc.sz β) (Enc.sz β);unfold OL;rw[hl]) rfl b ([i]++[q])
  (fun z _=>reOK_no (rowL_no y z)) (fun z _ hz=>by
    simp only[rowC]
    rw[if_neg hz]
    exact dI_root hbf) (fun b' r' e h1 h2 z hz=>?_) (fun t v e=>NO.root (he.no t v e)) (RDa t1 t2 b [i] (ys.set q y)) ⟨rfl,by simp[RDa,rowC],fun z hz=>?_⟩ K
 ·by_cases hb:b'=b
  ·subst hb
   rw[nd.get hj2] at e
   injection e with e
   subst e
   simp only[rowC]
   by_cases hzz:z=i*Enc.sz α+DS.o α
   ·rw[if_pos hzz];trivial
   ·rw[if_neg hzz];exact RT_root hbf
  ·exact NO.root (NoHx2.get hj hj2 e h1 hb z hz)
 ·simp only[rowC,RDa]
  by_cases hzq:z=q
  ·subst hzq
   rw[if_pos rfl]
   have:(ys.set z y).getD z []=y:=by simp[List.getD_eq_getElem?_getD,hq]
   rw[this]
   show hidL b ([i]++[z]) t2 y=_
   unfold hidL
   congr 1
   funext w
   exact (readr_val (rowL_no y w)).symm
  ·rw[if_neg hzq,if_neg hzq]
   have:(ys.set q y).getD z []=ys.getD z []:=by simp[List.getD_eq_getElem?_getD,List.getElem?_set_ne (fun e=>hzq e.symm)]
   rw[this]
theorem RT_set {ty t1 t2:TypeId} {pf:Nat→Bool} {b i:Nat} {xs:List α} {a:α} (h:xs[i]? =some a) {ys:List (List β)} {c:Nat} (hc:c≠i*Enc.sz α+DS.o α):(RT ty t1 t2 b pf (xs.set i (DS.put a ys))).cells c=(RT ty t1 t2 b pf xs).cells c:=by
 simp only[RT]
 have hlt:i<xs.length:=(List.getElem?_eq_some_iff.1 h).1
 by_cases hci:c/Enc.sz α=i
 ·rw[hci,List.getElem?_set_self hlt,h]
  simp only[dT]
  have ho:¬c%Enc.sz α=DS.o α:=fun e=>hc (split_o hci e)
  rw[if_neg ho,if_neg ho]
  simp only[ite_self]
  unfold ec ofL
  rw[DS.cput,List.getD_eq_getElem?_getD,List.getD_eq_getElem?_getD,List.getElem?_set_ne (fun e=>ho e.symm)]
 ·rw[List.getElem?_set_ne (fun e=>hci e.symm)]
theorem TK.pushT {c:KC} (nd:Nd h) (i:Nat) {j j2 b k:Nat} {ty t1 t2:TypeId} {pf:Nat→Bool} {xs:List α} {a:α} {ys zs:List (List β)} (hj:h[j]? =some (b,rowC (RT ty t1 t2 b pf xs) (i*Enc.sz α+DS.o α) (OL k zs))) (hj2:h[j2]? =some (k,RDa t1 t2 b [i] ys)) (hne:Nat.beq j j2=false)
 (hl:ys.length=zs.length) (hi:xs[i]? =some a) (hp:pf i=true) [hn:NoHx2 j j2 h] [he:NoE env]
 (K:Nd ((h.set j (b,RT ty t1 t2 b pf (xs.set i (DS.put a ys)))).eraseIdx j2)→TK P nt c Q env ((h.set j (b,RT ty t1 t2 b pf (xs.set i (DS.put a ys)))).eraseIdx j2)):TK P nt c Q env h:=by
 have hlt:i<xs.length:=(List.getElem?_eq_some_iff.1 hi).1
 have hbk:b≠k:=fun e=>by
  subst e
  have:=nd.inj hj hj2
  rw[this,show Nat.beq j2 j2=true from Nat.beq_refl j2] at hne;cases hne
 refine TK.push nd hj hj2 hne (i0:=i*Enc.sz α+DS.o α) (n:=ys.length) (sz:=1) (by simp only[rowC,if_true];show OL k zs= .rs k 0 ys.length (ys.length*1) 1;unfold OL;rw[hl];rfl) rfl b [i]
  (fun z _=>reOK_hidL) (fun z _ hz=>by
    simp only[rowC]
    rw[if_neg hz]
    exact RT_root hbk) (fun b' r' e h1 h2 z hz=>NO.root (NoHx2.get hj hj2 e h1 h2 z hz)) (fun t v e=>NO.root (he.no t v e)) (RT ty t1 t2 b pf (xs.set i (DS.put a ys))) ⟨rfl,by simp[RT,rowC],fun z hz=>?_⟩ K
 simp only[rowC]
 by_cases hzo:z=i*Enc.sz α+DS.o α
 ·rw[if_pos hzo,hzo,RT_o (a:=DS.put a ys) (by rw[List.getElem?_set_self hlt]) hp,DS.gput]
  show hidM b [i] t1 t2 ys= .own b [i] ys.length 1 t1 (fun q=>readr k b [i] (hidL b ([i]++[q]) t2 (ys.getD q [])))
  unfold hidM
  congr 1
  funext q
  exact (readr_hidL hbk).symm
 ·rw[if_neg hzo,if_neg hzo]
  exact RT_set hi hzo
theorem TK.pushU {c:KC} (nd:Nd h) {j j2 b k:Nat} {ty t1 t2:TypeId} {pf:Nat→Bool} {xs:List α} {a:α} {ys:List (List β)} (hj:h[j]? =some (b,rowC (RT ty t1 t2 b pf (xs++[a])) (xs.length*Enc.sz α+DS.o α) (OL k ys))) (hj2:h[j2]? =some (k,RD t1 t2 k ys)) (hne:Nat.beq j j2=false)
 (ha:DS.get a=ys) (hp:pf xs.length=true) [hn:NoHx2 j j2 h] [he:NoE env]
 (K:Nd ((h.set j (b,RT ty t1 t2 b pf (xs++[a]))).eraseIdx j2)→TK P nt c Q env ((h.set j (b,RT ty t1 t2 b pf (xs++[a]))).eraseIdx j2)):TK P nt c Q env h:=by
 have hbk:b≠k:=fun e=>by
  subst e
  have:=nd.inj hj hj2
  rw[this,show Nat.beq j2 j2=true from Nat.beq_refl j2] at hne;cases hne
 refine TK.push nd hj hj2 hne (i0:=xs.length*Enc.sz α+DS.o α) (n:=ys.length) (sz:=1) (by simp only[rowC,if_true];rfl) rfl b [xs.length]
  (fun z _=>reOK_hidL) (fun z _ hz=>by
    simp only[rowC]
    rw[if_neg hz]
    exact RT_root hbk) (fun b' r' e h1 h2 z hz=>NO.root (NoHx2.get hj hj2 e h1 h2 z hz)) (fun t v e=>NO.root (he.no t v e)) (RT ty t1 t2 b pf (xs++[a])) ⟨rfl,rfl,fun z hz=>?_⟩ K
 simp only[rowC]
 by_cases hzo:z=xs.length*Enc.sz α+DS.o α
 ·rw[if_pos hzo,hzo,RT_o (a:=a) (by simp) hp,ha]
  show hidM b [xs.length] t1 t2 ys= .own b [xs.length] ys.length 1 t1 (fun q=>readr k b [xs.length] (hidL k [q] t2 (ys.getD q [])))
  unfold hidM
  congr 1
  funext q
  exact readr_hidL0.symm
 ·rw[if_neg hzo,if_neg hzo]
theorem TK.toT {c:KC} (t1 t2:TypeId) (pf:Nat→Bool) (nd:Nd h) {j b:Nat} {ty:TypeId} (hj:h[j]? =some (b,RL ty ([]:List α))) (k:Nd (h.set j (b,RT ty t1 t2 b pf ([]:List α)))→TK P nt c Q env (h.set j (b,RT ty t1 t2 b pf ([]:List α)))):TK P nt c Q env h:=
 fun c' hc μ a w s=>k (nd.upd hj).2 c' hc μ a w ⟨by
  obtain ⟨hu,_⟩:=nd.upd (r':=RT ty t1 t2 b pf ([]:List α)) hj
  refine Sim.eqv s.sim fun x r e=>?_
  rw[←hu,Hp.get_upd] at e
  by_cases hx:x=b
  ·subst hx
   rw[if_pos rfl,nd.get hj] at e
   simp only[Option.map_some,Option.some.injEq] at e
   subst e
   exact ⟨_,nd.get hj,rfl,by simp[RL,RT],fun i hi=>by simp[RT] at hi⟩
  ·rw[if_neg hx] at e
   exact ⟨r,e,rfl,rfl,fun _ _=>rfl⟩,s.env,s.size,s.defers⟩
theorem rowIn_RT {ty t1 t2:TypeId} {pf:Nat→Bool} {b:Nat} {xs:List α}:rowIn h (RT ty t1 t2 b pf xs):=fun i _=>by
 simp only[RT]
 cases hx:xs[i/Enc.sz α]? with
 |none=>trivial
 |some a=>
  simp only[dT]
  split
  ·split
   ·exact fun q _ z _=>inH_val (rowL_val Enc.pos (fun x d _=>ec_val x d) z)
   ·exact inH_val (ec_val a _)
  ·exact inH_val (ec_val a _)
end
section
variable {μ:Mu} {h:Hp} {w:World}
theorem Sim.layG (s:Sim μ h w) (nd:Nd h) {j b:Nat} {r0:Row} (hj:h[j]? =some (b,r0)) [hn:NoHx j h]:Sim (Mu.lessD μ b) (h.eraseIdx j) w:=by
 have hvis:=s.vis (nd.get hj)
 refine ⟨fun x r e=>?_,fun x x' B B' e e' hg=>s.inj x x' B B' (lessD_f e).2 (lessD_f e').2 hg,fun x B e=>s.lt x B (lessD_f e).2,fun x hx=>s.vlt x hx.2,fun x B e=>s.noban x B (lessD_f e).2,s.banlt,fun k a e=>?_⟩
 ·obtain ⟨h1,h2⟩:=get_erase nd hj e
  have hin:inR μ b x=false:=by
   unfold inR
   rw[s.vis h2]
   simp[h1]
  rcases s.row x r h2 with ⟨q1,q2,q3⟩|⟨B,cs,q0,q1,q2,q3,q4,q5,q6⟩
  ·exact .inl ⟨⟨hin,q1⟩,by simp only[Mu.lessD];rw[hin,if_neg (by decide)];exact q2,q3⟩
  ·refine .inr ⟨B,cs,fun hh=>q0 hh.2,by simp only[Mu.lessD];rw[hin,if_neg (by decide)];exact q1,q2,q3,q4,q5,fun i hi=>?_⟩
   obtain ⟨u,hu,hv⟩:=q6 i hi
   exact ⟨u,hu,VR.lessD _ _ (NoHx.get nd hj h2 h1 i hi) hv⟩
 ·have e:(if inR μ b k=true then none else μ.adr k)=some a:=e
  split at e
  ·cases e
  ·have h1:=s.hadr k a e
   refine ⟨?_,h1.2⟩
   cases hq:Hp.get (h.eraseIdx j) k with
   |none=>rfl
   |some q=>
    obtain ⟨_,h3⟩:=get_erase nd hj hq
    rw[h1.1] at h3;cases h3
variable {β:Type} [Enc β]
theorem VR.hidM (s:Sim μ h w) {b:Nat} {p:List Nat} {t1 t2:TypeId} {xs:List (List β)} {v:Value} (hv:VR μ w (AX.hidM b p t1 t2 xs) v):VR (Mu.lessD μ b) w (L xs) v:=by
 have hz:Enc.sz (List β)=1:=rfl
 rcases hv with ⟨h0,y,rfl⟩|⟨k,B,arr,cap,hk,hlt,hvk,hf,rfl,hL,hc,ha,hs,hE,hi⟩
 ·have hx:xs=[]:=List.length_eq_zero_iff.1 h0
  subst hx
  cases y with
  |none=>exact .inl ⟨rfl,by simp,rfl⟩
  |some y=>exact .inr ⟨y,0,rfl,Nat.le_refl _,fun hm=>by simp at hm,fun i hi=>by simp at hi⟩
 ·have hin:inR μ b k=true:=by unfold inR;rw[hk];simp
  refine .inr ⟨_,cap,rfl,by omega,fun _=>⟨rfl,sealedD s hin hf⟩,fun i hi'=>?_⟩
  have hi2:i<xs.length:=by rw[hz,Nat.mul_one] at hi';exact hi'
  obtain ⟨u,hu,hr⟩:=hi i (by omega)
  refine ⟨u,by simp[World.cell?,ha,hu],?_⟩
  have:rowL (Enc.sz (List β)) ec xs i=L (xs.getD i []):=by
   have h1:=rowL_one (enc:=ec) hi2 []
   exact h1
  rw[this]
  exact VR.dI s hr
variable {α:Type} [Enc α] [DS α β]
theorem VR.OLT (s:Sim μ h w) (nd:Nd h) {j b:Nat} {ty t1 t2:TypeId} {pf:Nat→Bool} {xs:List α} (hj:h[j]? =some (b,RT ty t1 t2 b pf xs)) {v:Value} (hv:VR μ w (OL b xs) v):VR (Mu.lessD μ b) w (L xs) v:=by
 obtain ⟨_,_,v3,v4⟩:=hv
 have hp:=Enc.pos (α:=α)
 rcases s.row b _ (nd.get hj) with ⟨hvir,_,h0⟩|⟨B,cs,hnv,hf,hL,hh,hE',hm,hi⟩
 ·obtain ⟨_,h1,y,rfl⟩:=v3 hvir
  have hx:xs=[]:=List.length_eq_zero_iff.1 h1
  subst hx
  cases y with
  |none=>exact .inl ⟨rfl,by simp,rfl⟩
  |some y=>exact .inr ⟨y,0,rfl,Nat.le_refl _,fun hm=>by simp at hm,fun i hi=>by simp at hi⟩
 ·obtain ⟨cap,rfl,hcap⟩:=(v4 B hf).2 hL.symm
  have hin:inR μ b b=true:=by unfold inR;simp
  have hL2:B.L=xs.length*Enc.sz α:=hL
  have hm2:xs.length*Enc.sz α≤B.E:=hm
  refine .inr ⟨_,cap,rfl,?_,fun _=>⟨rfl,sealedD s hin hf⟩,fun i hi'=>?_⟩
  ·have:xs.length*Enc.sz α≤cap*Enc.sz α:=by omega
   exact Nat.le_of_mul_le_mul_right this hp
  ·obtain ⟨u,hu,hr⟩:=hi i hi'
   refine ⟨u,by simp[World.cell?,hh,hu],?_⟩
   rw[rowL_split hp]
   simp only[RT] at hr
   cases hx:xs[i/Enc.sz α]? with
   |none=>trivial
   |some a=>
    rw[hx] at hr
    simp only[dT] at hr
    by_cases hp':pf (i/Enc.sz α)=true
    case neg=>rw[if_neg hp'] at hr;exact VR.lessD _ _ (ec_no a _) hr
    rw[if_pos hp'] at hr
    by_cases ho:i%Enc.sz α=DS.o α
    ·rw[if_pos ho] at hr
     have hc:ec a (i%Enc.sz α)=L (DS.get a):=by
      unfold ec ofL
      rw[ho,List.getD_eq_getElem?_getD,DS.cell]
      rfl
     simp only[]
     rw[hc]
     exact VR.hidM s hr
    ·rw[if_neg ho] at hr
     exact VR.lessD _ _ (ec_no a _) hr
def cvsT (v:AV):List Nat→Env→Env
 |[],e=>e
 |t::r,e=>cvE t v (cvsT v r e)
def SlotsT (b:Nat) (xs:List α) (env:Env):List Nat→Prop
 |[]=>True
 |t::r=>(lk (cvsT (L xs) r env) t=some (true,OL b xs)∧lk env t=some (true,OL b xs))∧SlotsT b xs env r
theorem slotsT_env {env:Env} {a:Act} {b j:Nat} {ty t1 t2:TypeId} {pf:Nat→Bool} {xs:List α} (s:Sim μ h w) (nd:Nd h) (hj:h[j]? =some (b,RT ty t1 t2 b pf xs)) (he:EnvR μ w env a) [hn:NoE env]:∀{l:List Nat},SlotsT b xs env l→EnvR (Mu.lessD μ b) w (cvsT (L xs) l env) a
 |[],_=>fun t g v e=>⟨fun hg=>by subst hg;exact VR.lessD _ _ (hn.no t v e) ((he t true v e).1 rfl),(he t g v e).2⟩
 |t::r,hh=>by
  have ih:=slotsT_env s nd hj he hh.2
  intro t' g v e
  rcases cvE_lk hh.1.1 e with ⟨rfl,rfl,rfl⟩|⟨_,h5⟩
  ·exact ⟨fun _=>VR.OLT s nd hj ((he t' true _ hh.1.2).1 rfl),fun hg=>by cases hg⟩
  ·exact ih t' g v h5
end
section
variable {P:Program} {nt:Nat} {Q:Post} {env:Env} {h:Hp} {β:Type} [Enc β] {α:Type} [Enc α] [DS α β]
theorem TK.layT {c:KC} (ts:List Nat) (nd:Nd h) {j b:Nat} {ty t1 t2:TypeId} {pf:Nat→Bool} {xs:List α} (hj:h[j]? =some (b,RT ty t1 t2 b pf xs)) (hl:SlotsT b xs env ts) [NoHx j h] [he:NoE env]
 (k:Nd (h.eraseIdx j)→TK P nt c Q (cvsT (L xs) ts env) (h.eraseIdx j)):TK P nt c Q env h:=by
 intro c' hc μ a w s
 refine wp_mono (k (nd.erase j) c' hc (Mu.lessD μ b) a w ⟨Sim.layG s.sim nd hj,slotsT_env s.sim nd hj s.env hl,s.size,s.defers⟩) ?_
 rintro e a' w' ⟨μ2,env2,h2,q,s2,st2⟩
 exact ⟨μ2,env2,h2,q,s2,(lessD_w μ w b).trans st2⟩
end
section
variable {C:Cx} {nt:Nat} {env:Env} {h:Hp} {K:Env→Hp→Prop} {t:TypeId} {x y:AM.X} {β:Type} [Enc β] {α:Type} [Enc α] [DS α β]
theorem TL.litT {d m:Nat} {e:TypeId} {ei:TI} {ks:List KO} {z:AM.X} {l:List AV} (hk:C.kd t=some (.slc e)) (he:C.ty e=some ei) (hs:ei.sz=m) (hz:ev env z=(true,.agg m (ofL l))) (hl:l.length=m) (hm:Nat.ble m 16777216=true) (h0:Nat.ble 1 m=true) (hd:Nat.ble (d+1) nt=true)
 (rest:TL C.P nt ks K ((d,true,.sl (ofL l) m 1)::env) h):TL C.P nt (⟨some d,none,.bsl t 1 [(0,z)]⟩::ks) K env h:=by
 have h0:=Nat.le_of_ble_eq_true h0
 refine TL.bslv (l:=[ofL l]) (S:=(0=0∧(ev env z).1=true∧True∧m=ei.sz)∧True) (gc:=true) rfl rfl (dlt hd) hk he (by rw[hs,Nat.one_mul];exact Nat.le_of_ble_eq_true hm) (by simp only[litA,hz,cellsA]) (fun _=>⟨⟨rfl,by rw[hz],trivial,hs.symm⟩,trivial⟩) rfl ?_
 have e1:catC ei.sz [ofL l]=ofL l:=by
  funext j
  rw[hs]
  simp only[catC]
  by_cases hj:j<m
  ·rw[Nat.div_eq_of_lt hj,Nat.mod_eq_of_lt hj];rfl
  ·have:1≤j/m:=by rw[Nat.le_div_iff_mul_le (by omega)];omega
   rw[List.getElem?_eq_none (by simpa using this)]
   simp[ofL,List.getD_eq_getElem?_getD,List.getElem?_eq_none (show l.length≤j by omega)]
 rw[e1,hs,Nat.one_mul]
 exact rest
theorem TL.appT {d b f:Nat} {t' e t1 t2:TypeId} {pf:Nat→Bool} {ei:TI} {xs:List α} {a:α} {l:List AV} {ks:List KO} (nd:Nd h) (hk:C.kd t=some (.slc e)) (hk':bytesOK C t') (he:C.ty e=some ei) (hs:ei.sz=Enc.sz α) (hx:ev env x=(true,OL b xs))
 {j:Nat} (hj:h[j]? =some (b,RT e t1 t2 b pf xs)) {j2:Nat} {tyf:TypeId} (hj2:h[j2]? =some (f,RD tyf t2 f (DS.get a))) (hy:ev env y=(true,.sl (ofL l) (Enc.sz α) 1)) (hl:l=(Enc.cl a).set (DS.o α) (OL f (DS.get a))) (hby:0<ei.by') (hlim:(xs.length+([a]:List α).length)*ei.by'≤140737488355328) (hpf:pf xs.length=true) (hd:Nat.ble (d+1) nt=true)
 (rest:Nd (h.set j (b,rowC (RT e t1 t2 b pf (xs++[a])) (xs.length*Enc.sz α+DS.o α) (OL f (DS.get a))))→TL C.P nt ks K ((d,true,OL b (xs++[a]))::env) (h.set j (b,rowC (RT e t1 t2 b pf (xs++[a])) (xs.length*Enc.sz α+DS.o α) (OL f (DS.get a))))):
 TL C.P nt (⟨some d,none,.bi .append [t,t'] [x,y]⟩::ks) K env h:=by
 have hp:=Enc.pos (α:=α)
 have hx':ev env x=(true,.rs b 0 xs.length (RT e t1 t2 b pf xs).m ei.sz):=by rw[hx,hs];rfl
 have hr2:refOK h f ((DS.get a).length*Enc.sz (List β)):=refOK_of nd hj2 rfl
 have hll:l.length=Enc.sz α:=by rw[hl,List.length_set,Enc.len]
 have hcell:∀k,k<Enc.sz α→ofL l k=if k=DS.o α then OL f (DS.get a) else ec a k:=fun k hk=>by
  rw[hl]
  unfold ec ofL
  rw[List.getD_eq_getElem?_getD,List.getD_eq_getElem?_getD]
  by_cases hko:k=DS.o α
  ·subst hko
   rw[if_pos rfl,List.getElem?_set_self (by rw[Enc.len];exact hk)]
   rfl
  ·rw[if_neg hko,List.getElem?_set_ne (fun e=>hko e.symm)]
 refine TL.app (n:=1) (pc:=ofL l) (S:=1*ei.sz≤Enc.sz α) (r:=RT e t1 t2 b pf xs) rfl rfl (dlt hd) hk hk' he hx' (nd.get hj) rfl (by rw[hs];rfl) (by rw[hy]) (by rw[hy];simp only[srcA]) (by rw[hs];omega) (by omega) hby hlim (fun k hk=>?_) ?_
 ·rw[hs,Nat.one_mul] at hk
  rw[hcell k hk]
  by_cases hko:k=DS.o α
  ·rw[if_pos hko];exact hr2
  ·rw[if_neg hko]
   unfold ec ofL
   rw[List.getD_eq_getElem?_getD,List.getElem?_eq_getElem (by rw[Enc.len];exact hk)]
   exact oneA_AV1 (Enc.cell a _ (List.getElem_mem _))
 ·refine TL.setrow (q:=⟨e,(RT e t1 t2 b pf xs).m+1*ei.sz,appC (RT e t1 t2 b pf xs).cells (RT e t1 t2 b pf xs).m (ofL l) (1*ei.sz)⟩) (q':=rowC (RT e t1 t2 b pf (xs++[a])) (xs.length*Enc.sz α+DS.o α) (OL f (DS.get a))) nd hj rfl (by simp[rowC,RT,hs,Nat.add_mul]) (fun i hi=>?_) fun nd1=>?_
  ·simp only[RT,hs,Nat.one_mul] at hi
   simp only[rowC,appC,RT,hs,Nat.one_mul]
   by_cases h1:i<xs.length*Enc.sz α
   ·have hio:i≠xs.length*Enc.sz α+DS.o α:=by omega
    have hd1:i/Enc.sz α<xs.length:=(Nat.div_lt_iff_lt_mul hp).2 h1
    rw[if_neg hio,if_pos h1,List.getElem?_append_left hd1]
   ·obtain ⟨k,rfl⟩:∃k,i=xs.length*Enc.sz α+k:=⟨i-xs.length*Enc.sz α,by omega⟩
    have hk:k<Enc.sz α:=by omega
    obtain ⟨e1,e2⟩:=div_o (i:=xs.length) hk
    rw[if_neg h1,if_pos (show xs.length*Enc.sz α+k<xs.length*Enc.sz α+Enc.sz α by omega),Nat.add_sub_cancel_left,hcell k hk,e1,e2]
    by_cases hko:k=DS.o α
    ·rw[if_pos (by omega),if_pos hko]
    ·rw[if_neg (by omega),if_neg hko]
     simp[dT,hko,hpf]
  ·have:=rest nd1
   simp only[putE,hs,Nat.one_mul]
   have e1:(RT e t1 t2 b pf xs).m+Enc.sz α=(xs++[a]).length*Enc.sz α:=by simp[RT,Nat.add_mul]
   rw[e1]
   simpa[OL] using this
theorem TL.stT {b st:Nat} {i:Int} {e t1 t2:TypeId} {pf:Nat→Bool} {xs:List α} {a a':α} {d:Nat} {u v:AV} {ti:TI} {ks:List KO} (nd:Nd h) (ht:C.ty t=some ti) (hx:ev env x=(true,.ref b (i.toNat*Enc.sz α+d) st)) {j:Nat} (hj:h[j]? =some (b,RT e t1 t2 b pf xs)) (hst:st=xs.length*Enc.sz α)
 (hi:getI xs i=some a) (hy:ev env y=(true,u)) (hc:Cells h u [v]) (hsz:ti.sz=1) (hcl:Enc.cl a'=(Enc.cl a).set d v) (hd:Nat.blt d (Enc.sz α)=true) (hdo:Nat.beq d (DS.o α)=false) (hg:DS.get a'=DS.get a)
 (rest:Nd (h.set j (b,RT e t1 t2 b pf (xs.set i.toNat a')))→TL C.P nt ks K env (h.set j (b,RT e t1 t2 b pf (xs.set i.toNat a')))):TL C.P nt (⟨none,none,.st t x y⟩::ks) K env h:=by
 obtain ⟨pc,S,h1,h2,h3,h4⟩:=hc
 obtain ⟨hi0,hlt,hia⟩:=getI_in hi
 have hdl:d<Enc.sz α:=Nat.le_of_ble_eq_true hd
 have hdn:=Nat.ne_of_beq_eq_false hdo
 have hlt':i.toNat<xs.length:=by omega
 have hfit:(i.toNat+1)*Enc.sz α≤xs.length*Enc.sz α:=Nat.mul_le_mul_right _ (by omega)
 rw[Nat.add_mul] at hfit
 refine TL.st (m:=1) (pc:=pc) (S:=S) (r:=RT e t1 t2 b pf xs) rfl rfl rfl ht (by rw[hx,hst];rfl) (nd.get hj) (by rw[hy]) (by rw[hy];exact h1) h2 hsz.symm (by simp only[RT];omega) (allOne_of fun q hq=>?_) ?_
 ·obtain rfl:q=0:=by omega
  rw[h3 0 (by simp)]
  exact h4 v (by simp)
 ·refine TL.setrow (q:={ RT e t1 t2 b pf xs with cells:=putC (RT e t1 t2 b pf xs).cells (i.toNat*Enc.sz α+d) 1 pc }) (q':=RT e t1 t2 b pf (xs.set i.toNat a')) nd hj rfl (by simp[RT]) (fun k hk=>?_) rest
  simp only[RT,putC]
  have hia':xs[i.toNat]? =some a:=hia
  by_cases hki:k/Enc.sz α=i.toNat
  ·rw[hki,List.getElem?_set_self hlt',hia']
   simp only[]
   by_cases hp':pf i.toNat=true
   case neg=>
    rw[if_neg hp',if_neg hp']
    by_cases hkd:k%Enc.sz α=d
    ·have hk2:k=i.toNat*Enc.sz α+d:=split_o hki hkd
     rw[hkd,if_pos (show i.toNat*Enc.sz α+d≤k∧k<i.toNat*Enc.sz α+d+1 by omega),show k-(i.toNat*Enc.sz α+d)=0 by omega,h3 0 (by simp)]
     unfold ec ofL
     rw[hcl,List.getD_eq_getElem?_getD,List.getElem?_set_self (by rw[Enc.len];exact hdl)]
     rfl
    ·have hk2:¬(i.toNat*Enc.sz α+d≤k∧k<i.toNat*Enc.sz α+d+1):=fun hh=>hkd (by
      have:k=i.toNat*Enc.sz α+d:=by omega
      rw[this];exact (div_o hdl).2)
     rw[if_neg hk2]
     unfold ec ofL
     rw[hcl,List.getD_eq_getElem?_getD,List.getD_eq_getElem?_getD,List.getElem?_set_ne (fun e=>hkd e.symm)]
   rw[if_pos hp',if_pos hp']
   simp only[dT]
   by_cases hkd:k%Enc.sz α=d
   ·have hk2:k=i.toNat*Enc.sz α+d:=split_o hki hkd
    rw[hkd,if_neg hdn,if_pos (show i.toNat*Enc.sz α+d≤k∧k<i.toNat*Enc.sz α+d+1 by omega),show k-(i.toNat*Enc.sz α+d)=0 by omega,h3 0 (by simp)]
    unfold ec ofL
    rw[hcl,List.getD_eq_getElem?_getD,List.getElem?_set_self (by rw[Enc.len];exact hdl)]
    rfl
   ·have hk2:¬(i.toNat*Enc.sz α+d≤k∧k<i.toNat*Enc.sz α+d+1):=fun hh=>hkd (by
     have:k=i.toNat*Enc.sz α+d:=by omega
     rw[this];exact (div_o hdl).2)
    rw[if_neg hk2,hg]
    congr 1
    unfold ec ofL
    rw[hcl,List.getD_eq_getElem?_getD,List.getD_eq_getElem?_getD,List.getElem?_set_ne (fun e=>hkd e.symm)]
  ·have hk2:¬(i.toNat*Enc.sz α+d≤k∧k<i.toNat*Enc.sz α+d+1):=fun hh=>hki (by
    have:k=i.toNat*Enc.sz α+d:=by omega
    rw[this];exact (div_o hdl).1)
   rw[List.getElem?_set_ne (fun e=>hki e.symm),if_neg hk2]
end
section
variable {C:Cx} {h:Hp} {env:Env} {t:TypeId} {x:AM.X} {gx gc:Bool} {α:Type} [Enc α]
theorem p_faT {xs:List α} {i:Int} {b o n off:Nat} {fi:TI} {r:Row} (hf:fieldsA C t n=some (fi,off)) (hn:fi.sz≠0) (hx:ev env x=(gx,OP b xs i o)) (nd:Nd h) {j:Nat} (hj:h[j]? =some (b,r)) (hm:xs.length*Enc.sz α=r.m)
 (hg:gc=true→gx=true:=by first|exact fun _=>rfl|simp_all):PVok C h env (.fa t x n) gc (OP b xs i (o+off)):=by
 refine pvE (S:=gx=true∧fi.sz≠0∧refOK h b (xs.length*Enc.sz α)) ?_ fun e=>⟨hg e,hn,refOK_of nd hj hm⟩
 simp only[pv,hx,faA,hf,OP,Nat.add_assoc]
theorem p_ldT {xs:List α} {i:Int} {b o:Nat} {a:AV} {r:Row} {ti:TI} (ht:C.ty t=some ti) (hk:ti.known=true) (hx:ev env x=(gx,OP b xs i o)) (nd:Nd h) {j:Nat} (hj:h[j]? =some (b,rowC r (i.toNat*Enc.sz α+o) a)) (hm:xs.length*Enc.sz α=r.m)
 {z:α} (hi:gc=true→getI xs i=some z) (ha:ti.isAgg=false) (hs:ti.sz=1) (ho:Nat.ble (o+1) (Enc.sz α)=true) (hg:gc=true→gx=true:=by first|exact fun _=>rfl|simp_all):PVok C h env (.ld t x) gc a:=fun e=>by
 have hr:=nd.get hj
 have ho:=Nat.le_of_ble_eq_true ho
 have:pv C h env (.ld t x)=(partA ti (rowC r (i.toNat*Enc.sz α+o) a).cells (i.toNat*Enc.sz α+o),gx=true∧ti.known=true∧xs.length*Enc.sz α=(rowC r (i.toNat*Enc.sz α+o) a).m∧i.toNat*Enc.sz α+o+ti.sz≤(rowC r (i.toNat*Enc.sz α+o) a).m∧(ti.isAgg=false→ti.sz=1)):=by
  simp only[pv,hx,loadA,ht,OP,hr]
 rw[this]
 obtain ⟨h1,h2,_⟩:=getI_in (hi e)
 refine ⟨?_,hg e,hk,hm,?_,fun _=>hs⟩
 ·simp[partA,ha,rowC]
 ·show _≤r.m
  have h3:(i.toNat+1)*Enc.sz α≤xs.length*Enc.sz α:=Nat.mul_le_mul_right _ (by omega)
  rw[Nat.add_mul] at h3
  omega
end
end Go.AX

namespace Go.AX
open Go.AM Go.RowKit
end Go.AX
