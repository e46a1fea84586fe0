import Derived.Test.YtndjbcnpgggddaaLibB
namespace Go.AX
open Go.AM Go.RowKit
def exB (x:Option Nat) (i:Nat):Bool:=match x with|some j=>i==j|none=>true
def okAtB (L:Nat) (x:Option Nat) (ops:Array Oper) (ks:List KO) (sc:List (Nat×Nat)) (p:Nat):Bool:=
 match ops[ixAt sc p]?,ks[ixAt sc p]? with
 |some o,some k=>
  o.after.all (fun e=> !Region.binds .any e||(List.range p).any fun q=>ixAt sc q==e.on)&&
  ((List.range sc.length).all fun q=>q==p||(ixAt sc q !=ixAt sc p&&match ks[ixAt sc q]? with
    |some k'=>match k'.d with
     |some t=>(k.d !=some t)&&(!(readsK k).contains t||(decide (q<p)&&edge ops (ixAt sc p) (ixAt sc q))||(decide (p<q)&&edge ops (ixAt sc q) (ixAt sc p)))
     |none=>true
    |none=>false))&&
  ((List.range p).all fun q=>kindAt sc q !=2||(q==L&&exB x (ixAt sc p))||(List.range p).any fun r=>decide (q≤r)&&edge ops (ixAt sc p) (ixAt sc r))&&
  (kindAt sc p !=1||match nextE sc p with
    |none=>true
    |some q=>(List.range (q+1)).any fun r=>decide (p<r)&&(kindAt sc r==1||r==q)&&edge ops (ixAt sc r) (ixAt sc p))&&
  (!(match sc[p]? with|some x=>decide (3≤x.1)|none=>false)||(List.range p).all fun q=>edge ops (ixAt sc p) (ixAt sc q))
 |_,_=>false
def okSchedB (L:Nat) (x:Option Nat) (ops:Array Oper) (ks:List KO) (sc:List (Nat×Nat)):Bool:=(sc.length==ops.size)&&((List.range ops.size).all fun j=>(List.range sc.length).any fun p=>ixAt sc p==j)&&(List.range sc.length).all fun p=>okAtB L x ops ks sc p
structure SchedR (L:Nat) (x:Option Nat) (ops:Array Oper) (ks:List KO) (sc:List (Nat×Nat)):Prop where
 len:sc.length=ops.size
 sur:∀j,j<ops.size→∃p,p<sc.length∧ixAt sc p=j
 deps:∀p,p<sc.length→∃o k,ops[ixAt sc p]? =some o∧ks[ixAt sc p]? =some k∧∀e∈o.after,Region.binds .any e=true→∃q,q<p∧ixAt sc q=e.on
 inj:∀p q,p<sc.length→q<sc.length→p≠q→ixAt sc q≠ixAt sc p
 rw:∀p q,p<sc.length→q<sc.length→p≠q→∀k k' t,ks[ixAt sc p]? =some k→ks[ixAt sc q]? =some k'→k'.d=some t→k.d≠some t∧
  (t∈readsK k→(q<p∧edge ops (ixAt sc p) (ixAt sc q)=true)∨(p<q∧edge ops (ixAt sc q) (ixAt sc p)=true))
 aft:∀p q,p<sc.length→q<p→kindAt sc q=2→(q=L∧exB x (ixAt sc p)=true)∨∃r,q≤r∧r<p∧edge ops (ixAt sc p) (ixAt sc r)=true
 one:∀p,p<sc.length→kindAt sc p=1→∀q,nextE sc p=some q→∃r,p<r∧r≤q∧(kindAt sc r=1∨r=q)∧edge ops (ixAt sc r) (ixAt sc p)=true
 all3:∀p z,sc[p]? =some z→3≤z.1→∀q,q<p→edge ops (ixAt sc p) (ixAt sc q)=true
theorem okSchedB_ok {L:Nat} {x:Option Nat} {ops:Array Oper} {ks:List KO} {sc:List (Nat×Nat)} (h:okSchedB L x ops ks sc=true):SchedR L x ops ks sc:=by
 unfold okSchedB at h
 simp only[Bool.and_eq_true,beq_iff_eq,List.all_eq_true,List.mem_range] at h
 obtain ⟨⟨hlen,hsur⟩,hall⟩:=h
 have at':∀p,p<sc.length→∃o k,ops[ixAt sc p]? =some o∧ks[ixAt sc p]? =some k∧
  (o.after.all (fun e=> !Region.binds .any e||(List.range p).any fun q=>ixAt sc q==e.on)=true∧
  ((List.range sc.length).all fun q=>q==p||(ixAt sc q !=ixAt sc p&&match ks[ixAt sc q]? with
    |some k'=>match k'.d with
     |some t=>(k.d !=some t)&&(!(readsK k).contains t||(decide (q<p)&&edge ops (ixAt sc p) (ixAt sc q))||(decide (p<q)&&edge ops (ixAt sc q) (ixAt sc p)))
     |none=>true
    |none=>false))=true)∧
  ((List.range p).all fun q=>kindAt sc q !=2||(q==L&&exB x (ixAt sc p))||(List.range p).any fun r=>decide (q≤r)&&edge ops (ixAt sc p) (ixAt sc r))=true∧
  (kindAt sc p !=1||match nextE sc p with
    |none=>true
    |some q=>(List.range (q+1)).any fun r=>decide (p<r)&&(kindAt sc r==1||r==q)&&edge ops (ixAt sc r) (ixAt sc p))=true∧
  (!(match sc[p]? with|some x=>decide (3≤x.1)|none=>false)||(List.range p).all fun q=>edge ops (ixAt sc p) (ixAt sc q))=true:=by
  intro p hp
  have:=hall p hp
  unfold okAtB at this
  split at this
  ·rename_i o k h1 h2
   simp only[Bool.and_eq_true] at this
   exact ⟨o,k,h1,h2,this.1.1.1,this.1.1.2,this.1.2,this.2⟩
  ·cases this
 refine ⟨hlen,fun j hj=>?_,fun p hp=>?_,fun p q hp hq hne=>?_,fun p q hp hq hne k k' t hk hk' ht=>?_,fun p q hp hq hkq=>?_,fun p hp hk q hq=>?_,fun p z hx h3 q hq=>?_⟩
 ·have:=hsur j hj
  simp only[List.any_eq_true,List.mem_range,beq_iff_eq] at this
  exact this
 ·obtain ⟨o,k,h1,h2,h3,_⟩:=at' p hp
  refine ⟨o,k,h1,h2,fun e he hb=>?_⟩
  have:=Array.all_eq_true_iff_forall_mem.1 h3.1 e he
  simp only[hb,Bool.not_true,Bool.false_or,List.any_eq_true,List.mem_range,beq_iff_eq] at this
  exact this
 ·obtain ⟨o,k,h1,h2,h3,_⟩:=at' p hp
  have:=List.all_eq_true.1 h3.2 q (List.mem_range.2 hq)
  simp only[Bool.or_eq_true,beq_iff_eq,Bool.and_eq_true,bne_iff_ne,ne_eq] at this
  rcases this with h|h
  ·exact (hne h.symm).elim
  ·exact h.1
 ·obtain ⟨o,k0,h1,h2,h3,_⟩:=at' p hp
  rw[hk] at h2
  injection h2 with h2
  subst h2
  have:=List.all_eq_true.1 h3.2 q (List.mem_range.2 hq)
  simp only[Bool.or_eq_true,beq_iff_eq,Bool.and_eq_true,bne_iff_ne,ne_eq] at this
  rcases this with h|h
  ·exact (hne h.symm).elim
  ·have h4:=h.2
   rw[hk',] at h4
   simp only[ht,Bool.and_eq_true,Bool.or_eq_true,bne_iff_ne,ne_eq,Bool.not_eq_true',decide_eq_true_eq] at h4
   refine ⟨h4.1,fun hr=>?_⟩
   rcases h4.2 with (h5|h5)|h5
   ·exfalso;rw[List.contains_iff_mem.2 hr] at h5;cases h5
   ·exact .inl h5
   ·exact .inr h5
 ·obtain ⟨o,k,_,_,_,h3,_⟩:=at' p hp
  have:=List.all_eq_true.1 h3 q (List.mem_range.2 hq)
  simp only[hkq,bne_self_eq_false,Bool.false_or,Bool.or_eq_true,List.any_eq_true,List.mem_range,Bool.and_eq_true,decide_eq_true_eq,beq_iff_eq] at this
  rcases this with h|⟨r,h4,h5,h6⟩
  ·exact .inl h
  ·exact .inr ⟨r,h5,h4,h6⟩
 ·obtain ⟨o,k,_,_,_,_,h3,_⟩:=at' p hp
  rw[hk,hq] at h3
  simp only[bne_self_eq_false,Bool.false_or,List.any_eq_true,List.mem_range,Bool.and_eq_true,decide_eq_true_eq,Bool.or_eq_true,beq_iff_eq] at h3
  obtain ⟨r,h4,⟨h5,h6⟩,h7⟩:=h3
  exact ⟨r,h5,by omega,h6,h7⟩
 ·obtain ⟨o,k,_,_,_,_,_,h4⟩:=at' p (List.getElem?_eq_some_iff.1 hx).1
  rw[hx] at h4
  simp only[h3,decide_true,Bool.not_true,Bool.false_or,List.all_eq_true,List.mem_range] at h4
  exact h4 q hq
section
variable {P:Program} {nt:Nat} {Q:Post} {env:Env} {h hS:Hp}
variable {ks:List KO} {sc:List (Nat×Nat)} {ops:Array Oper} {K:Env→Hp→Prop} {μ0:Mu} {w0:World} {L:Nat} {x0:Option Nat}
theorem Inv.freshR {n:Nat} {listed:Array Bool} {a:Act} {w:World} {R:List Ent} {h1:Hp} {μ:Mu} (S:SchedR L x0 ops ks sc) (V:Inv P nt hS env ks sc n ops K μ0 w0 listed a w R h1 μ) {p:Nat} (hp:p<sc.length) (hR:R.length≤p):
 listed.getD (ixAt sc p) false=false:=by
 cases hb:listed.getD (ixAt sc p) false with
 |false=>rfl
 |true=>
  exfalso
  obtain ⟨x,hx,hxi⟩:=V.sub _ hb
  obtain ⟨pre,post,e⟩:=List.append_of_mem hx
  obtain ⟨h1,h2,_⟩:=pos_at (V.al pre x post e)
  have hlt:post.length<R.length:=by rw[e];simp;omega
  exact S.inj p post.length hp h1 (by omega) (by rw[h2];exact hxi)
theorem Inv.unrollR {n:Nat} {listed:Array Bool} {a:Act} {w:World} (S:SchedR L x0 ops ks sc):∀(m:Nat) (R:List Ent) (h1:Hp) (μ:Mu),sc.length-R.length≤m→Inv P nt hS env ks sc n ops K μ0 w0 listed a w R h1 μ→
 ∃R',Inv P nt hS env ks sc n ops K μ0 w0 listed a w R' h1 μ∧(∀x,sc[R'.length]? =some x→2≤x.1)∧R.length≤R'.length
 |0,R,h1,μ,hm,V=>⟨R,V,(fun x hx=>by have:=(List.getElem?_eq_some_iff.1 hx).1;omega),Nat.le_refl _⟩
 |m+1,R,h1,μ,hm,V=>by
  cases hx:sc[R.length]? with
  |none=>exact ⟨R,V,(fun x h=>by rw[hx] at h;cases h),Nat.le_refl _⟩
  |some x=>
   obtain ⟨kd,i⟩:=x
   by_cases h2:2≤kd
   ·exact ⟨R,V,(fun x h=>by rw[hx] at h;injection h with h;subst h;exact h2),Nat.le_refl _⟩
   ·have hlt:=(List.getElem?_eq_some_iff.1 hx).1
    have hdrop:sc.drop R.length=(kd,i)::sc.drop (R.length+1):=by
     rw[List.drop_eq_getElem_cons hlt,(List.getElem?_eq_some_iff.1 hx).2]
    have hrun:=V.run
    rw[hdrop] at hrun
    have hfr:=V.freshR S hlt (Nat.le_refl _)
    have hix:ixAt sc R.length=i:=(pos_at hx).2.1
    rw[hix] at hfr
    have key:∃k,ks[i]? =some k∧∃gc d v,gcOf (envOf R env) k.g=some gc∧k.d=some d∧d<nt∧(kd=0→gc=true→VOK P nt hS (keepE (readsK k) (envOf R env)) k.i v)∧
     (kd=1→gc=true→VOK P nt (h1++hS) (keepE (readsK k) (envOf R env)) k.i v)∧DRun P nt hS ks K (sc.drop (R.length+1)) ((d,gc,v)::envOf R env) h1:=by
     match kd,h2,hrun with
     |0,_,⟨k,q1,gc,d,v,q2,q3,q4,q5,q6⟩=>exact ⟨k,q1,gc,d,v,q2,q3,q4,fun _=>q5,(fun e=>by cases e),q6⟩
     |1,_,⟨k,q1,gc,d,v,q2,q3,q4,q5,q6⟩=>exact ⟨k,q1,gc,d,v,q2,q3,q4,(fun e=>by cases e),fun _=>q5,q6⟩
     |k+2,h2,_=>exact (h2 (by omega)).elim
    obtain ⟨k,q1,gc,d,v,q2,q3,q4,q5,q6,q7⟩:=key
    suffices hh:∃R',Inv P nt hS env ks sc n ops K μ0 w0 listed a w R' h1 μ∧(∀x,sc[R'.length]? =some x→2≤x.1)∧R.length+1≤R'.length by
     obtain ⟨R',q1,q2,q3⟩:=hh
     exact ⟨R',q1,q2,by omega⟩
    refine Inv.unrollR S m (⟨kd,i,some d,gc,v⟩::R) h1 μ (by simp;omega) ⟨?_,?_,V.size,V.sim,V.hsub,V.tmps,V.defers,V.step,V.clo,?_,⟨⟨k,q1,q3.symm,fun d' hd'=>?_,fun _=>by rw[q3];simp,q2,fun h _=>q5 h,fun h _=>q6 h,fun h=>absurd h h2⟩,V.facts⟩,?_,?_⟩
    ·intro pre x post e
     cases pre with
     |nil=>simp only[List.nil_append,List.cons.injEq] at e;obtain ⟨rfl,rfl⟩:=e;exact hx
     |cons y pre=>simp only[List.cons_append,List.cons.injEq] at e;exact V.al pre x post e.2
    ·exact q7
    ·intro j hj
     obtain ⟨x,hx1,hx2⟩:=V.sub j hj
     exact ⟨x,List.mem_cons_of_mem _ hx1,hx2⟩
    ·rw[q3] at hd';injection hd' with hd';omega
    ·intro x hx1 hx2 d' hd'
     rcases List.mem_cons.1 hx1 with rfl|hx1
     ·rw[hfr] at hx2;cases hx2
     ·exact V.told x hx1 hx2 d' hd'
    ·intro t g u hno hl
     exact V.base t g u (fun x hx1=>hno x (List.mem_cons_of_mem _ hx1)) hl
theorem turn_step (S:SchedR L x0 ops ks sc) (hops:∀(j:Nat) (o:Oper),ops[j]? =some o→∃k,ks[j]? =some k∧cookOp o.op=some k.i∧o.dst=k.d∧cookG ops o.guard=some k.g)
 {fuel:Nat} {listed:Array Bool} {a:Act} {w:World} {R:List Ent} {h1:Hp} {μ:Mu} {kd j:Nat} (V:Inv P nt hS env ks sc ops.size ops (fun env h=>Q .normal env h) μ0 w0 listed a w R h1 μ) (hkdx:sc[R.length]? =some (kd,j)) (hkd2:2≤kd)
 (hj:j∈Region.ready .any ops listed) (hin:¬∃x∈R,x.i=j)
 (ih:∀(a':Act) (w':World) (R':List Ent) (h1':Hp) (μ':Mu) (hS':Hp),Inv P nt hS' env ks sc ops.size ops (fun env h=>Q .normal env h) μ0 w0 (listed.setIfInBounds j true) a' w' R' h1' μ'→R'.length=R.length+1→wpAny P .any ops (fun e a' w'=>∃μ' env' h',Q e env' h'∧SimA nt μ' env' h' a' w'∧WStep μ0 w0 μ' w') fuel (listed.setIfInBounds j true) a' w'):
 wpOp P ops (fun e a' w'=>∃μ' env' h',Q e env' h'∧SimA nt μ' env' h' a' w'∧WStep μ0 w0 μ' w') j (wpAny P .any ops (fun e a' w'=>∃μ' env' h',Q e env' h'∧SimA nt μ' env' h' a' w'∧WStep μ0 w0 μ' w') fuel (listed.setIfInBounds j true)) a w:=by
 obtain ⟨hun,o,ho,hafter⟩:=mem_ready.1 hj
 have hlt:=(Array.getElem?_eq_some_iff.1 ho).1
 have hlt':j<listed.size:=by rw[V.size];exact hlt
 have hunF:listed.getD j false=false:=by simpa[Array.getD,hlt'] using hun
 obtain ⟨kj,hkj,hop,hdst,hguard⟩:=hops j o ho
 have getj:∀i,(listed.setIfInBounds j true).getD i false=true→i=j∨listed.getD i false=true:=by
  intro i hi
  by_cases hij:i=j
  ·exact .inl hij
  ·right
   rw[getD_set_ne false (fun e=>hij e.symm)] at hi
   exact hi
 have setj:(listed.setIfInBounds j true).getD j false=true:=by simp[Array.getD,hlt']
 have hclo:∀i,(listed.setIfInBounds j true).getD i false=true→∀o,ops[i]? =some o→∀e∈o.after,Region.binds .any e=true→(listed.setIfInBounds j true).getD e.on false=true:=by
  intro i hi oi hoi e he hb
  rcases getj i hi with rfl|hi
  ·rw[ho] at hoi
   injection hoi with hoi
   subst hoi
   exact getD_set_true (hafter e he hb)
  ·exact getD_set_true (V.clo i hi oi hoi e he hb)
 have hlast:R.length<sc.length:=(pos_at hkdx).1
 have hp:=hlast
 have hpj:ixAt sc R.length=j:=(pos_at hkdx).2.1
 have hkE:kindAt sc R.length=2:=by rw[(pos_at hkdx).2.2];omega
 have hdrop:sc.drop R.length=(kd,j)::sc.drop (R.length+1):=by
  rw[List.drop_eq_getElem_cons hlast,(List.getElem?_eq_some_iff.1 hkdx).2]
 have hrun':=V.run
 rw[hdrop] at hrun'
 obtain ⟨kd',rfl⟩:∃kd',kd=kd'+2:=⟨kd-2,by omega⟩
 obtain ⟨k,e1,e2,e3,e4⟩:=hrun'
 rw[hkj] at e1
 injection e1 with e1
 subst e1
 have ones:∀(m:Nat) (pre:List Ent) (x:Ent) (post:List Ent),R.length-post.length≤m→R=pre++x::post→x.kd=1→listed.getD x.i false=true:=by
  intro m
  induction m with
  |zero=>intro pre x post hm eR _;rw[eR] at hm;simp at hm;omega
  |succ m ihm=>
   intro pre x post hm eR hk1
   obtain ⟨p1,p2,p3⟩:=pos_at (V.al pre x post eR)
   have hlenR:post.length<R.length:=by rw[eR];simp;omega
   have hk1':kindAt sc post.length=1:=by rw[p3];omega
   obtain ⟨q,hq,hq1,hq2,hq3⟩:=nextE_spec hlenR hlast hkE
   obtain ⟨r,r1,r2,r3,r4⟩:=S.one post.length p1 hk1' q hq
   have hrdone:(∀o',ops[ixAt sc r]? =some o'→∀e∈o'.after,Region.binds .any e=true→listed.getD e.on false=true):=by
    intro o' ho' e he hb
    rcases Nat.lt_or_ge r R.length with h5|h5
    ·have h6:R.length-1-r<R.length:=by omega
     have eR':R=R.take (R.length-1-r)++R[R.length-1-r]::R.drop (R.length-1-r+1):=by
      rw[←List.drop_eq_getElem_cons h6,List.take_append_drop]
     have h7:(R.drop (R.length-1-r+1)).length=r:=by simp;omega
     obtain ⟨_,s2,s3⟩:=pos_at (V.al _ _ _ eR')
     rw[h7] at s2 s3
     refine V.clo (ixAt sc r) ?_ o' ho' e he hb
     rw[s2]
     rcases r3 with hr1|rfl
     ·refine ihm _ _ _ (by rw[h7];omega) eR' ?_
      rw[hr1] at s3
      omega
     ·obtain ⟨_,_,_,_,_,_,_,_,f8⟩:=V.facts.at eR'
      refine f8 ?_
      rw[hq3] at s3
      omega
    ·have hrR:r=R.length:=by omega
     subst hrR
     rw[hpj,ho] at ho'
     injection ho' with ho'
     subst ho'
     exact hafter e he hb
   have hr_lt:r<sc.length:=by omega
   obtain ⟨o',k',ho',_⟩:=S.deps r hr_lt
   obtain ⟨e,he1,he2,he3⟩:=edge_of r4 ho'
   have:=hrdone o' ho' e he1 he2
   rw[he3,p2] at this
   exact this
 have reads:∀t g' v',t∈readsK kj→lk (envOf R env) t=some (g',v')→AM.Told μ w a t g' v':=by
  intro t g' v' ht hl
  have hkx:ks[ixAt sc R.length]? =some kj:=by rw[hpj];exact hkj
  have ho':ops[ixAt sc R.length]? =some o:=by rw[hpj];exact ho
  rcases envOf_lk hl with ⟨y,hy,hyd,rfl,rfl⟩|⟨hno,hl⟩
  ·obtain ⟨pre2,post2,e2'⟩:=List.append_of_mem hy
   obtain ⟨y1,y2,_⟩:=pos_at (V.al _ _ _ e2')
   have hlen:post2.length<R.length:=by rw[e2'];simp;omega
   obtain ⟨ky,g1,g2,_⟩:=V.facts.at e2'
   rcases (S.rw R.length post2.length hp y1 (by omega) kj ky t hkx (by rw[y2];exact g1) (by rw[←g2];exact hyd)).2 ht with ⟨_,he⟩|⟨hlt2,_⟩
   ·obtain ⟨e,he1,he2,he3⟩:=edge_of he ho'
    refine V.told y hy ?_ t hyd
    have:=hafter e he1 he2
    rw[he3,y2] at this
    exact this
   ·omega
  ·exact V.base t g' v' (fun z hz _ hzd=>hno z hz hzd) hl
 have hSA:SimA nt μ (keepE (readsK kj) (envOf R env)) (h1++hS) a w:=by
  refine ⟨V.sim,fun t g' v' e=>?_,V.tmps,V.defers⟩
  rw[lk_keepE] at e
  by_cases ht:t∈readsK kj
  ·rw[if_pos ht] at e;exact reads t g' v' ht e
  ·rw[if_neg ht] at e;cases e
 have hwant:Region.wanted o (yielded ops a.tmps)=true:=by rw[wanted_of hguard,e2];rfl
 have hTL:=e4 [o] rfl (fun p hp=>by simp at hp;subst hp;exact ⟨hop,hdst⟩) μ a w hSA
 simp only[List.zip_cons_cons,List.zip_nil_right,wpK,e2] at hTL
 unfold wpOp
 rw[ho]
 simp only[hwant,if_true]
 left
 refine Oper.wp_mono' ?_ (fun _ _ _ hf=>hf.elim) (wp_put (fun a' w' hh=>by obtain ⟨_,_,_,_,s,_⟩:=hh;exact s.defers) hTL)
 rintro a' w' ⟨⟨μ',env',h',⟨v,hE,hT,hTe,rfl,rfl,hsubE,hDR⟩,s',st⟩,c,rfl⟩
 refine ih _ _ (⟨kd'+2,j,kj.d,true,v⟩::R) hE μ' hT ⟨?_,hDR,by simp[V.size],s'.sim,hsubE,s'.size,s'.defers,V.step.trans st,hclo,fun i hi=>?_,⟨⟨kj,hkj,rfl,e3,fun h=>by simp at h;omega,by rw[e2];rfl,fun h=>by simp at h,fun h=>by simp at h,fun _=>setj⟩,?_⟩,fun y hy hyl d' hd'=>?_,fun t g' v' hno hlkt=>?_⟩ rfl
 ·intro pre x post e
  cases pre with
  |nil=>simp only[List.nil_append,List.cons.injEq] at e;obtain ⟨rfl,rfl⟩:=e;rw[hkdx]
  |cons y pre=>simp only[List.cons_append,List.cons.injEq] at e;exact V.al pre x post e.2
 ·rcases getj i hi with rfl|hi
  ·exact ⟨⟨kd'+2,_,kj.d,true,v⟩,List.mem_cons_self,rfl⟩
  ·obtain ⟨x,hx1,hx2⟩:=V.sub i hi
   exact ⟨x,List.mem_cons_of_mem _ hx1,hx2⟩
 ·cases kd' with
  |zero=>
   rw[hTe rfl]
   refine V.facts.mono (fun y _ hy=>getD_set_true hy) (fun y hy hk1 hyl=>?_)
   exfalso
   obtain ⟨pre,post,eR⟩:=List.append_of_mem hy
   have h5:=ones _ pre y post (Nat.le_refl _) eR hk1
   have h6:=getD_set_true (i:=j) h5
   rw[hyl] at h6
   cases h6
  |succ kd'=>
   refine V.facts.all fun y hy=>getD_set_true ?_
   obtain ⟨pre,post,eR⟩:=List.append_of_mem hy
   obtain ⟨_,y2,_⟩:=pos_at (V.al _ _ _ eR)
   have hlen:post.length<R.length:=by rw[eR];simp;omega
   have he:=S.all3 R.length _ hkdx (by simp) post.length hlen
   rw[hpj] at he
   obtain ⟨e,he1,he2,he3⟩:=edge_of he ho
   have:=hafter e he1 he2
   rw[he3,y2] at this
   exact this
 ·rcases List.mem_cons.1 hy with rfl|hy
  ·simp only at hd' ⊢
   have h5:=s'.env d' true v (by rw[hd'];simp[putE,lk])
   exact h5
  ·have hyl':listed.getD y.i false=true:=by
    rcases getj y.i hyl with hyj|hyl
    ·exact (hin ⟨y,hy,hyj⟩).elim
    ·exact hyl
   have hne:∀dd,kj.d=some dd→dd≠d':=by
    rintro dd hdd rfl
    obtain ⟨pre4,post4,e4'⟩:=List.append_of_mem hy
    obtain ⟨y1,y2,_⟩:=pos_at (V.al _ _ _ e4')
    obtain ⟨ky,g1,g2,_⟩:=V.facts.at e4'
    have hlen:post4.length<R.length:=by rw[e4'];simp;omega
    exact (S.rw R.length post4.length hp y1 (by omega) kj ky dd (by rw[hpj];exact hkj) (by rw[y2];exact g1) (by rw[←g2];exact hd')).1 hdd
   have h5:=told_mono (V.told y hy hyl' d' hd') st
   rw[hdst]
   cases hkd5:kj.d with
   |none=>exact h5
   |some dd=>exact h5.put (hne dd hkd5)
 ·have h5:=told_mono (V.base t g' v' (fun y hy hyl=>hno y (List.mem_cons_of_mem _ hy) (getD_set_true hyl)) hlkt) st
  rw[hdst]
  cases hkd5:kj.d with
  |none=>exact h5
  |some dd=>
   refine h5.put ?_
   rintro rfl
   exact hno ⟨kd'+2,j,kj.d,true,v⟩ (by simp) setj hkd5
theorem drw_main (S:SchedR L x0 ops ks sc) (hops:∀(j:Nat) (o:Oper),ops[j]? =some o→∃k,ks[j]? =some k∧cookOp o.op=some k.i∧o.dst=k.d∧cookG ops o.guard=some k.g)
 (X:List Ent→Hp→Hp→Prop)
 (hand:∀(fuel:Nat) (listed:Array Bool) (a:Act) (w:World) (R:List Ent) (h1:Hp) (μ:Mu) (hS:Hp) (j:Nat),Inv P nt hS env ks sc ops.size ops (fun env h=>Q .normal env h) μ0 w0 listed a w R h1 μ→R.length=L→X R h1 hS→j∈Region.ready .any ops listed→exB x0 j=true→
   (¬∃x∈R,x.i=j)→(listed.setIfInBounds j true).toList.count false≤fuel→
   wpOp P ops (fun e a' w'=>∃μ' env' h',Q e env' h'∧SimA nt μ' env' h' a' w'∧WStep μ0 w0 μ' w') j (wpAny P .any ops (fun e a' w'=>∃μ' env' h',Q e env' h'∧SimA nt μ' env' h' a' w'∧WStep μ0 w0 μ' w') fuel (listed.setIfInBounds j true)) a w):
 ∀(fuel:Nat) (listed:Array Bool) (a:Act) (w:World) (R:List Ent) (h1:Hp) (μ:Mu) (hS:Hp),Inv P nt hS env ks sc ops.size ops (fun env h=>Q .normal env h) μ0 w0 listed a w R h1 μ→L≤R.length→(R.length=L→X R h1 hS∧∀x,sc[L]? =some x→2≤x.1)→listed.toList.count false≤fuel→
  wpAny P .any ops (fun e a' w'=>∃μ' env' h',Q e env' h'∧SimA nt μ' env' h' a' w'∧WStep μ0 w0 μ' w') fuel listed a w:=by
  have done:∀listed a w R h1 μ hS,Inv P nt hS env ks sc ops.size ops (fun env h=>Q .normal env h) μ0 w0 listed a w R h1 μ→(∀i,i<ops.size→listed.getD i false=true)→
   ∃μ' env' h',Q .normal env' h'∧SimA nt μ' env' h' a w∧WStep μ0 w0 μ' w:=by
   intro listed a w R h1 μ hS V hall
   have hend:sc.length≤R.length:=by
    rcases Nat.lt_or_ge R.length sc.length with hlt|hge
    ·exfalso
     obtain ⟨o,k,ho,_⟩:=S.deps R.length hlt
     have:=V.freshR S hlt (Nat.le_refl _)
     rw[hall _ (Array.getElem?_eq_some_iff.1 ho).1] at this
     cases this
    ·exact hge
   have hq:=V.run
   rw[List.drop_eq_nil_of_le hend] at hq
   refine ⟨μ,envOf R env,h1++hS,hq,⟨V.sim,fun t g v e=>?_,V.tmps,V.defers⟩,V.step⟩
   have ex:∀x∈R,listed.getD x.i false=true:=by
    intro x hx
    obtain ⟨pre,post,e⟩:=List.append_of_mem hx
    obtain ⟨q1,q2,_⟩:=pos_at (V.al pre x post e)
    obtain ⟨o,k,ho,_⟩:=S.deps post.length q1
    have:=hall _ (Array.getElem?_eq_some_iff.1 ho).1
    rw[q2] at this
    exact this
   rcases envOf_lk e with ⟨x,hx,hd,rfl,rfl⟩|⟨hno,hl⟩
   ·exact V.told x hx (ex x hx) t hd
   ·exact V.base t g v (fun x hx _=>hno x hx) hl
  intro fuel
  induction fuel with
  |zero=>
   intro listed a w R h1 μ hS V _ _ hcnt
   have hall:∀i,i<ops.size→listed.getD i false=true:=by
    intro i hi
    have hi':i<listed.size:=by rw[V.size];exact hi
    have h0:listed.toList.count false=0:=by omega
    rw[List.count_eq_zero] at h0
    cases hb:listed.getD i false with
    |true=>rfl
    |false=>
     exfalso
     apply h0
     have:listed[i]=false:=by simpa[Array.getD,hi'] using hb
     rw[←this]
     simp
   refine ⟨?_,done _ _ _ _ _ _ _ V hall⟩
   cases hr:Region.ready .any ops listed with
   |nil=>rfl
   |cons j r=>
    exfalso
    have hj:j∈Region.ready .any ops listed:=by rw[hr];simp
    obtain ⟨hun,o,ho,_⟩:=mem_ready.1 hj
    have hlt:=(Array.getElem?_eq_some_iff.1 ho).1
    have h3:=hall j hlt
    have hlt':j<listed.size:=by rw[V.size];exact hlt
    simp[Array.getD,hlt'] at h3 hun
    rw[hun] at h3
    cases h3
  |succ fuel ih=>
   intro listed a w R0 h1 μ hS V0 hL0 hX0 hcnt
   refine ⟨fun hr=>?_,fun j hj=>?_⟩
   ·have hall:∀p,p<sc.length→listed.getD (ixAt sc p) false=true:=by
     intro p
     induction p using Nat.strongRecOn with
     |_ p ihp=>
      intro hp
      obtain ⟨o,k,ho,hk,hdep⟩:=S.deps p hp
      have hi:=(Array.getElem?_eq_some_iff.1 ho).1
      have hi':ixAt sc p<listed.size:=by rw[V0.size];exact hi
      cases hb:listed.getD (ixAt sc p) false with
      |true=>rfl
      |false=>
       exfalso
       have hmem:ixAt sc p∈Region.ready .any ops listed:=by
        rw[mem_ready]
        refine ⟨by simpa[Array.getD,hi'] using hb,o,ho,fun e he hbd=>?_⟩
        obtain ⟨q,hq,hqe⟩:=hdep e he hbd
        rw[←hqe]
        exact ihp q hq (by omega)
       rw[hr] at hmem
       cases hmem
    refine done _ _ _ _ _ _ _ V0 fun i hi=>?_
    obtain ⟨p,hp,rfl⟩:=S.sur i hi
    exact hall p hp
   ·obtain ⟨R,V,hnext,hLR,hX⟩:∃R,Inv P nt hS env ks sc ops.size ops (fun env h=>Q .normal env h) μ0 w0 listed a w R h1 μ∧(∀x,sc[R.length]? =some x→2≤x.1)∧L≤R.length∧(R.length=L→X R h1 hS):=by
     by_cases hn:∀x,sc[R0.length]? =some x→2≤x.1
     ·exact ⟨R0,V0,hn,hL0,fun e=>(hX0 e).1⟩
     ·obtain ⟨R',V',hn',hle⟩:=Inv.unrollR S _ R0 h1 μ (Nat.le_refl _) V0
      have hne:R0.length≠L:=fun e=>hn (by rw[e];exact (hX0 e).2)
      exact ⟨R',V',hn',by omega,fun e=>by omega⟩
    clear V0 hL0 hX0 R0
    obtain ⟨hun,o,ho,hafter⟩:=mem_ready.1 hj
    have hlt:=(Array.getElem?_eq_some_iff.1 ho).1
    have hlt':j<listed.size:=by rw[V.size];exact hlt
    have hunF:listed.getD j false=false:=by simpa[Array.getD,hlt'] using hun
    obtain ⟨kj,hkj,hop,hdst,hguard⟩:=hops j o ho
    have getj:∀i,(listed.setIfInBounds j true).getD i false=true→i=j∨listed.getD i false=true:=by
     intro i hi
     by_cases hij:i=j
     ·exact .inl hij
     ·right
      rw[getD_set_ne false (fun e=>hij e.symm)] at hi
      exact hi
    have setj:(listed.setIfInBounds j true).getD j false=true:=by simp[Array.getD,hlt']
    have hcnt':(listed.setIfInBounds j true).toList.count false≤fuel:=by
     have hlj:listed.toList[j]'(by simpa using hlt')=false:=by simpa[Array.getD,hlt'] using hunF
     have hc0:0<listed.toList.count false:=by
      rw[List.count_pos_iff]
      rw[←hlj]
      exact List.getElem_mem _
     refine Nat.le_trans (Nat.le_of_eq (show _=listed.toList.count false-1 from ?_)) (by omega)
     rw[Array.toList_setIfInBounds,List.count_set (by simpa using hlt'),hlj]
     rfl
    have hclo:∀i,(listed.setIfInBounds j true).getD i false=true→∀o,ops[i]? =some o→∀e∈o.after,Region.binds .any e=true→(listed.setIfInBounds j true).getD e.on false=true:=by
     intro i hi oi hoi e he hb
     rcases getj i hi with rfl|hi
     ·rw[ho] at hoi
      injection hoi with hoi
      subst hoi
      exact getD_set_true (hafter e he hb)
     ·exact getD_set_true (V.clo i hi oi hoi e he hb)
    by_cases hin:∃x∈R,x.i=j
    · -- what was revealed
      obtain ⟨x,hx,hxj⟩:=hin
      obtain ⟨pre,post,eR⟩:=List.append_of_mem hx
      obtain ⟨p1,p2,p3⟩:=pos_at (V.al pre x post eR)
      obtain ⟨k,f1,f2,f3,f4,f5,f6,f7,f8⟩:=V.facts.at eR
      rw[hxj,hkj] at f1
      injection f1 with f1
      subst f1
      have hkd:x.kd<2:=by
       rcases Nat.lt_or_ge x.kd 2 with h|h
       ·exact h
       ·have:=f8 h;rw[hxj,hunF] at this;cases this
      obtain ⟨d,hd⟩:=Option.ne_none_iff_exists'.1 (f4 hkd)
      have hvok:x.gc=true→VOK P nt (h1++hS) (keepE (readsK kj) (envOf post env)) kj.i x.v:=by
       intro hg
       rcases Nat.lt_or_ge x.kd 1 with h|h
       ·exact AX.VOK.sub (f6 (by omega) (by rw[hxj];exact hunF) hg) V.hsub
       ·exact f7 (by omega) (by rw[hxj];exact hunF) hg
      have reads:∀t g' v',t∈readsK kj→lk (envOf post env) t=some (g',v')→AM.Told μ w a t g' v':=by
       intro t g' v' ht hl
       have hkx:ks[ixAt sc post.length]? =some kj:=by rw[p2,hxj];exact hkj
       have ho':ops[ixAt sc post.length]? =some o:=by rw[p2,hxj];exact ho
       rcases envOf_lk hl with ⟨y,hy,hyd,rfl,rfl⟩|⟨hno,hl⟩
       ·obtain ⟨pre2,post2,e2⟩:=List.append_of_mem hy
        have eR2:R=(pre++x::pre2)++y::post2:=by rw[eR,e2];simp
        obtain ⟨y1,y2,_⟩:=pos_at (V.al _ _ _ eR2)
        have hlen:post2.length<post.length:=by rw[e2];simp;omega
        obtain ⟨ky,g1,g2,_⟩:=V.facts.at eR2
        rcases (S.rw post.length post2.length p1 y1 (by omega) kj ky t hkx (by rw[y2];exact g1) (by rw[←g2];exact hyd)).2 ht with ⟨_,he⟩|⟨hlt2,_⟩
        ·obtain ⟨e,he1,he2,he3⟩:=edge_of he ho'
         refine V.told y (by rw[eR2];simp) ?_ t hyd
         have:=hafter e he1 he2
         rw[he3,y2] at this
         exact this
        ·omega
       ·refine V.base t g' v' (fun z hz hzl hzd=>?_) hl
        obtain ⟨pre3,post3,e3⟩:=List.append_of_mem hz
        obtain ⟨z1,z2,_⟩:=pos_at (V.al _ _ _ e3)
        obtain ⟨kz,g1,g2,_⟩:=V.facts.at e3
        have hne:post3.length≠post.length:=by
         intro hh
         have:z.i=x.i:=by rw[←z2,←p2,hh]
         rw[this,hxj,hunF] at hzl;cases hzl
        have hnp:z∉post:=fun hzp=>hno z hzp hzd
        have hge:post.length≤post3.length:=by
         rcases Nat.lt_or_ge post3.length post.length with h5|h5
         ·exact (hnp (suf_mem eR e3 h5)).elim
         ·exact h5
        rcases (S.rw post.length post3.length p1 z1 (by omega) kj kz t hkx (by rw[z2];exact g1) (by rw[←g2];exact hzd)).2 ht with ⟨h5,_⟩|⟨_,he⟩
        ·omega
        ·obtain ⟨oz,kz2,hoz,_⟩:=S.deps post3.length z1
         obtain ⟨e,he1,he2,he3⟩:=edge_of he hoz
         have:=V.clo (ixAt sc post3.length) (by rw[z2];exact hzl) oz hoz e he1 he2
         rw[he3,p2,hxj,hunF] at this
         cases this
      have hSA:SimA nt μ (keepE (readsK kj) (envOf post env)) (h1++hS) a w:=by
       refine ⟨V.sim,fun t g' v' e=>?_,V.tmps,V.defers⟩
       rw[lk_keepE] at e
       by_cases ht:t∈readsK kj
       ·rw[if_pos ht] at e;exact reads t g' v' ht e
       ·rw[if_neg ht] at e;cases e
      have hgc':gcOf (keepE (readsK kj) (envOf post env)) kj.g=some x.gc:=by rw[gcOf_same same_keepE];exact f5
      have hsays:=gc_ok hSA hgc'
      have hwant:Region.wanted o (yielded ops a.tmps)=x.gc:=by
       rw[wanted_of hguard]
       cases hkg:kj.g with
       |none=>rw[hkg] at hsays;simp only[GcSays] at hsays;simp[wantG,hsays]
       |some p=>
        obtain ⟨dg,want⟩:=p
        rw[hkg] at hsays
        simp only[GcSays] at hsays
        simp only[wantG]
        cases hgcv:x.gc with
        |true=>rw[hsays.1 hgcv];simp
        |false=>
         have hne:=hsays.2 hgcv
         split
         ·rename_i b hb;simpa using hne b hb
         ·rfl
      have hdn:d<nt:=f3 d hd
      have after:∀c w',(x.gc=true→VR μ w' x.v c)→(x.gc=false→c=undef)→Step μ w μ w'→Sim μ (h1++hS) w'→
       Inv P nt hS env ks sc ops.size ops (fun env h=>Q .normal env h) μ0 w0 (listed.setIfInBounds j true) (a.put o.dst c) w' R h1 μ:=by
       intro c w' hc1 hc2 st hsim
       rw[hdst,hd]
       have hgetd:(a.put (some d) c).tmps.getD d undef=c:=by
        have:d<a.tmps.size:=by rw[V.tmps];exact hdn
        simp[Act.put,this]
       refine ⟨V.al,V.run,by simp[V.size],hsim,V.hsub,by rw[put_size];exact V.tmps,by rw[put_defers];exact V.defers,V.step.trans st,hclo,fun i hi=>?_,?_,fun y hy hyl d' hd'=>?_,fun t g' v' hno hlkt=>?_⟩
       ·rcases getj i hi with rfl|hi
        ·exact ⟨x,hx,hxj⟩
        ·exact V.sub i hi
       ·exact V.facts.mono (fun y _ hy=>getD_set_true hy) (fun _ _ _ _=>rfl)
       ·rcases getj y.i hyl with hyj|hyl
        · -- the operation itself
          obtain ⟨pre4,post4,e4⟩:=List.append_of_mem hy
          obtain ⟨y1,y2,_⟩:=pos_at (V.al _ _ _ e4)
          have hpp:post4.length=post.length:=by
           by_cases hh:post4.length=post.length
           ·exact hh
           ·exact (S.inj post.length post4.length p1 y1 (fun e=>hh e.symm) (by rw[y2,p2,hyj,hxj])).elim
          have hyx:y=x:=by
           have h5:R[pre4.length]? =some y:=by rw[e4];simp
           have h6:R[pre.length]? =some x:=by rw[eR];simp
           have h7:pre4.length=pre.length:=by
            have q1:=congrArg List.length e4
            have q2:=congrArg List.length eR
            simp at q1 q2
            omega
           rw[h7,h6] at h5
           injection h5 with h5
           exact h5.symm
          subst hyx
          rw[f2,hd] at hd'
          injection hd' with hd'
          subst hd'
          unfold AM.Told
          rw[hgetd]
          exact ⟨hc1,hc2⟩
        ·have hne:d≠d':=by
          rintro rfl
          obtain ⟨pre4,post4,e4⟩:=List.append_of_mem hy
          obtain ⟨y1,y2,_⟩:=pos_at (V.al _ _ _ e4)
          obtain ⟨ky,g1,g2,_⟩:=V.facts.at e4
          have hpp:post.length≠post4.length:=by
           intro hh
           have:y.i=x.i:=by rw[←y2,←p2,hh]
           rw[this,hxj,hunF] at hyl;cases hyl
          exact (S.rw post.length post4.length p1 y1 hpp kj ky d (by rw[p2,hxj];exact hkj) (by rw[y2];exact g1) (by rw[←g2];exact hd')).1 hd
         exact ((V.told y hy hyl d' hd').mono st).put hne
       ·have hne:d≠t:=by
         rintro rfl
         exact hno x hx (by rw[hxj];exact setj) (by rw[f2];exact hd)
        exact ((V.base t g' v' (fun y hy hyl=>hno y hy (getD_set_true hyl)) hlkt).mono st).put hne
      unfold wpOp
      rw[ho]
      simp only[hwant]
      cases hgcv:x.gc with
      |false=>
       simp only[Bool.false_eq_true,if_false]
       exact ih _ _ _ _ _ _ _ (after undef w (fun e=>by rw[hgcv] at e;cases e) (fun _=>rfl) (Step.refl _ _) V.sim) hLR (fun e=>⟨hX e,fun z hz=>hnext z (by rw[e];exact hz)⟩) hcnt'
      |true=>
       simp only[if_true]
       left
       refine Oper.wp_mono' (fun _ _ hh=>hh) (fun _ _ _ hf=>hf.elim) (hvok hgcv o μ a w hop hSA _ fun c w' hcv hb=>?_)
       exact ih _ _ _ _ _ _ _ (after c w' (fun _=>hcv) (fun e=>by rw[hgcv] at e;cases e) (Step.of_below V.sim.muok hb) (V.sim.below hb)) hLR (fun e=>⟨hX e,fun z hz=>hnext z (by rw[e];exact hz)⟩) hcnt'
    ·by_cases hnb:R.length=L∧exB x0 j=true
     ·exact hand fuel listed a w R h1 μ hS j V hnb.1 (hX hnb.1) hj hnb.2 hin hcnt'
     -- what turns rows
     obtain ⟨p,hp,hpj⟩:=S.sur j hlt
     have hpR:R.length≤p:=by
      rcases Nat.lt_or_ge p R.length with h5|h5
      ·exfalso
       have h6:R.length-1-p<R.length:=by omega
       have eR:R=R.take (R.length-1-p)++R[R.length-1-p]::R.drop (R.length-1-p+1):=by
        rw[←List.drop_eq_getElem_cons h6,List.take_append_drop]
       obtain ⟨_,q2,_⟩:=pos_at (V.al _ _ _ eR)
       have h7:(R.drop (R.length-1-p+1)).length=p:=by simp;omega
       rw[h7] at q2
       exact hin ⟨_,List.getElem_mem h6,by rw[←q2,hpj]⟩
      ·exact h5
     have hlast:R.length<sc.length:=by omega
     obtain ⟨kd,hkdx⟩:∃kd,sc[R.length]? =some (kd,ixAt sc R.length):=by
      refine ⟨sc[R.length].1,?_⟩
      rw[List.getElem?_eq_getElem hlast]
      simp[ixAt,List.getElem?_eq_getElem hlast]
     have hkd2:=hnext _ hkdx
     simp only at hkd2
     have hkE:kindAt sc R.length=2:=by rw[(pos_at hkdx).2.2];omega
     have hpe:p=R.length:=by
      rcases Nat.eq_or_lt_of_le hpR with h5|h5
      ·exact h5.symm
      ·exfalso
       rcases S.aft p R.length hp h5 hkE with ⟨hex,hex2⟩|⟨r,r1,r2,r3⟩
       ·exact hnb ⟨hex,by rw[hpj] at hex2;exact hex2⟩
       rw[hpj] at r3
       obtain ⟨e,he1,he2,he3⟩:=edge_of r3 ho
       have:=hafter e he1 he2
       rw[he3,V.freshR S (by omega) r1] at this
       cases this
     subst hpe
     have hdrop:sc.drop R.length=(kd,j)::sc.drop (R.length+1):=by
      rw[List.drop_eq_getElem_cons hlast,(List.getElem?_eq_some_iff.1 hkdx).2,hpj]
     have hrun':=V.run
     rw[hdrop] at hrun'
     obtain ⟨kd',rfl⟩:∃kd',kd=kd'+2:=⟨kd-2,by omega⟩
     obtain ⟨k,e1,e2,e3,e4⟩:=hrun'
     rw[hkj] at e1
     injection e1 with e1
     subst e1
     have ones:∀(m:Nat) (pre:List Ent) (x:Ent) (post:List Ent),R.length-post.length≤m→R=pre++x::post→x.kd=1→listed.getD x.i false=true:=by
      intro m
      induction m with
      |zero=>intro pre x post hm eR _;rw[eR] at hm;simp at hm;omega
      |succ m ihm=>
       intro pre x post hm eR hk1
       obtain ⟨p1,p2,p3⟩:=pos_at (V.al pre x post eR)
       have hlenR:post.length<R.length:=by rw[eR];simp;omega
       have hk1':kindAt sc post.length=1:=by rw[p3];omega
       obtain ⟨q,hq,hq1,hq2,hq3⟩:=nextE_spec hlenR hlast hkE
       obtain ⟨r,r1,r2,r3,r4⟩:=S.one post.length p1 hk1' q hq
       have hrdone:(∀o',ops[ixAt sc r]? =some o'→∀e∈o'.after,Region.binds .any e=true→listed.getD e.on false=true):=by
        intro o' ho' e he hb
        rcases Nat.lt_or_ge r R.length with h5|h5
        ·have h6:R.length-1-r<R.length:=by omega
         have eR':R=R.take (R.length-1-r)++R[R.length-1-r]::R.drop (R.length-1-r+1):=by
          rw[←List.drop_eq_getElem_cons h6,List.take_append_drop]
         have h7:(R.drop (R.length-1-r+1)).length=r:=by simp;omega
         obtain ⟨_,s2,s3⟩:=pos_at (V.al _ _ _ eR')
         rw[h7] at s2 s3
         refine V.clo (ixAt sc r) ?_ o' ho' e he hb
         rw[s2]
         rcases r3 with hr1|rfl
         ·refine ihm _ _ _ (by rw[h7];omega) eR' ?_
          rw[hr1] at s3
          omega
         ·obtain ⟨_,_,_,_,_,_,_,_,f8⟩:=V.facts.at eR'
          refine f8 ?_
          rw[hq3] at s3
          omega
        ·have hrR:r=R.length:=by omega
         subst hrR
         rw[hpj,ho] at ho'
         injection ho' with ho'
         subst ho'
         exact hafter e he hb
       have hr_lt:r<sc.length:=by omega
       obtain ⟨o',k',ho',_⟩:=S.deps r hr_lt
       obtain ⟨e,he1,he2,he3⟩:=edge_of r4 ho'
       have:=hrdone o' ho' e he1 he2
       rw[he3,p2] at this
       exact this
     have reads:∀t g' v',t∈readsK kj→lk (envOf R env) t=some (g',v')→AM.Told μ w a t g' v':=by
      intro t g' v' ht hl
      have hkx:ks[ixAt sc R.length]? =some kj:=by rw[hpj];exact hkj
      have ho':ops[ixAt sc R.length]? =some o:=by rw[hpj];exact ho
      rcases envOf_lk hl with ⟨y,hy,hyd,rfl,rfl⟩|⟨hno,hl⟩
      ·obtain ⟨pre2,post2,e2'⟩:=List.append_of_mem hy
       obtain ⟨y1,y2,_⟩:=pos_at (V.al _ _ _ e2')
       have hlen:post2.length<R.length:=by rw[e2'];simp;omega
       obtain ⟨ky,g1,g2,_⟩:=V.facts.at e2'
       rcases (S.rw R.length post2.length hp y1 (by omega) kj ky t hkx (by rw[y2];exact g1) (by rw[←g2];exact hyd)).2 ht with ⟨_,he⟩|⟨hlt2,_⟩
       ·obtain ⟨e,he1,he2,he3⟩:=edge_of he ho'
        refine V.told y hy ?_ t hyd
        have:=hafter e he1 he2
        rw[he3,y2] at this
        exact this
       ·omega
      ·exact V.base t g' v' (fun z hz _ hzd=>hno z hz hzd) hl
     have hSA:SimA nt μ (keepE (readsK kj) (envOf R env)) (h1++hS) a w:=by
      refine ⟨V.sim,fun t g' v' e=>?_,V.tmps,V.defers⟩
      rw[lk_keepE] at e
      by_cases ht:t∈readsK kj
      ·rw[if_pos ht] at e;exact reads t g' v' ht e
      ·rw[if_neg ht] at e;cases e
     have hwant:Region.wanted o (yielded ops a.tmps)=true:=by rw[wanted_of hguard,e2];rfl
     have hTL:=e4 [o] rfl (fun p hp=>by simp at hp;subst hp;exact ⟨hop,hdst⟩) μ a w hSA
     simp only[List.zip_cons_cons,List.zip_nil_right,wpK,e2] at hTL
     unfold wpOp
     rw[ho]
     simp only[hwant,if_true]
     left
     refine Oper.wp_mono' ?_ (fun _ _ _ hf=>hf.elim) (wp_put (fun a' w' hh=>by obtain ⟨_,_,_,_,s,_⟩:=hh;exact s.defers) hTL)
     rintro a' w' ⟨⟨μ',env',h',⟨v,hE,hT,hTe,rfl,rfl,hsubE,hDR⟩,s',st⟩,c,rfl⟩
     refine ih _ _ _ (⟨kd'+2,j,kj.d,true,v⟩::R) hE μ' hT ⟨?_,hDR,by simp[V.size],s'.sim,hsubE,s'.size,s'.defers,V.step.trans st,hclo,fun i hi=>?_,⟨⟨kj,hkj,rfl,e3,fun h=>by simp at h;omega,by rw[e2];rfl,fun h=>by simp at h,fun h=>by simp at h,fun _=>setj⟩,?_⟩,fun y hy hyl d' hd'=>?_,fun t g' v' hno hlkt=>?_⟩ (by rw[List.length_cons];omega) (fun e=>by rw[List.length_cons] at e;omega) hcnt'
     ·intro pre x post e
      cases pre with
      |nil=>simp only[List.nil_append,List.cons.injEq] at e;obtain ⟨rfl,rfl⟩:=e;rw[hkdx,hpj]
      |cons y pre=>simp only[List.cons_append,List.cons.injEq] at e;exact V.al pre x post e.2
     ·rcases getj i hi with rfl|hi
      ·exact ⟨⟨kd'+2,_,kj.d,true,v⟩,List.mem_cons_self,rfl⟩
      ·obtain ⟨x,hx1,hx2⟩:=V.sub i hi
       exact ⟨x,List.mem_cons_of_mem _ hx1,hx2⟩
     ·cases kd' with
      |zero=>
       rw[hTe rfl]
       refine V.facts.mono (fun y _ hy=>getD_set_true hy) (fun y hy hk1 hyl=>?_)
       exfalso
       obtain ⟨pre,post,eR⟩:=List.append_of_mem hy
       have h5:=ones _ pre y post (Nat.le_refl _) eR hk1
       have h6:=getD_set_true (i:=j) h5
       rw[hyl] at h6
       cases h6
      |succ kd'=>
       refine V.facts.all fun y hy=>getD_set_true ?_
       obtain ⟨pre,post,eR⟩:=List.append_of_mem hy
       obtain ⟨_,y2,_⟩:=pos_at (V.al _ _ _ eR)
       have hlen:post.length<R.length:=by rw[eR];simp;omega
       have he:=S.all3 R.length _ hkdx (by simp) post.length hlen
       rw[hpj] at he
       obtain ⟨e,he1,he2,he3⟩:=edge_of he ho
       have:=hafter e he1 he2
       rw[he3,y2] at this
       exact this
     ·rcases List.mem_cons.1 hy with rfl|hy
      ·simp only at hd' ⊢
       have h5:=s'.env d' true v (by rw[hd'];simp[putE,lk])
       exact h5
      ·have hyl':listed.getD y.i false=true:=by
        rcases getj y.i hyl with hyj|hyl
        ·exact (hin ⟨y,hy,hyj⟩).elim
        ·exact hyl
       have hne:∀dd,kj.d=some dd→dd≠d':=by
        rintro dd hdd rfl
        obtain ⟨pre4,post4,e4'⟩:=List.append_of_mem hy
        obtain ⟨y1,y2,_⟩:=pos_at (V.al _ _ _ e4')
        obtain ⟨ky,g1,g2,_⟩:=V.facts.at e4'
        have hlen:post4.length<R.length:=by rw[e4'];simp;omega
        exact (S.rw R.length post4.length hp y1 (by omega) kj ky dd (by rw[hpj];exact hkj) (by rw[y2];exact g1) (by rw[←g2];exact hd')).1 hdd
       have h5:=told_mono (V.told y hy hyl' d' hd') st
       rw[hdst]
       cases hkd5:kj.d with
       |none=>exact h5
       |some dd=>exact h5.put (hne dd hkd5)
     ·have h5:=told_mono (V.base t g' v' (fun y hy hyl=>hno y (List.mem_cons_of_mem _ hy) (getD_set_true hyl)) hlkt) st
      rw[hdst]
      cases hkd5:kj.d with
      |none=>exact h5
      |some dd=>
       refine h5.put ?_
       rintro rfl
       exact hno ⟨kd'+2,j,kj.d,true,v⟩ (by simp) setj hkd5
def DRunP (P:Program) (nt:Nat) (ks:List KO) (hS h:Hp) (K:Env→Prop):List (Nat×Nat)→Env→Prop
 |[],env=>K env
 |(0,i)::r,env=>∃k,ks[i]? =some k∧∃gc d v,gcOf env k.g=some gc∧k.d=some d∧d<nt∧(gc=true→VOK P nt hS (keepE (readsK k) env) k.i v)∧DRunP P nt ks hS h K r ((d,gc,v)::env)
 |(1,i)::r,env=>∃k,ks[i]? =some k∧∃gc d v,gcOf env k.g=some gc∧k.d=some d∧d<nt∧(gc=true→VOK P nt (h++hS) (keepE (readsK k) env) k.i v)∧DRunP P nt ks hS h K r ((d,gc,v)::env)
 |(_+2,_)::_,_=>False
theorem DRunP.get {K:Env→Prop} {env:Env}:∀(rest done:List (Nat×Nat)) (R:List Ent),R.length=done.length→(∀pre x post,R=pre++x::post→done[post.length]? =some (x.kd,x.i))→Facts P nt hS env ks (fun _=>false) h R→DRunP P nt ks hS h K rest (envOf R env)→
 ∃R',R'.length=(done++rest).length∧(∀pre x post,R'=pre++x::post→(done++rest)[post.length]? =some (x.kd,x.i))∧Facts P nt hS env ks (fun _=>false) h R'∧K (envOf R' env)
 |[],done,R,h1,h2,h3,h4=>⟨R,by simpa using h1,by simpa using h2,h3,h4⟩
 |(kd,i)::rest,done,R,h1,h2,h3,h4=>by
  have key:kd<2∧∃k,ks[i]? =some k∧∃gc d v,gcOf (envOf R env) k.g=some gc∧k.d=some d∧d<nt∧(kd=0→gc=true→VOK P nt hS (keepE (readsK k) (envOf R env)) k.i v)∧
   (kd=1→gc=true→VOK P nt (h++hS) (keepE (readsK k) (envOf R env)) k.i v)∧DRunP P nt ks hS h K rest ((d,gc,v)::envOf R env):=by
   match kd,h4 with
   |0,⟨k,q1,gc,d,v,q2,q3,q4,q5,q6⟩=>exact ⟨by omega,k,q1,gc,d,v,q2,q3,q4,fun _=>q5,(fun e=>by cases e),q6⟩
   |1,⟨k,q1,gc,d,v,q2,q3,q4,q5,q6⟩=>exact ⟨by omega,k,q1,gc,d,v,q2,q3,q4,(fun e=>by cases e),fun _=>q5,q6⟩
   |k+2,hf=>exact (show False from hf).elim
  obtain ⟨hk2,k,q1,gc,d,v,q2,q3,q4,q5,q6,q7⟩:=key
  have:=DRunP.get rest (done++[(kd,i)]) (⟨kd,i,some d,gc,v⟩::R) (by simp[h1]) (fun pre x post e=>by
   cases pre with
   |nil=>
    simp only[List.nil_append,List.cons.injEq] at e
    obtain ⟨rfl,rfl⟩:=e
    rw[List.getElem?_append_right (by omega),h1,Nat.sub_self]
    rfl
   |cons y pre=>
    simp only[List.cons_append,List.cons.injEq] at e
    have hlt:post.length<done.length:=by rw[←h1,e.2];simp;omega
    rw[List.getElem?_append_left hlt]
    exact h2 pre x post e.2) ⟨⟨k,q1,q3.symm,(fun d' hd'=>by rw[q3] at hd';injection hd' with hd';omega),(fun _=>by rw[q3];simp),q2,fun h _=>q5 h,fun h _=>q6 h,fun h=>absurd h (Nat.not_le_of_lt hk2)⟩,h3⟩ q7
  simpa[List.append_assoc] using this
def headB (r1 r2:List (Nat×Nat)) (jb:Nat):Bool:=match r1,r2 with
 |(k1,_)::_,(k2,j)::_=>decide (2≤k1)&&decide (2≤k2)&&j==jb
 |_,_=>false
theorem TK.drwB {ops:Array Oper} {ks:List KO} (sc0 r1 r2:List (Nat×Nat)) (jb:Nat) (hm:P.follows .mixedOrders=true) (hc1:okSchedB sc0.length (some jb) ops ks (sc0++r1)=true) (hc2:okSchedB sc0.length none ops ks (sc0++r2)=true) (hh:headB r1 r2 jb=true)
 (hsub:HSub hS (h++hS)) (hrun:DRunP P nt ks hS h (fun env'=>DRunA P nt ks (fun env h=>Q .normal env h) r1 hS env' h∧DRunA P nt ks (fun env h=>Q .normal env h) r2 hS env' h) sc0 env):TK P nt (.drw ops ks) Q env (h++hS):=by
 have S1:=okSchedB_ok hc1
 have S2:=okSchedB_ok hc2
 obtain ⟨k1,j1,r1',k2,r2',rfl,rfl,hk1,hk2⟩:∃k1 j1 r1' k2 r2',r1=(k1,j1)::r1'∧r2=(k2,jb)::r2'∧2≤k1∧2≤k2:=by
  unfold headB at hh
  split at hh
  ·rename_i a b c d e f
   simp only[Bool.and_eq_true,decide_eq_true_eq,beq_iff_eq] at hh
   obtain ⟨⟨x1,x2⟩,x3⟩:=hh
   subst x3
   exact ⟨_,_,_,_,_,rfl,rfl,x1,x2⟩
  ·cases hh
 intro c hc μ0 a0 w0 hs
 cases c<;>(try simp[cookC] at hc)
 case seq x y=>split at hc<;>simp at hc
 case cond x y z=>split at hc<;>simp at hc
 case region id ops' dr=>
  cases dr with
  |false=>simp[cookC] at hc
  |true=>
   simp only[cookC,Option.map_eq_some_iff] at hc
   obtain ⟨ks',h1,h2⟩:=hc
   injection h2 with h2a h2b
   subst h2a h2b
   obtain ⟨hl,hz⟩:=cookL_at h1
   have hops:∀(j:Nat) (o:Oper),ops'[j]? =some o→∃k,ks'[j]? =some k∧cookOp o.op=some k.i∧o.dst=k.d∧cookG ops' o.guard=some k.g:=by
    intro j o ho
    obtain ⟨hj,rfl⟩:=Array.getElem?_eq_some_iff.1 ho
    have hlk:ks'.length=ops'.size:=by simpa using hl.symm
    have hj':j<ks'.length:=by omega
    refine ⟨ks'[j],by simp[hj'],?_⟩
    refine cookO_at (hz (ops'[j],ks'[j]) ?_)
    rw[List.mem_iff_getElem]
    exact ⟨j,by simp only[List.length_zip,Array.length_toList];omega,by simp⟩
   refine wp_region_any hm ?_
   have hb0:Below w0.heap.size w0 { w0 with drawn:=w0.drawn+1 }:=⟨rfl,rfl,rfl,Nat.le_refl _,fun _ _=>rfl⟩
   have st0:=Step.of_below hs.sim.muok hb0
   obtain ⟨R0,g1,g2,g3,g4,g5⟩:=DRunP.get sc0 [] [] rfl (fun pre x post e=>by cases pre<;>cases e) trivial hrun
   simp only[List.nil_append] at g1 g2
   have hl0:∀i,(Array.replicate ops'.size false).getD i false=false:=by
    intro i
    by_cases hlt:i<ops'.size<;>simp[Array.getD,hlt]
   have V1:Inv P nt hS env ks' (sc0++(k1,j1)::r1') ops'.size ops' (fun env h=>Q .normal env h) μ0 w0 (Array.replicate ops'.size false) a0 { w0 with drawn:=w0.drawn+1 } R0 h μ0:=by
    refine ⟨fun pre x post e=>?_,?_,by simp,hs.sim.below hb0,hsub,hs.size,hs.defers,st0,fun i hi=>?_,fun i hi=>?_,?_,fun x _ hx=>?_,fun t g v _ hlkt=>AM.Told.mono (hs.env t g v hlkt) st0⟩
    ·have hlt:post.length<sc0.length:=by rw[←g1,e];simp;omega
     rw[List.getElem?_append_left hlt]
     exact g2 pre x post e
    ·rw[g1,List.drop_left]
     exact g4
    ·rw[hl0] at hi;cases hi
    ·rw[hl0] at hi;cases hi
    ·have:(fun i=>(Array.replicate ops'.size false).getD i false)=fun _=>false:=funext hl0
     rw[this]
     exact g3
    ·rw[hl0] at hx;cases hx
   refine drw_main S1 hops (fun R h1 hS=>DRunA P nt ks' (fun env h=>Q .normal env h) ((k2,jb)::r2') hS (envOf R env) h1) ?_ ops'.size _ a0 _ R0 h μ0 hS V1 (by omega) (fun _=>⟨g5,fun z hz=>by
    rw[List.getElem?_append_right (Nat.le_refl _),Nat.sub_self] at hz
    simp only[List.getElem?_cons_zero,Option.some.injEq] at hz
    subst hz
    exact hk1⟩) (by simp)
   intro fuel listed a w R h1 μ hS j V hRL hX hj hex hin hcnt
   have hjb:j=jb:=by simpa[exB] using hex
   subst hjb
   have V2:Inv P nt hS env ks' (sc0++(k2,j)::r2') ops'.size ops' (fun env h=>Q .normal env h) μ0 w0 listed a w R h1 μ:=by
    refine ⟨fun pre x post e=>?_,?_,V.size,V.sim,V.hsub,V.tmps,V.defers,V.step,V.clo,V.sub,V.facts,V.told,V.base⟩
    ·have hlt:post.length<sc0.length:=by rw[←hRL,e];simp;omega
     have:=V.al pre x post e
     rw[List.getElem?_append_left hlt] at this ⊢
     exact this
    ·rw[hRL,List.drop_left]
     exact hX
   refine turn_step S2 hops V2 (kd:=k2) (by rw[hRL,List.getElem?_append_right (Nat.le_refl _),Nat.sub_self];rfl) hk2 hj hin ?_
   intro a' w' R' h1' μ' hS' V' hR'
   exact drw_main S2 hops (fun _ _ _=>False) (fun _ _ _ _ _ _ _ _ _ _ _ hf=>hf.elim) fuel _ a' w' R' h1' μ' hS' V' (by omega) (fun e=>by omega) hcnt
theorem DP0 {Z:Env→Prop} {r:List (Nat×Nat)} {i d:Nat} {g:Option (Nat×Bool)} {I':I} {gc:Bool} {v:AV} (hk:ks[i]? =some ⟨some d,g,I'⟩) (hv:gc=true→VOK P nt hS (keepE (readsK ⟨some d,g,I'⟩) env) I' v) (hg:gcOf env g=some gc) (hd:Nat.ble (d+1) nt=true)
 (rest:DRunP P nt ks hS h Z r ((d,gc,v)::env)):DRunP P nt ks hS h Z ((0,i)::r) env:=⟨_,hk,gc,d,v,hg,rfl,Nat.le_of_ble_eq_true hd,hv,rest⟩
theorem DPend {Z:Env→Prop} (hz:Z env):DRunP P nt ks hS h Z [] env:=hz
end
end Go.AX

namespace Go.AX
open Go.AM
theorem FUEL_eq:FUEL=4611686018427387904:=by unfold FUEL;rfl
theorem iter_inv {σ ρ:Type} {f:σ→Option (σ ⊕ ρ)} (I:σ→Prop) (R:ρ→Prop) (m:σ→Nat)
 (step:∀s,I s→(∃s',f s=some (.inl s')∧I s'∧m s'<m s)∨(∃r,f s=some (.inr r)∧R r)):∀n s,I s→m s<n→∃r,iter f n s=some r∧R r
 |0,s,_,hm=>by omega
 |n+1,s,hI,hm=>by
  rcases step s hI with ⟨s',h1,h2,h3⟩|⟨r,h1,h2⟩
  ·obtain ⟨r,h4,h5⟩:=iter_inv I R m step n s' h2 (by omega)
   exact ⟨r,by simp only[iter,h1,h4],h5⟩
  ·exact ⟨r,by simp only[iter,h1],h2⟩
theorem run_inv {σ ρ:Type} {f:σ→Option (σ ⊕ ρ)} (I:σ→Prop) (R:ρ→Prop) (m:σ→Nat) {s:σ} (h0:I s) (hm:m s≤4000000000000000000)
 (step:∀s,I s→(∃s',f s=some (.inl s')∧I s'∧m s'<m s)∨(∃r,f s=some (.inr r)∧R r)):∃r,run f s=some r∧R r:=by
 unfold run
 exact iter_inv I R m step _ s h0 (by rw[FUEL_eq];omega)
theorem run_is {σ ρ:Type} {f:σ→Option (σ ⊕ ρ)} (r:ρ) (I:σ→Prop) (m:σ→Nat) {s:σ} (h0:I s) (hm:m s≤4000000000000000000)
 (step:∀s,I s→(∃s',f s=some (.inl s')∧I s'∧m s'<m s)∨f s=some (.inr r)):run f s=some r:=by
 obtain ⟨r',h1,h2⟩:=run_inv I (fun x=>x=r) m h0 hm (fun s hs=>(step s hs).imp id fun h=>⟨r,h,rfl⟩)
 rw[h1,h2]
section
variable {α:Type}
theorem getI_nat {xs:List α} {i:Nat} (h:i<xs.length):getI xs (i:Int)=some xs[i]:=by
 unfold getI
 rw[if_pos (by omega)]
 simp[h]
theorem need_is {c:Prop} [Decidable c] (h:c):need c=some ():=by unfold need;rw[if_pos h]
@[simp] theorem optG_true [Inhabited α] (o:Option α):optG true o=o:=rfl
@[simp] theorem optG_false [Inhabited α] (o:Option α):optG false o=some default:=rfl
theorem wr_id {x:Int} (h1: -9223372036854775808≤x) (h2:x≤9223372036854775807):wr x=x:=wr_eq h1 h2
theorem wr_succ {n:Nat} (h:n<9223372036854775807):wr ((n:Int)+1)=((n+1:Nat):Int):=by rw[wr_eq (by omega) (by omega)];omega
theorem nilU_same {ρ:Type} [DecidableEq ρ] {xs:List α} {k:Bool→Option ρ} {r:ρ} (h1:xs=[]→k true=some r) (h2:k false=some r):nilU xs k=some r:=by
 unfold nilU
 split
 ·rw[h1 rfl,h2];simp
 ·exact h2
end
end Go.AX

namespace Go.AX
open Go.AM Go.RowKit
def Grid {α:Type} [Enc α] (e:TypeId):Hp→List AV→List (List α)→Prop
 |[],[],[]=>True
 |(b,r)::T,c::cs,xs::xss=>(r=RL e xs∧c=OL b xs)∧Grid e T cs xss
 |_,_,_=>False
section
variable {α:Type} [Enc α] {e:TypeId}
theorem Grid.len:∀{T:Hp} {cs:List AV} {xss:List (List α)},Grid e T cs xss→T.length=xss.length∧cs.length=xss.length
 |[],[],[],_=>⟨rfl,rfl⟩
 |(b,r)::T,c::cs,xs::xss,h=>by
  obtain ⟨h1,h2⟩:=Grid.len h.2
  exact ⟨by simp[h1],by simp[h2]⟩
theorem Grid.at:∀{T:Hp} {cs:List AV} {xss:List (List α)} {k:Nat} {a:List α},Grid e T cs xss→xss[k]? =some a→∃nm,T[k]? =some (nm,RL e a)∧cs[k]? =some (OL nm a)
 |[],[],[],_,_,_,ha=>by simp at ha
 |(b,r)::T,c::cs,xs::xss,0,a,h,ha=>by
  simp only[List.getElem?_cons_zero,Option.some.injEq] at ha
  subst ha
  obtain ⟨⟨rfl,rfl⟩,_⟩:=h
  exact ⟨b,rfl,rfl⟩
 |(b,r)::T,c::cs,xs::xss,k+1,a,h,ha=>by
  simp only[List.getElem?_cons_succ] at ha ⊢
  exact Grid.at h.2 ha
theorem Grid.set:∀{T:Hp} {cs:List AV} {xss:List (List α)} {k nm:Nat} {a ys:List α},Grid e T cs xss→T[k]? =some (nm,RL e a)→Grid e (T.set k (nm,RL e ys)) (cs.set k (OL nm ys)) (xss.set k ys)
 |[],[],[],_,_,_,_,_,ha=>by simp at ha
 |(b,r)::T,c::cs,xs::xss,0,nm,a,ys,h,ha=>by
  simp only[List.getElem?_cons_zero,Option.some.injEq,Prod.mk.injEq] at ha
  obtain ⟨rfl,_⟩:=ha
  exact ⟨⟨rfl,rfl⟩,h.2⟩
 |(b,r)::T,c::cs,xs::xss,k+1,nm,a,ys,h,ha=>by
  simp only[List.getElem?_cons_succ] at ha
  exact ⟨h.1,Grid.set h.2 ha⟩
theorem Grid.push:∀{T:Hp} {cs:List AV} {xss:List (List α)} {nm:Nat} {ys:List α},Grid e T cs xss→Grid e (T++[(nm,RL e ys)]) (cs++[OL nm ys]) (xss++[ys])
 |[],[],[],_,_,_=>⟨⟨rfl,rfl⟩,trivial⟩
 |_::_,_::_,_::_,_,_,h=>⟨h.1,Grid.push h.2⟩
end
theorem pickT_eq {h:Hp} {is:List Nat} {n:Nat} (hn:n≤h.length):pick h is++h.drop n=pick h (is++(List.range (h.length-n)).map (n+·)):=by
 have h1:∀(l r:List Nat),pick h (l++r)=pick h l++pick h r:=by
  intro l r
  induction l with
  |nil=>rfl
  |cons i l ih=>
   simp only[List.cons_append,pick]
   split<;>simp[ih]
 rw[h1]
 congr 1
 have h2:∀m,n+m≤h.length→pick h ((List.range m).map (n+·))=(h.drop n).take m:=by
  intro m
  induction m with
  |zero=>intro _;simp[pick]
  |succ m ih=>
   intro hm
   rw[List.range_succ,List.map_append,h1,ih (by omega)]
   have hlt:n+m<h.length:=by omega
   simp only[List.map_cons,List.map_nil,pick,List.getElem?_eq_getElem hlt]
   rw[List.take_add_one,List.getElem?_drop,List.getElem?_eq_getElem hlt]
   rfl
 rw[h2 _ (by omega),List.take_of_length_le (by simp)]
theorem pickT_nodup {is:List Nat} {n m:Nat} (hd:is.Nodup) (hb:∀i∈is,i<n):(is++(List.range m).map (n+·)).Nodup:=by
 rw[List.nodup_append]
 refine ⟨hd,?_,fun a ha b hb'=>?_⟩
 ·rw[List.nodup_iff_pairwise_ne,List.pairwise_map]
  exact List.Pairwise.imp (fun h=>by omega) (List.pairwise_lt_range (n:=m))
 ·obtain ⟨k,_,rfl⟩:=List.mem_map.1 hb'
  have:=hb a ha
  omega
theorem Nd.pickT {h:Hp} (nd:Nd h) (n:Nat) {is:List Nat} (hd:is.Nodup) (hb:∀i∈is,i<n) (hn:n≤h.length):Nd (AX.pick h is++h.drop n):=by
 rw[pickT_eq hn]
 exact nd.pick (pickT_nodup hd hb)
theorem HSub.pickT {h:Hp} (nd:Nd h) (n:Nat) {is:List Nat} (hd:is.Nodup) (hb:∀i∈is,i<n) (hn:n≤h.length):HSub (AX.pick h is++h.drop n) h:=by
 rw[pickT_eq hn]
 exact HSub.pick nd (pickT_nodup hd hb)
section
variable {C:Cx} {P:Program} {nt:Nat} {env:Env} {h hS:Hp} {K:Env→Hp→Prop} {Q:Post} {gc gx gy:Bool} {t:TypeId} {x y:X} {u:AV} {α β:Type} [Enc α] [Enc β]
theorem HSub_perm {h h':Hp} (nd:Nd h) (hp:∀p,p∈h'→p∈h):HSub h' h:=by
 intro b r hb
 have:∀{g:Hp},g.get b=some r→(b,r)∈g:=by
  intro g
  induction g with
  |nil=>intro hh;cases hh
  |cons p g ih=>
   obtain ⟨z,q⟩:=p
   intro hh
   simp only[Hp.get] at hh
   by_cases hz:z=b
   ·rw[if_pos hz] at hh
    injection hh with hh
    subst hz;subst hh
    exact List.mem_cons_self
   ·rw[if_neg hz] at hh
    exact List.mem_cons_of_mem _ (ih hh)
 obtain ⟨j,hj⟩:=List.getElem?_of_mem (hp _ (this hb))
 exact nd.get hj
theorem TL.gridUp {ks:List KO} {b:Nat} {ty e:TypeId}:∀(m:Nat) {h T:Hp} {cs:List AV} {xss:List (List α)},Nd ((b,RV ty (cs++List.replicate m .nils))::(h++T))→Grid e T cs xss→
 (∀T' cs',Grid e T' cs' (xss++List.replicate m ([]:List α))→Nd ((b,RV ty cs')::(h++T'))→TL P nt ks K env ((b,RV ty cs')::(h++T')))→
 TL P nt ks K env ((b,RV ty (cs++List.replicate m .nils))::(h++T))
 |0,h,T,cs,xss,nd,hG,k=>by
  simp only[List.replicate_zero,List.append_nil] at nd k ⊢
  exact k T cs hG nd
 |m+1,h,T,cs,xss,nd,hG,k=>by
  refine TL.ownC (α:=α) nd (j:=0) rfl cs.length e (.inl (by simp)) fun b' nd'=>?_
  have e1:(cs++List.replicate (m+1) AV.nils).set cs.length (OL b' ([]:List α))=(cs++[OL b' ([]:List α)])++List.replicate m .nils:=by
   rw[List.replicate_succ,List.set_append_right _ _ (Nat.le_refl _),Nat.sub_self,List.set_cons_zero,List.append_assoc]
   rfl
  simp only[List.set_cons_zero] at nd' ⊢
  rw[e1] at nd' ⊢
  have hsub:HSub ((b,RV ty ((cs++[OL b' ([]:List α)])++List.replicate m .nils))::(h++(T++[(b',RL e ([]:List α))]))) ((b',RL e ([]:List α))::(b,RV ty ((cs++[OL b' ([]:List α)])++List.replicate m .nils))::(h++T)):=
   HSub_perm nd' fun p hp=>by
    simp only[List.mem_cons,List.mem_append,List.not_mem_nil,or_false] at hp ⊢
    rcases hp with h1|h1|h1|h1
    ·exact .inr (.inl h1)
    ·exact .inr (.inr (.inl h1))
    ·exact .inr (.inr (.inr h1))
    ·exact .inl h1
  refine TL.subH hsub ?_
  refine TL.gridUp m ?_ hG.push fun T' cs' hG' nd''=>k T' cs' (by rw[List.append_assoc] at hG';exact hG') nd''
  unfold Nd at nd' ⊢
  refine (List.Perm.nodup_iff ?_).1 nd'
  simp only[List.map_cons,List.map_append,List.map_nil]
  refine (List.Perm.swap _ _ _).trans (List.Perm.cons _ ?_)
  rw[←List.append_assoc]
  exact (List.perm_append_singleton _ _).symm
theorem TL.mkG {d:Nat} {e e':TypeId} {ei:TI} {q q':IntKind} {n:Int} {ks:List KO} (nd:Nd h) (hk:C.kd t=some (.slc e)) (he:C.ty e=some ei) (hs:ei.sz=1) (hz:ei.z 0= .nils)
 (hx:ev env x=(true,.int q n)) (hy:ev env y=(true,.int q' n)) (hby:0<ei.by') (hn:0≤n∧n*ei.by'≤281474976710656) (hd:Nat.ble (d+1) nt=true)
 (rest:∀b T cs,Grid e' T cs (List.replicate n.toNat ([]:List α))→Nd ((b,RV e cs)::(h++T))→TL C.P nt ks K ((d,true,OL b (List.replicate n.toNat ([]:List α)))::env) ((b,RV e cs)::(h++T))):TL C.P nt (⟨some d,none,.mk t x y⟩::ks) K env h:=by
 have hn2:n≤n*ei.by':=by
  have h1:n*1≤n*(ei.by':Int):=Int.mul_le_mul_of_nonneg_left (by omega) hn.1
  omega
 refine TL.mk rfl rfl (dlt hd) hk he hx hy hn.1 hn.2 (by omega) fun b hb=>?_
 refine TL.row_congr (r':=RV e (List.replicate n.toNat .nils)) rfl (by simp[RV,hs]) (fun i hi=>?_) ?_
 ·have hi':i<n.toNat:=by simpa[hs] using hi
  simp only[RV]
  rw[rep_at (by rw[hs];simpa using hi'),hs,Nat.mod_one,hz]
  simp[ofL,List.getD_eq_getElem?_getD,hi']
 ·have hnd:=nd.cons (RV e (List.replicate n.toNat .nils)) hb
  have:=TL.gridUp (α:=α) (P:=C.P) (nt:=nt) (env:=(d,true,OL b (List.replicate n.toNat ([]:List α)))::env) (K:=K) (ks:=ks) (b:=b) (ty:=e) (e:=e') n.toNat (h:=h) (T:=[]) (cs:=[]) (xss:=[]) (by simpa using hnd) trivial (fun T' cs' hG nd'=>rest b T' cs' (by simpa using hG) nd')
  simp only[List.nil_append,List.append_nil,OL,List.length_replicate] at this
  rw[hs]
  exact this
theorem p_iaG {e:TypeId} {ei:TI} {xss:List (List α)} {k:IntKind} {i:Int} {b:Nat} {cs:List AV} {T:Hp} {e':TypeId} (hG:Grid e' T cs xss) (hk:C.kd t=some (.slc e)) (he:C.ty e=some ei) (hs:ei.sz=1) (hx:ev env x=(gx,OL b xss)) (hy:ev env y=(gy,.int k i))
 (nd:Nd h) {j:Nat} {ty:TypeId} (hj:h[j]? =some (b,RV ty cs)) {a:List α} (hi:gc=true→getI xss i=some a) (hg:gc=true→gx=true∧gy=true:=by first|exact fun _=>⟨rfl,rfl⟩|simp_all):PVok C h env (.ia t x y) gc (.ref b i.toNat cs.length):=by
 have hl:=hG.len.2
 refine pvE (S:=(gx=true∧gy=true)∧(0≤i∧i<xss.length)∧refOK h b (xss.length*1)) ?_ fun e=>?_
 ·simp only[pv,hx,hy,iaA,hk,he]
  show (AV.ref b (0+i.toNat*ei.sz) (xss.length*1),(gx=true∧gy=true)∧(0≤i∧i<(xss.length:Int))∧refOK h b (xss.length*1))=_
  have e1:0+i.toNat*ei.sz=i.toNat:=by rw[hs];omega
  have e2:xss.length*1=cs.length:=by omega
  rw[e1,e2]
 ·obtain ⟨h1,h2,_⟩:=getI_in (hi e)
  exact ⟨hg e,⟨h1,h2⟩,refOK_of nd hj (by rw[Nat.mul_one];exact hl.symm)⟩
theorem p_ldG {e:TypeId} {ti:TI} {i:Int} {b nm:Nat} {cs:List AV} {a:List α} (ht:C.ty t=some ti) (hkn:ti.known=true) (hx:ev env x=(gx,.ref b i.toNat cs.length)) (nd:Nd h) {j:Nat} (hj:h[j]? =some (b,RV e cs)) (hc:cs[i.toNat]? =some (OL nm a))
 (ha:ti.isAgg=false) (hs:ti.sz=1) (hg:gc=true→gx=true:=by first|exact fun _=>rfl|simp_all):PVok C h env (.ld t x) gc (OL nm a):=p_ldV (l:=cs) ht hkn hx nd hj rfl hc ha hs hg
theorem gridAt {T:Hp} {cs:List AV} {xss:List (List α)} {i:Int} {a:List α} {e:TypeId} (hG:Grid e T cs xss) (hi:getI xss i=some a):∃nm,T[i.toNat]? =some (nm,RL e a)∧cs[i.toNat]? =some (OL nm a):=hG.at (getI_in hi).2.2
theorem setAt {γ:Type} {l:List γ} {k:Nat} {a b:γ} (h:l[k]? =some a):(l.set k b)[k]? =some b:=List.getElem?_set_self (List.getElem?_eq_some_iff.1 h).1
theorem len_geF (F T:Hp):F.length≤(F++T).length:=by simp
theorem TL.appG {d b k:Nat} {t' e:TypeId} {ei:TI} {xs ys:List α} {ks:List KO} {F T:Hp} (nd:Nd (F++T)) (hk:C.kd t=some (.slc e)) (hk':bytesOK C t') (he:C.ty e=some ei) (hs:ei.sz=Enc.sz α) (hx:ev env x=(true,OL b xs)) (hT:T[k]? =some (b,RL e xs))
 (hy:ev env y=(true,u)) (hsrc:Src (F++T) u ys) (hby:0<ei.by') (hlim:(xs.length+ys.length)*ei.by'≤140737488355328) (hd:Nat.ble (d+1) nt=true)
 (rest:Nd (F++T.set k (b,RL e (xs++ys)))→TL C.P nt ks K ((d,true,OL b (xs++ys))::env) (F++T.set k (b,RL e (xs++ys)))):TL C.P nt (⟨some d,none,.bi .append [t,t'] [x,y]⟩::ks) K env (F++T):=by
 refine TL.appO nd hk hk' he hs hx (j:=F.length+k) (by rw[List.getElem?_append_right (by omega),Nat.add_sub_cancel_left];exact hT) hy hsrc hby hlim hd fun nd'=>?_
 have e1:(F++T).set (F.length+k) (b,RL e (xs++ys))=F++T.set k (b,RL e (xs++ys)):=by rw[List.set_append_right _ _ (by omega),Nat.add_sub_cancel_left]
 rw[e1] at nd' ⊢
 exact rest nd'
theorem TL.stG {b nm:Nat} {i:Int} {cs:List AV} {a ys:List α} {ti:TI} {ks:List KO} {F T:Hp} (nd:Nd (F++T)) (ht:C.ty t=some ti) (hx:ev env x=(true,.ref b i.toNat cs.length)) {j:Nat} {ty:TypeId} (hj:F[j]? =some (b,RV ty cs))
 (hc:cs[i.toNat]? =some (OL nm a)) (hy:ev env y=(true,OL nm ys)) {k:Nat} {e:TypeId} (hT:T[k]? =some (nm,RL e ys)) (hsz:ti.sz=1)
 (rest:Nd (F.set j (b,RV ty (cs.set i.toNat (OL nm ys)))++T)→TL C.P nt ks K env (F.set j (b,RV ty (cs.set i.toNat (OL nm ys)))++T)):TL C.P nt (⟨none,none,.st t x y⟩::ks) K env (F++T):=by
 have hlt:i.toNat<cs.length:=(List.getElem?_eq_some_iff.1 hc).1
 have hjl:j<F.length:=(List.getElem?_eq_some_iff.1 hj).1
 have hj':(F++T)[j]? =some (b,RV ty cs):=by rw[List.getElem?_append_left hjl];exact hj
 have hj2:(F++T)[F.length+k]? =some (nm,RL e ys):=by rw[List.getElem?_append_right (by omega),Nat.add_sub_cancel_left];exact hT
 have hr2:refOK (F++T) nm (ys.length*Enc.sz α):=refOK_of nd hj2 rfl
 have h1:oneA (F++T) (OL nm ys):=hr2
 refine TL.st (m:=1) (pc:=fun _=>OL nm ys) (S:=refOK (F++T) nm (ys.length*Enc.sz α)) (r:=RV ty cs) rfl rfl rfl ht hx (nd.get hj') (by rw[hy]) (by rw[hy];simp only[OL,cellsA]) hr2 hsz.symm (by simp only[RV];omega) (allOne_of fun d _=>h1) ?_
 refine TL.setrow (q:={ RV ty cs with cells:=putC (RV ty cs).cells i.toNat 1 (fun _=>OL nm ys) }) (q':=RV ty (cs.set i.toNat (OL nm ys))) nd hj' rfl (by simp[RV]) (fun k hk=>?_) fun nd'=>?_
 ·simp only[RV]
  rw[putC_ofL hlt]
 ·rw[List.set_append_left _ _ hjl] at nd' ⊢
  exact rest nd'
theorem layG0 {ty e:TypeId} {b j:Nat} {M:Env→Hp→Prop} (lay:∀{h:Hp} (_:Nd h) {jx bx:Nat} {r:Row},h[jx]? =some (bx,r)→∀{j2 b2:Nat} {ty:TypeId} {l2 l2':List AV},h[j2]? =some (b2,RV ty l2)→Nat.beq jx j2=false→FixR h bx l2 l2'→
 (Nd ((h.set j2 (b2,RV ty l2')).eraseIdx jx)→M env ((h.set j2 (b2,RV ty l2')).eraseIdx jx))→M env h):
 ∀(F T:Hp) (done cs:List AV) (xss:List (List α)),Nd (F++T)→F[j]? =some (b,RV ty (done++cs))→(∀c∈done,c.val)→Grid e T cs xss→
 (Nd (F.set j (b,RV ty (done++xss.map L)))→M env (F.set j (b,RV ty (done++xss.map L))))→M env (F++T)
 |F,[],done,[],[],nd,hj,_,_,k=>by
  rw[List.append_nil] at nd ⊢
  have e1:F.set j (b,RV ty (done++([]:List (List α)).map L))=F:=by
   apply List.ext_getElem?
   intro i
   by_cases h:j=i
   ·subst h;rw[List.getElem?_set_self (List.getElem?_eq_some_iff.1 hj).1,hj];rfl
   ·rw[List.getElem?_set_ne h]
  rw[e1] at k
  exact k nd
 |F,(nm,r)::T,done,c::cs,xs::xss,nd,hj,hd,hG,k=>by
  obtain ⟨⟨rfl,rfl⟩,hG⟩:=hG
  have hjl:j<F.length:=(List.getElem?_eq_some_iff.1 hj).1
  have hj':(F++(nm,RL e xs)::T)[j]? =some (b,RV ty (done++OL nm xs::cs)):=by rw[List.getElem?_append_left hjl];exact hj
  have hx':(F++(nm,RL e xs)::T)[F.length]? =some (nm,RL e xs):=by rw[List.getElem?_append_right (Nat.le_refl _),Nat.sub_self];rfl
  have fixR:∀{h:Hp} (l:List AV),FixR h nm l l:=by
   intro h l
   induction l with
   |nil=>trivial
   |cons v l ih=>exact ⟨fix_id v,ih⟩
  have fixA:∀(d:List AV),FixR (F++(nm,RL e xs)::T) nm (d++OL nm xs::cs) (d++L xs::cs):=by
   intro d
   induction d with
   |nil=>exact ⟨fix_OL nd hx',fixR cs⟩
   |cons v d ih=>exact ⟨fix_id v,ih⟩
  refine lay nd hx' hj' (by cases hq:Nat.beq F.length j with|false=>rfl|true=>have:=Nat.eq_of_beq_eq_true hq;omega) (fixA done) fun nd'=>?_
  have e1:((F++(nm,RL e xs)::T).set j (b,RV ty (done++L xs::cs))).eraseIdx F.length=F.set j (b,RV ty (done++L xs::cs))++T:=by
   rw[List.set_append_left _ _ hjl,List.eraseIdx_append_of_length_le (by simp)]
   simp
  rw[e1] at nd' ⊢
  have e2:done++L xs::cs=(done++[L xs])++cs:=by simp
  refine layG0 lay (F.set j (b,RV ty (done++L xs::cs))) T (done++[L xs]) cs xss nd' (by rw[List.getElem?_set_self hjl,e2]) (fun c hc=>?_) hG fun nd''=>?_
  ·rcases List.mem_append.1 hc with h|h
   ·exact hd c h
   ·rw[List.mem_singleton.1 h];exact L_val xs
  ·rw[List.set_set] at nd'' ⊢
   have e3:(done++[L xs])++xss.map L=done++(xs::xss).map L:=by simp
   rw[e3] at nd'' ⊢
   exact k nd''
theorem RV_L {ty:TypeId} {xss:List (List α)}:(RV ty (xss.map L)).ty=(RL ty xss).ty∧(RL ty xss).m=(RV ty (xss.map L)).m∧∀i,i<(RV ty (xss.map L)).m→(RL ty xss).cells i=(RV ty (xss.map L)).cells i:=by
 refine ⟨rfl,by simp[RL,RV,Enc.sz],fun i hi=>?_⟩
 have hi':i<xss.length:=by simpa[RV] using hi
 simp only[RL,RV]
 show rowL 1 ec xss i=_
 rw[rowL_split (by omega),Nat.div_one,List.getElem?_eq_getElem hi',Nat.mod_one]
 simp[ofL,List.getD_eq_getElem?_getD,hi']
 rfl
theorem TK.layG {c:KC} {ty e:TypeId} {b:Nat} {cs:List AV} {xss:List (List α)} (F T:Hp) (nd:Nd (F++T)) {j:Nat} (hj:F[j]? =some (b,RV ty cs)) (hG:Grid e T cs xss)
 (k:Nd (F.set j (b,RL ty xss))→TK P nt c Q env (F.set j (b,RL ty xss))):TK P nt c Q env (F++T):=by
 refine layG0 (M:=fun env h=>TK P nt c Q env h) (fun nd _ _ _ h1 _ _ _ _ _ h2 h3 h4 k=>TK.layR [] nd h1 _ h2 h3 h4 trivial k) F T [] cs xss nd hj (fun c hc=>by cases hc) hG fun nd'=>?_
 have hj':(F.set j (b,RV ty ([]++xss.map L)))[j]? =some (b,RV ty (xss.map L)):=by rw[List.getElem?_set_self (List.getElem?_eq_some_iff.1 hj).1];rfl
 obtain ⟨h1,h2,h3⟩:=RV_L (ty:=ty) (xss:=xss)
 obtain ⟨hu,nd''⟩:=nd'.upd (r':=RL ty xss) hj'
 rw[List.set_set] at nd''
 intro c' hc μ a w s
 have S:=Sim.set_congr (r':=RL ty xss) nd' hj' s.sim h1.symm h2 h3
 rw[List.set_set] at S
 exact k nd'' c' hc μ a w ⟨S,s.env,s.size,s.defers⟩
end
end Go.AX

namespace Go.AX
open Go.AM Go.RowKit
section
variable {μ:Mu} {h:Hp} {w:World} {P:Program}
theorem freeze_get {g o n k:Nat} {cs:Array Value} {ty:TypeId} (hg:w.heap[g]? =some (.cells cs ty (0,0))) (hn:n≠0):
 (w.freeze ⟨g,o,none⟩ n).heap[k]? =if k=g then some (.cells cs ty (o,o+n)) else w.heap[k]? :=by
 unfold World.freeze
 rw[if_neg hn]
 simp only[Array.getElem?_modify]
 by_cases hk:k=g
 ·subst hk
  rw[if_pos rfl,if_pos rfl,hg]
  simp
 ·rw[if_neg hk,if_neg fun e=>hk e.symm]
theorem Sim.mark (s:Sim μ h w) {b:Nat} {B:Blk} {cs:Array Value} {ty:TypeId} (hf:μ.f b=some B) (hB:w.heap[B.g]? =some (.cells cs ty (0,0))) (o:Nat) (hv0:μ.adr b=none):
 Step μ w (μ.less b) (w.freeze ⟨B.g,o,none⟩ 1)∧Sim (μ.less b) (h.del b) (w.freeze ⟨B.g,o,none⟩ 1):=by
 have hget:∀k,(w.freeze ⟨B.g,o,none⟩ 1).heap[k]? =if k=B.g then some (.cells cs ty (o,o+1)) else w.heap[k]? :=fun k=>freeze_get hB (by omega)
 have hsz:(w.freeze ⟨B.g,o,none⟩ 1).heap.size=w.heap.size:=by simp[World.freeze]
 have L:=Step.less (μ:=μ) (w:=w) (b:=b) hv0
 have st:Step μ w (μ.less b) (w.freeze ⟨B.g,o,none⟩ 1):=by
  refine ⟨⟨L.nx,L.old,L.vir,L.ban,fun g hg hk=>?_,fun g hg=>?_,by rw[hsz];exact Nat.le_refl _,rfl,rfl,rfl⟩,fun k a e B' ef=>⟨e,(L.hid k a e B' ef).2.1,by
   rw[hget,if_neg fun hh=>?_]
   have:=s.inj k b B' B ef hf hh
   subst this
   rw[hv0] at e;cases e⟩⟩
  ·rw[hget]
   rw[if_neg]
   rintro rfl
   rcases hk with hk|hk
   ·exact s.noban b B hf hk
   ·exact hk.2.2 b B hf rfl
  ·have h1:=L.sld g hg
   exact ⟨by rw[hsz];exact h1.1,h1.2.1,h1.2.2⟩
 refine ⟨st,⟨fun x r e=>?_,fun x x' B1 B2 e e' hg=>s.inj x x' B1 B2 (Mu.less_f e).2 (Mu.less_f e').2 hg,fun x B1 e=>?_,fun x hx=>s.vlt x hx.2,fun x B1 e=>s.noban x B1 (Mu.less_f e).2,fun g hg=>by rw[hsz];exact s.banlt g hg,fun k a e=>⟨by
  rw[Hp.get_del]
  split
  ·rfl
  ·exact (s.hadr k a e).1,(s.hadr k a e).2⟩⟩⟩
 ·rw[Hp.get_del] at e
  by_cases hx:x=b
  ·rw[if_pos hx] at e;cases e
  ·rw[if_neg hx] at e
   rcases s.row x r e with ⟨h1,h2,h3⟩|⟨B1,cs1,h0,h1,h2,h3,h4,h5,h6⟩
   ·exact .inl ⟨⟨hx,h1⟩,by simp only[Mu.less];rw[if_neg hx];exact h2,h3⟩
   ·have hne:B1.g≠B.g:=fun hh=>hx (s.inj x b B1 B h1 hf hh)
    refine .inr ⟨B1,cs1,fun hh=>h0 hh.2,by simp only[Mu.less];rw[if_neg hx];exact h1,h2,by rw[hget,if_neg hne];exact h3,h4,h5,fun i hi=>?_⟩
    obtain ⟨u,hu,hv⟩:=h6 i hi
    exact ⟨u,hu,VR.mono st _ _ hv⟩
 ·have:=s.lt x B1 (Mu.less_f e).2
  exact ⟨this.1,by rw[hsz];exact this.2⟩
end
section
variable {C:Cx} {nt:Nat} {env:Env} {h:Hp} {K:Env→Hp→Prop} {t:TypeId} {x:X}
theorem TL.cvtF {d b:Nat} {e:TypeId} {xs:List UInt8} {ks:List KO} (nd:Nd h) (hk:C.kd t=some (.slc e)) (he:C.kd e=some (.int .u8)) (hx:ev env x=(true,OL b xs)) {j:Nat} {ty:TypeId} (hj:h[j]? =some (b,RL ty xs)) (hpos:xs≠[]) (hd:Nat.ble (d+1) nt=true)
 (rest:Nd (h.eraseIdx j)→TL C.P nt ks K ((d,true,L xs)::env) (h.eraseIdx j)):TL C.P nt (⟨some d,none,.cvt t t x⟩::ks) K env h:=by
 refine TL.cons (gc:=true) rfl ?_ (fun e=>by cases e)
 intro o μ a w ho hdst s _ N hN
 obtain ⟨ox,hop,hcx⟩:=cvt_op ho
 have vx:=ev_ok hcx s.env (by rw[hx])
 rw[hx] at vx
 have hr:=nd.get hj
 have hlen:0<xs.length:=List.length_pos_iff.2 hpos
 obtain ⟨v1,v2,v3,v4⟩:=vx
 rcases s.sim.row b _ hr with ⟨_,_,h0⟩|⟨B,cs,hnv,q1,q2,q3,q4,q5,q6⟩
 ·simp only[RL,Enc.sz] at h0;omega
 obtain ⟨w1,w2⟩:=v4 B q1
 obtain ⟨cap,hv,hcap⟩:=w2 q2.symm
 obtain ⟨_,_,_,hK⟩:=kd_ok hk
 obtain ⟨_,_,_,hK2⟩:=kd_ok he
 have hrun:(execOp a.eval o).run C.P w= .ok (.value (.slice (some ⟨B.g,0,none⟩) xs.length cap)) (w.freeze ⟨B.g,cs.size,none⟩ 1):=by
  have hsh:w.shape? B.g=some (ty,cs.size):=by unfold World.shape?;rw[q3];rfl
  simp only[execOp,hop,convert,Sem.run_bind,run_und hK,Result.andThen_ok,hv]
  simp[run_und hK2,markStringish,shape,freeze,Sem.run,hsh]
 obtain ⟨st,s'⟩:=Sim.mark s.sim q1 q3 cs.size (s.sim.vis (nd.get hj))
 have s2:Sim (μ.less b) (h.eraseIdx j) (w.freeze ⟨B.g,cs.size,none⟩ 1):=Sim.sub s' fun x q e=>by
  obtain ⟨h1,h2⟩:=get_erase nd hj e
  rw[Hp.get_del,if_neg h1]
  exact h2
 unfold Oper.wp
 rw[hrun]
 simp only[Oper.upon]
 rw[hdst]
 refine hN _ _ _ _ _ (env_put (v:=L xs) s st s2 (dlt hd) ?_) st (rest (nd.erase j))
 refine Or.inr ⟨_,cap,rfl,?_,fun _=>⟨rfl,?_,?_,fun x B' e hg=>?_⟩,fun i hi=>?_⟩
 ·simp only[RL,Enc.sz] at q5
  simp only[Enc.sz] at hcap
  omega
 ·have:=(s.sim.lt b B q1).2
  simp only[World.freeze]
  rw[if_neg (by omega)]
  simpa using this
 ·exact s.sim.noban b B q1
 ·obtain ⟨h1,h2⟩:=Mu.less_f e
  exact h1 (s.sim.inj x b B' B h2 q1 hg)
 ·obtain ⟨u,hu,hv⟩:=q6 i hi
  refine ⟨u,?_,VR.mono st _ _ hv⟩
  unfold World.cell?
  rw[freeze_get q3 (by omega),if_pos rfl]
  simpa using hu
theorem TL.litO {α:Type} [Enc α] {d n:Nat} {ps:List (Nat×X)} {e:TypeId} {ei:TI} {ks:List KO} (nd:Nd h) (xs:List α) (hk:C.kd t=some (.slc e)) (he:C.ty e=some ei) (hs:ei.sz=Enc.sz α) (hl:LitL env 0 ps xs) (hn:n=xs.length)
 (hlim:Nat.ble (n*Enc.sz α) 16777216=true) (hd:Nat.ble (d+1) nt=true) (rest:∀b,Nd ((b,RL e xs)::h)→TL C.P nt ks K ((d,true,OL b xs)::env) ((b,RL e xs)::h)):TL C.P nt (⟨some d,none,.bsl t n ps⟩::ks) K env h:=by
 obtain ⟨l,S,h1,h2,h3,h4⟩:=litA_of (h:=h) hl
 refine TL.bsl rfl rfl (dlt hd) hk he (by rw[hs];exact Nat.le_of_ble_eq_true hlim) (by rw[hs];exact h1) h2 (by rw[h3,hn]) fun b hb=>?_
 have hv:(AV.sl (catC ei.sz l) (n*ei.sz) n)=L xs:=by
  unfold L VS
  rw[hn,hs]
  congr 1
  have:=VS_congr (e1:=fun (p:Nat→AV)=>p) (l:=l) (xs:=xs) rfl h3 h4
  rw[←this]
  simp[rowL]
 have hc:catC ei.sz l=rowL (Enc.sz α) ec xs:=by
  unfold L VS at hv
  injection hv
 have:=rest b (nd.cons _ hb)
 simp only[OL,RL] at this
 rw[hc,hs,hn]
 exact this
end
end Go.AX

namespace Go.AX
open Go.AM Go.RowKit
section
variable {C:Cx} {P:Program} {nt:Nat} {env:Env} {h:Hp} {K:Env→Hp→Prop} {Q:Post} {t:TypeId} {x y:X} {α:Type} [Enc α]
end
section
variable {P:Program} {nt:Nat} {env:Env} {h:Hp} {ks:List KO} {K:Env→Hp→Prop} {r:List (Nat×Nat)} {i:Nat}
theorem DRende (hK:K env h):DRun P nt [] ks K [] env h:=DRend (by rw[List.append_nil];exact hK)
end
end Go.AX

namespace Go.AX
open Go.AM Go.RowKit
section
variable {α:Type} [Enc α]
variable {e:TypeId} {ns ix:List Nat} {pl:List (List α)} {q b:Nat} {xs ys:List α} {i:Int}
theorem Grid.m {T:Hp} {cs:List AV} {xss:List (List α)} {ty:TypeId} (h:Grid e T cs xss):xss.length*Enc.sz (List α)=(RV ty cs).m:=by
 have:=h.len.2
 simp only[RV,Enc.sz];omega
end
section
variable {C:Cx} {P:Program} {nt:Nat} {env:Env} {h:Hp} {K:Env→Hp→Prop} {Q:Post} {gc gx gy:Bool} {t:TypeId} {x y:X} {u:AV} {α:Type} [Enc α] {ns ix:List Nat} {pl:List (List α)} {q b:Nat} {i:Int} {F:Hp} {e':TypeId}
theorem TL.litP {d:Nat} {e:TypeId} {ei:TI} {ks:List KO} {z:X} {xs:List α} (nd:Nd h) (hk:C.kd t=some (.slc e)) (he:C.ty e=some ei) (hs:ei.sz=1) (hz:ev env z=(true,OL b xs)) {j:Nat} {ty:TypeId} (hj:h[j]? =some (b,RL ty xs)) (hd:Nat.ble (d+1) nt=true)
 (rest:TL C.P nt ks K ((d,true,.sl (ofL [OL b xs]) 1 1)::env) h):TL C.P nt (⟨some d,none,.bsl t 1 [(0,z)]⟩::ks) K env h:=by
 have hr:refOK h b (xs.length*Enc.sz α):=refOK_of nd hj rfl
 refine TL.bslv (l:=[fun _=>OL b xs]) (S:=(0=0∧(ev env z).1=true∧refOK h b (xs.length*Enc.sz α)∧1=ei.sz)∧True) (gc:=true) rfl rfl (dlt hd) hk he (by rw[hs];omega) (by simp only[litA,hz,OL,cellsA]) (fun _=>⟨⟨rfl,by rw[hz],hr,hs.symm⟩,trivial⟩) rfl ?_
 have e1:catC ei.sz [fun _=>OL b xs]=ofL [OL b xs]:=by
  funext j
  rw[hs]
  cases j with
  |zero=>rfl
  |succ j=>simp[catC,ofL,List.getD_eq_getElem?_getD]
 rw[e1,hs]
 exact rest
end
end Go.AX
