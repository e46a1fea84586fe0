import Derived.Test.YtndjbcnpgggddaaXFn
import Derived.Test.YtndjbcnpgggddaaLibB
import Derived.Laws.RangeAny
import Derived.Laws.RangeString
set_option linter.unusedVariables false
set_option linter.unusedSimpArgs false
namespace Go.AX
theorem iter_more {σ ρ:Type} {f:σ→Option (σ ⊕ ρ)}:∀{n:Nat} {s:σ} {r:ρ} (k:Nat),iter f n s=some r→iter f (n+k) s=some r
 |0,_,_,_,h=>by simp[iter] at h
 |n+1,s,r,k,h=>by
  rw[Nat.add_right_comm]
  simp only[iter] at h ⊢
  cases hs:f s with
  |none=>rw[hs] at h;cases h
  |some q=>
   rw[hs] at h
   cases q with
   |inl s'=>exact iter_more k h
   |inr r'=>exact h
theorem run_few {σ ρ:Type} {f:σ→Option (σ ⊕ ρ)} {s:σ} {r:ρ} (n:Nat) (hn:n≤1000000) (h:iter f n s=some r):run f s=some r:=by
 unfold run
 rw[FUEL_eq,show (4611686018427387904:Nat)=n+(4611686018427387904-n) from by omega]
 exact iter_more _ h
theorem run_ix {σ ρ:Type} {f:σ×Int→Option ((σ×Int) ⊕ ρ)} {s0:σ} {a n:Nat} (I:Nat→σ→Prop) (R:ρ→Prop) (han:a≤n) (hn:n≤4000000000000000000) (h0:I a s0)
 (step:∀i s,a≤i→i<n→I i s→(∃s',f (s,(i:Int))=some (.inl (s',((i+1:Nat):Int)))∧I (i+1) s')∨∃r,f (s,(i:Int))=some (.inr r)∧R r)
 (fin:∀s,I n s→∃r,f (s,(n:Int))=some (.inr r)∧R r):∃r,run f (s0,(a:Int))=some r∧R r:=by
 refine run_inv (fun p=>∃i:Nat,p.2=(i:Int)∧a≤i∧i≤n∧I i p.1) R (fun p=>n-p.2.toNat) ⟨a,rfl,Nat.le_refl _,han,h0⟩ (by simp only;omega) ?_
 rintro ⟨s,x⟩ ⟨i,rfl,hai,hin,hI⟩
 rcases Nat.lt_or_ge i n with hlt|hge
 ·rcases step i s hai hlt hI with ⟨s',h1,h2⟩|h
  ·exact .inl ⟨_,h1,⟨i+1,rfl,by omega,by omega,h2⟩,by simp only;omega⟩
  ·exact .inr h
 ·have:i=n:=by omega
  subst this
  exact .inr (fin s hI)
theorem run_G {σ ρ:Type} {f:σ×Int→Option ((σ×Int) ⊕ ρ)} (G:Nat→σ) {s0:σ} {a n:Nat} {r:ρ} (han:a≤n) (hn:n≤4000000000000000000) (h0:s0=G a)
 (step:∀i,a≤i→i<n→f (G i,(i:Int))=some (.inl (G (i+1),((i+1:Nat):Int)))) (fin:f (G n,(n:Int))=some (.inr r)):run f (s0,(a:Int))=some r:=by
 obtain ⟨r',h1,h2⟩:=run_ix (f:=f) (s0:=s0) (a:=a) (n:=n) (fun i s=>s=G i) (fun x=>x=r) han hn h0 (fun i s hi hlt e=> .inl ⟨_,by rw[e];exact step i hi hlt,rfl⟩) (fun s e=>⟨r,by rw[e];exact fin,rfl⟩)
 rw[h1,h2]
theorem run_G0 {σ ρ:Type} {f:σ×Int→Option ((σ×Int) ⊕ ρ)} (G:Nat→σ) {s0:σ} {n:Nat} {r:ρ} (hn:n≤4000000000000000000) (h0:s0=G 0)
 (step:∀i,i<n→f (G i,(i:Int))=some (.inl (G (i+1),((i+1:Nat):Int)))) (fin:f (G n,(n:Int))=some (.inr r)):run f (s0,(0:Int))=some r:=
 run_G (a:=0) G (Nat.zero_le _) hn h0 (fun i _ h=>step i h) fin
theorem run_ix0 {σ ρ:Type} {f:σ×Int→Option ((σ×Int) ⊕ ρ)} {s0:σ} {n:Nat} (I:Nat→σ→Prop) (R:ρ→Prop) (hn:n≤4000000000000000000) (h0:I 0 s0)
 (step:∀i s,i<n→I i s→(∃s',f (s,(i:Int))=some (.inl (s',((i+1:Nat):Int)))∧I (i+1) s')∨∃r,f (s,(i:Int))=some (.inr r)∧R r)
 (fin:∀s,I n s→∃r,f (s,(n:Int))=some (.inr r)∧R r):∃r,run f (s0,(0:Int))=some r∧R r:=
 run_ix (a:=0) I R (Nat.zero_le _) hn h0 (fun i s _ h k=>step i s h k) fin
theorem run_se {ρ:Type} {f:Int→Option (Int ⊕ ρ)} {a n:Nat} (R:ρ→Prop) (I:Nat→Prop) (han:a≤n) (hn:n≤4000000000000000000) (h0:I a)
 (step:∀i,a≤i→i<n→I i→(f (i:Int)=some (.inl ((i+1:Nat):Int))∧I (i+1))∨∃r,f (i:Int)=some (.inr r)∧R r)
 (fin:I n→∃r,f (n:Int)=some (.inr r)∧R r):∃r,run f (a:Int)=some r∧R r:=by
 refine run_inv (fun x=>∃i:Nat,x=(i:Int)∧a≤i∧i≤n∧I i) R (fun x=>n-x.toNat) ⟨a,rfl,Nat.le_refl _,han,h0⟩ (by omega) ?_
 rintro x ⟨i,rfl,hai,hin,hI⟩
 rcases Nat.lt_or_ge i n with hlt|hge
 ·rcases step i hai hlt hI with ⟨h1,h2⟩|h
  ·exact .inl ⟨_,h1,⟨i+1,rfl,by omega,by omega,h2⟩,by omega⟩
  ·exact .inr h
 ·have:i=n:=by omega
  subst this
  exact .inr (fin hI)
theorem run_seE {ρ:Type} {f:Int→Option (Int ⊕ ρ)} {a n:Nat} {r:ρ} (I:Nat→Prop) (han:a≤n) (hn:n≤4000000000000000000) (h0:I a)
 (step:∀i,a≤i→i<n→I i→(f (i:Int)=some (.inl ((i+1:Nat):Int))∧I (i+1))∨f (i:Int)=some (.inr r))
 (fin:I n→f (n:Int)=some (.inr r)):run f (a:Int)=some r:=by
 obtain ⟨r',h1,h2⟩:=run_se (f:=f) (fun x=>x=r) I han hn h0 (fun i h1 h2 h3=>(step i h1 h2 h3).imp id fun h=>⟨r,h,rfl⟩) (fun h=>⟨r,fin h,rfl⟩)
 rw[h1,h2]
theorem run_ixE {σ ρ:Type} {f:σ×Int→Option ((σ×Int) ⊕ ρ)} {s0:σ} {n:Nat} {r:ρ} (I:Nat→σ→Prop) (hn:n≤4000000000000000000) (h0:I 0 s0)
 (step:∀i s,i<n→I i s→(∃s',f (s,(i:Int))=some (.inl (s',((i+1:Nat):Int)))∧I (i+1) s')∨f (s,(i:Int))=some (.inr r))
 (fin:∀s,I n s→f (s,(n:Int))=some (.inr r)):run f (s0,(0:Int))=some r:=by
 obtain ⟨r',h1,h2⟩:=run_ix0 (f:=f) (s0:=s0) I (fun x=>x=r) hn h0 (fun i s h1 h2=>(step i s h1 h2).imp id fun h=>⟨r,h,rfl⟩) (fun s h=>⟨r,fin s h,rfl⟩)
 rw[h1,h2]
def tab {α:Type} (n:Nat) (g:Nat→α):List α:=(List.range n).map g
section
variable {α:Type} {n:Nat} {g g':Nat→α}
@[simp] theorem tab_len:(tab n g).length=n:=by simp[tab]
theorem tab_get {i:Nat} (h:i<(tab n g).length):(tab n g)[i]=g i:=by simp[tab]
theorem tab_get? {i:Nat} (h:i<n):(tab n g)[i]? =some (g i):=by simp[tab,h]
theorem tab_congr (h:∀i,i<n→g i=g' i):tab n g=tab n g':=by
 unfold tab
 exact List.map_congr_left fun i hi=>h i (List.mem_range.1 hi)
theorem tab_set {i:Nat} {y:α}:(tab n g).set i y=tab n (fun j=>if j=i then y else g j):=by
 apply List.ext_getElem (by simp)
 intro j h1 h2
 rw[List.getElem_set,tab_get (by simpa using h2),tab_get h2]
 by_cases hij:i=j
 ·rw[if_pos hij,if_pos hij.symm]
 ·rw[if_neg hij,if_neg fun e=>hij e.symm]
theorem tab_rep {z:α}:List.replicate n z=tab n (fun _=>z):=by
 apply List.ext_getElem?
 intro j
 by_cases hj:j<n<;>simp[tab,hj]
theorem getI_tab {i:Nat} (h:i<n):getI (tab n g) (i:Int)=some (g i):=by rw[getI_nat (by simpa using h),tab_get]
theorem tab_succ:tab (n+1) g=tab n g++[g n]:=by simp[tab,List.range_succ]
theorem tab_all (z:α) (xs:List α):xs=tab xs.length (fun j=>xs.getD j z):=by
 apply List.ext_getElem?
 intro j
 by_cases hj:j<xs.length
 ·rw[tab_get? hj,List.getElem?_eq_getElem hj];simp[List.getD_eq_getElem?_getD,hj]
 ·rw[List.getElem?_eq_none (by omega),List.getElem?_eq_none (by simp;omega)]
theorem tab_getD {i:Nat} {z:α}:(tab n g).getD i z=if i<n then g i else z:=by
 by_cases h:i<n
 ·simp[tab,h,List.getD_eq_getElem?_getD]
 ·rw[if_neg h,List.getD_eq_getElem?_getD,List.getElem?_eq_none (by simp;omega)];rfl
theorem mem_tab {x:α}:x∈tab n g↔∃i,i<n∧g i=x:=by simp[tab]
theorem getI_getD {xs:List α} (z:α) {i:Nat} (h:i<xs.length):getI xs (i:Int)=some (xs.getD i z):=by
 rw[getI_nat h];simp[List.getD_eq_getElem?_getD,h]
theorem set_getD {xs:List α} {z:α} {i j:Nat} {y:α} (h:i<xs.length):(xs.set i y).getD j z=if j=i then y else xs.getD j z:=by
 simp only[List.getD_eq_getElem?_getD,List.getElem?_set]
 by_cases e:i=j
 ·subst e;simp[h]
 ·rw[if_neg e,if_neg fun h:j=i=>e h.symm]
theorem list_ext_getD (z:α) {xs ys:List α} (hl:xs.length=ys.length) (h:∀i,i<xs.length→xs.getD i z=ys.getD i z):xs=ys:=by
 rw[tab_all z xs,tab_all z ys,←hl]
 exact tab_congr h
end
end Go.AX
namespace Go.AX
namespace Gf
def all8 (p:UInt8→Bool):Bool:=(List.range 256).all fun n=>p (UInt8.ofNat n)
theorem all8_ok {p:UInt8→Bool} (h:all8 p=true) (a:UInt8):p a=true:=by
 unfold all8 at h
 rw[List.all_eq_true] at h
 have:=h a.toNat (List.mem_range.2 a.toNat_lt)
 simpa using this
theorem all8_eq {f g:UInt8→UInt8} (h:all8 (fun a=>f a==g a)=true) (a:UInt8):f a=g a:=by simpa using all8_ok h a
def xt (a:UInt8):UInt8:=if (a&&&128 !=0)=true then (a<<<1)^^^29 else a<<<1
def bit (a:UInt8) (i:Nat):Bool:=(a>>>UInt8.ofNat i)&&&1==1
def sel (c:Bool) (v:UInt8):UInt8:=if c then v else 0
def gmN:Nat→UInt8→UInt8→UInt8
 |0,_,_=>0
 |n+1,a,b=>sel (b&&&1==1) a^^^gmN n (xt a) (b>>>1)
def gm (a b:UInt8):UInt8:=gmN 8 a b
def Add (f:UInt8→UInt8):Prop:=∀x y,f (x^^^y)=f x^^^f y
theorem Add.zero {f:UInt8→UInt8} (h:Add f):f 0=0:=by
 have:=h 0 0
 simpa using this
theorem x4 (a b c d:UInt8):(a^^^b)^^^(c^^^d)=(a^^^c)^^^(b^^^d):=by
 rw[UInt8.xor_assoc,UInt8.xor_assoc,←UInt8.xor_assoc b c d,←UInt8.xor_assoc c b d,UInt8.xor_comm b c]
theorem Add.comp {f g:UInt8→UInt8} (h:Add f) (k:Add g):Add (fun x=>f (g x)):=fun x y=>by
 show f (g (x^^^y))=_
 rw[k x y,h]
theorem Add.xor {f g:UInt8→UInt8} (h:Add f) (k:Add g):Add (fun x=>f x^^^g x):=fun x y=>by
 show f (x^^^y)^^^g (x^^^y)=_
 rw[h x y,k x y,x4]
theorem Add.sel {f:UInt8→UInt8} (h:Add f) (c:Bool) (x:UInt8):f (sel c x)=Gf.sel c (f x):=by cases c<;>simp[Gf.sel,h.zero]
theorem Add.shr:Add (fun x=>x>>>1):=fun _ _=>UInt8.shiftRight_xor
theorem and_xor (x y z:UInt8):(x^^^y)&&&z=(x&&&z)^^^(y&&&z):=by
 rw[←UInt8.toBitVec_inj]
 ext i
 simp[Bool.and_xor_distrib_right]
theorem and1:∀a:UInt8,(a&&&1=0)∨(a&&&1=1):=fun a=>by
 have:=all8_ok (p:=fun a=>(a&&&1==0)||(a&&&1==1)) (by decide+kernel) a
 simpa using this
theorem low_xor (x y:UInt8):((x^^^y)&&&1==1)=((x&&&1==1) ^^ (y&&&1==1)):=by
 rw[and_xor]
 rcases and1 x with h|h<;>rcases and1 y with k|k<;>rw[h,k]<;>decide
theorem sel_xor (a b:Bool) (v:UInt8):sel (a ^^ b) v=sel a v^^^sel b v:=by cases a<;>cases b<;>simp[sel]
theorem sel_add (c:Bool):Add (sel c):=fun x y=>by cases c<;>simp[sel]
def xt' (a:UInt8):UInt8:=(a<<<1)^^^((a>>>7)^^^((a>>>7)<<<2)^^^((a>>>7)<<<3)^^^((a>>>7)<<<4))
theorem xt_eq:∀a,xt a=xt' a:=all8_eq (by decide+kernel)
theorem Add.xt:Add xt:=by
 have h7:Add (fun x=>x>>>7):=fun _ _=>UInt8.shiftRight_xor
 have hl:∀n:UInt8,Add (fun x=>x<<<n):=fun _ _ _=>UInt8.shiftLeft_xor
 have:Add xt':=Add.xor (f:=fun a=>a<<<1) (hl 1) (Add.xor (Add.xor (Add.xor h7 ((hl 2).comp h7)) ((hl 3).comp h7)) ((hl 4).comp h7))
 intro x y
 rw[xt_eq,xt_eq,xt_eq]
 exact this x y
theorem gmN_l:∀n b,Add (fun a=>gmN n a b)
 |0,b=>fun x y=>by simp[gmN]
 |n+1,b=>Add.xor (f:=fun a=>sel (b&&&1==1) a) (sel_add _) ((gmN_l n (b>>>1)).comp Add.xt)
theorem gmN_r:∀n a,Add (fun b=>gmN n a b)
 |0,a=>fun x y=>by simp[gmN]
 |n+1,a=>by
  refine Add.xor (f:=fun b=>sel (b&&&1==1) a) (fun x y=>?_) (Add.comp (f:=fun b=>gmN n (Gf.xt a) b) (gmN_r n (Gf.xt a)) Add.shr)
  show sel ((x^^^y)&&&1==1) a=_
  rw[low_xor,sel_xor]
theorem gm_l (b:UInt8):Add (fun a=>gm a b):=gmN_l 8 b
theorem gm_r (a:UInt8):Add (fun b=>gm a b):=gmN_r 8 a
theorem bits (a:UInt8):a=sel (bit a 0) 1^^^sel (bit a 1) 2^^^sel (bit a 2) 4^^^sel (bit a 3) 8^^^sel (bit a 4) 16^^^sel (bit a 5) 32^^^sel (bit a 6) 64^^^sel (bit a 7) 128:=
 all8_eq (f:=fun a=>a) (g:=fun a=>sel (bit a 0) 1^^^sel (bit a 1) 2^^^sel (bit a 2) 4^^^sel (bit a 3) 8^^^sel (bit a 4) 16^^^sel (bit a 5) 32^^^sel (bit a 6) 64^^^sel (bit a 7) 128) (by decide+kernel) a
theorem Add.eq {f g:UInt8→UInt8} (h:Add f) (k:Add g) (e:([1,2,4,8,16,32,64,128]:List UInt8).all (fun x=>f x==g x)=true) (a:UInt8):f a=g a:=by
 simp only[List.all_cons,List.all_nil,Bool.and_eq_true,beq_iff_eq,Bool.and_true] at e
 obtain ⟨e0,e1,e2,e3,e4,e5,e6,e7⟩:=e
 rw[bits a]
 simp only[h _ _,k _ _,Add.sel h,Add.sel k,e0,e1,e2,e3,e4,e5,e6,e7]
def p2:List UInt8:=[1,2,4,8,16,32,64,128]
theorem gm_comm (a b:UInt8):gm a b=gm b a:=by
 refine Add.eq (f:=fun a=>gm a b) (g:=fun a=>gm b a) (gm_l b) (gm_r b) ?_ a
 have h:p2.all (fun x=>p2.all fun y=>gm x y==gm y x)=true:=by decide+kernel
 rw[List.all_eq_true] at h
 rw[List.all_eq_true]
 intro x hx
 have:=Add.eq (f:=fun b=>gm x b) (g:=fun b=>gm b x) (gm_r x) (gm_l x) (h x hx) b
 simpa using this
theorem gm_assoc (a b c:UInt8):gm (gm a b) c=gm a (gm b c):=by
 refine Add.eq (f:=fun a=>gm (gm a b) c) (g:=fun a=>gm a (gm b c)) (Add.comp (gm_l c) (gm_l b)) (gm_l _) ?_ a
 have h:p2.all (fun x=>p2.all fun y=>p2.all fun z=>gm (gm x y) z==gm x (gm y z))=true:=by decide+kernel
 rw[List.all_eq_true] at h
 rw[List.all_eq_true]
 intro x hx
 have h2:=h x hx
 rw[List.all_eq_true] at h2
 have:=Add.eq (f:=fun b=>gm (gm x b) c) (g:=fun b=>gm x (gm b c)) (Add.comp (f:=fun v=>gm v c) (gm_l c) (gm_r x)) (Add.comp (f:=fun v=>gm x v) (gm_r x) (gm_l c)) (by
  rw[List.all_eq_true]
  intro y hy
  have:=Add.eq (f:=fun c=>gm (gm x y) c) (g:=fun c=>gm x (gm y c)) (gm_r _) (Add.comp (f:=fun v=>gm x v) (gm_r x) (gm_r y)) (h2 y hy) c
  simpa using this) b
 simpa using this
theorem gm_one (a:UInt8):gm a 1=a:=all8_eq (f:=fun a=>gm a 1) (g:=fun a=>a) (by decide+kernel) a
theorem one_gm (a:UInt8):gm 1 a=a:=by rw[gm_comm,gm_one]
theorem gm_zero (a:UInt8):gm a 0=0:=(gm_r a).zero
theorem zero_gm (a:UInt8):gm 0 a=0:=(gm_l a).zero
theorem gm_xor (a b c:UInt8):gm a (b^^^c)=gm a b^^^gm a c:=gm_r a b c
theorem xor_gm (a b c:UInt8):gm (a^^^b) c=gm a c^^^gm b c:=gm_l c a b
def inv (a:UInt8):UInt8:=
 let a2:=gm a a;let a4:=gm a2 a2;let a8:=gm a4 a4;let a16:=gm a8 a8;let a32:=gm a16 a16;let a64:=gm a32 a32;let a128:=gm a64 a64
 gm (gm (gm (gm (gm (gm (gm 1 a2) a4) a8) a16) a32) a64) a128
theorem gm_inv {a:UInt8} (h:a≠0):gm a (inv a)=1:=by
 have:=all8_ok (p:=fun a=>a==0||gm a (inv a)==1) (by decide+kernel) a
 simpa[h] using this
theorem inv_gm {a:UInt8} (h:a≠0):gm (inv a) a=1:=by rw[gm_comm,gm_inv h]
theorem gm_eq_zero {a b:UInt8} (h:gm a b=0):a=0∨b=0:=by
 by_cases ha:a=0
 ·exact .inl ha
 ·right
  rw[←one_gm b,←inv_gm ha,gm_assoc,h,gm_zero]
theorem inv_ne {a:UInt8} (h:a≠0):inv a≠0:=fun e=>by
 have:=gm_inv h
 rw[e,gm_zero] at this
 exact absurd this (by decide)
end Gf
end Go.AX
namespace Go.AX
open Go.AM
open Gf
theorem shr8_1 (a:UInt8):shr8 a 1=a>>>1:=all8_eq (f:=fun a=>shr8 a 1) (g:=fun a=>a>>>1) (by decide+kernel) a
theorem shl8_1 (a:UInt8):shl8 a 1=a<<<1:=all8_eq (f:=fun a=>shl8 a 1) (g:=fun a=>a<<<1) (by decide+kernel) a
theorem gm_step (a b:UInt8):gm a b=sel (b&&&1==1) a^^^gm (xt a) (b>>>1):=by
 have l2:∀b:UInt8,Gf.Add (fun a=>sel (b&&&1==1) a^^^gm (xt a) (b>>>1)):=fun b=>Gf.Add.xor (f:=fun a=>sel (b&&&1==1) a) (sel_add _) (Gf.Add.comp (f:=fun v=>gm v (b>>>1)) (gm_l _) Gf.Add.xt)
 have r2:∀a:UInt8,Gf.Add (fun b=>sel (b&&&1==1) a^^^gm (xt a) (b>>>1)):=fun a=>by
  refine Gf.Add.xor (f:=fun b=>sel (b&&&1==1) a) (fun x y=>?_) (Gf.Add.comp (f:=fun v=>gm (xt a) v) (gm_r _) Gf.Add.shr)
  show sel ((x^^^y)&&&1==1) a=_
  rw[low_xor,sel_xor]
 refine Gf.Add.eq (f:=fun a=>gm a b) (g:=fun a=>sel (b&&&1==1) a^^^gm (xt a) (b>>>1)) (gm_l b) (l2 b) ?_ a
 have h:p2.all (fun x=>p2.all fun y=>gm x y==sel (y&&&1==1) x^^^gm (xt x) (y>>>1))=true:=by decide+kernel
 rw[List.all_eq_true] at h
 rw[List.all_eq_true]
 intro x hx
 have:=Gf.Add.eq (f:=fun b=>gm x b) (g:=fun b=>sel (b&&&1==1) x^^^gm (xt x) (b>>>1)) (gm_r x) (r2 x) (h x hx) b
 simpa using this
theorem x_Mul (a b:UInt8):X.gf_Mul a b=some (gm a b):=by
 unfold X.gf_Mul
 have key:run X.gf_Mul_s6 (a,b,(0:UInt8))=some (gm a b):=by
  refine run_is (gm a b) (fun s=>s.2.2^^^gm s.1 s.2.1=gm a b) (fun s=>s.2.1.toNat) (by simp) (by have:=b.toNat_lt;simp only;omega) ?_
  rintro ⟨a',b',o⟩ hI
  simp only at hI
  unfold X.gf_Mul_s6
  simp only
  by_cases hb:b'=0
  ·right
   subst hb
   rw[gm_zero,UInt8.xor_zero] at hI
   simp[hI]
  ·left
   rw[if_pos (by simpa using hb)]
   have hlt:(b'>>>1).toNat<b'.toNat:=by
    have:=all8_ok (p:=fun b=>b==0||decide ((b>>>1).toNat<b.toNat)) (by decide+kernel) b'
    simpa[hb] using this
   have hx:∀o',X.gf_Mul_j17 a' b' o'=some (.inl (xt a',b'>>>1,o')):=by
    intro o'
    unfold X.gf_Mul_j17 X.gf_Mul_j14 xt
    rw[shl8_1,shr8_1]
    split<;>rfl
   refine ⟨(xt a',b'>>>1,sel (b'&&&1==1) a'^^^o),?_,?_,hlt⟩
   ·cases hc:(b'&&&(1:UInt8))==(1:UInt8) with
    |true=>rw[if_pos rfl,hx];simp[sel,UInt8.xor_comm]
    |false=>rw[if_neg (by simp),hx];simp[sel]
   ·rw[gm_step a' b'] at hI
    rw[←hI,UInt8.xor_comm _ o,UInt8.xor_assoc]
 rw[key];rfl
theorem x_Add (a b:UInt8):X.gf_Add a b=some (a^^^b):=rfl
theorem x_power (a:UInt8):X.gf_power a 254=some (inv a):=by
 unfold X.gf_power
 have key:run X.gf_power_s6 (a,(254:Int),(1:UInt8))=some (inv a):=by
  refine run_few 9 (by omega) ?_
  have e1:shr64 254 1=127:=by decide+kernel
  have e2:shr64 127 1=63:=by decide+kernel
  have e3:shr64 63 1=31:=by decide+kernel
  have e4:shr64 31 1=15:=by decide+kernel
  have e5:shr64 15 1=7:=by decide+kernel
  have e6:shr64 7 1=3:=by decide+kernel
  have e7:shr64 3 1=1:=by decide+kernel
  have e8:shr64 1 1=0:=by decide+kernel
  have f1:and64 254 1=0:=by decide+kernel
  have f2:and64 127 1=1:=by decide+kernel
  have f3:and64 63 1=1:=by decide+kernel
  have f4:and64 31 1=1:=by decide+kernel
  have f5:and64 15 1=1:=by decide+kernel
  have f6:and64 7 1=1:=by decide+kernel
  have f7:and64 3 1=1:=by decide+kernel
  have f8:and64 1 1=1:=by decide+kernel
  simp[iter,X.gf_power_s6,X.gf_power_j15,x_Mul,e1,e2,e3,e4,e5,e6,e7,e8,f1,f2,f3,f4,f5,f6,f7,f8,inv]
 rw[key];rfl
theorem x_Inv (a:UInt8):X.gf_Inv a=some (inv a):=by unfold X.gf_Inv;rw[x_power];rfl
end Go.AX
namespace Go.AX
namespace Gf
theorem xor_cancel {a b:UInt8} (h:a^^^b=0):a=b:=by
 have:(a^^^b)^^^b=b:=by rw[h,UInt8.zero_xor]
 rw[UInt8.xor_assoc,UInt8.xor_self,UInt8.xor_zero] at this
 exact this
def S:Nat→(Nat→UInt8)→UInt8
 |0,_=>0
 |n+1,f=>S n f^^^f n
theorem S_congr {f g:Nat→UInt8}:∀{n:Nat},(∀i,i<n→f i=g i)→S n f=S n g
 |0,_=>rfl
 |n+1,h=>by
  show S n f^^^f n=S n g^^^g n
  rw[S_congr fun i hi=>h i (by omega),h n (by omega)]
theorem S_zero {f:Nat→UInt8} {n:Nat} (h:∀i,i<n→f i=0):S n f=0:=by
 induction n with
 |zero=>rfl
 |succ n ih=>
  show S n f^^^f n=0
  rw[ih fun i hi=>h i (by omega),h n (by omega)];rfl
theorem S_xor (f g:Nat→UInt8):∀n,S n (fun i=>f i^^^g i)=S n f^^^S n g
 |0=>by simp[S]
 |n+1=>by
  show S n (fun i=>f i^^^g i)^^^(f n^^^g n)=(S n f^^^f n)^^^(S n g^^^g n)
  rw[S_xor f g n,x4]
theorem S_mul (c:UInt8) (f:Nat→UInt8):∀n,gm c (S n f)=S n (fun i=>gm c (f i))
 |0=>gm_zero c
 |n+1=>by
  show gm c (S n f^^^f n)=S n (fun i=>gm c (f i))^^^gm c (f n)
  rw[gm_xor,S_mul c f n]
theorem S_rmul (c:UInt8) (f:Nat→UInt8) (n:Nat):gm (S n f) c=S n (fun i=>gm (f i) c):=by
 rw[gm_comm,S_mul]
 exact S_congr fun i _=>gm_comm _ _
theorem S_swap (f:Nat→Nat→UInt8) (m:Nat):∀n,S n (fun i=>S m (fun j=>f i j))=S m (fun j=>S n (fun i=>f i j))
 |0=>(S_zero fun _ _=>rfl).symm
 |n+1=>by
  show S n (fun i=>S m (fun j=>f i j))^^^S m (fun j=>f n j)=S m (fun j=>S n (fun i=>f i j)^^^f n j)
  rw[S_swap f m n,S_xor]
theorem S_one (f:Nat→UInt8) (i:Nat):∀n,S n (fun j=>if j=i then f j else 0)=if i<n then f i else 0
 |0=>rfl
 |n+1=>by
  show S n (fun j=>if j=i then f j else 0)^^^(if n=i then f n else 0)=_
  rw[S_one f i n]
  by_cases h:n=i
  ·subst h;simp
  ·rw[if_neg h,UInt8.xor_zero]
   by_cases h2:i<n
   ·rw[if_pos h2,if_pos (by omega)]
   ·rw[if_neg h2,if_neg (by omega)]
theorem S_apart (f:Nat→UInt8) {i n:Nat} (h:i<n):S n f=f i^^^S n (fun j=>if j=i then 0 else f j):=by
 have:=S_xor (fun j=>if j=i then f j else 0) (fun j=>if j=i then 0 else f j) n
 rw[S_one,if_pos h] at this
 rw[←this]
 refine S_congr fun j _=>?_
 by_cases e:j=i
 ·rw[if_pos e,if_pos e,UInt8.xor_zero]
 ·rw[if_neg e,if_neg e,UInt8.zero_xor]
def e (r:List UInt8) (j:Nat):UInt8:=r.getD j 0
def row (l:List (List UInt8)) (i:Nat):List UInt8:=l.getD i []
def scl (r:List UInt8) (b:UInt8):List UInt8:=tab r.length (fun j=>gm (e r j) b)
def add (a b:List UInt8):List UInt8:=tab a.length (fun j=>e a j^^^e b j)
@[simp] theorem scl_len {r:List UInt8} {b:UInt8}:(scl r b).length=r.length:=tab_len
@[simp] theorem add_len {a b:List UInt8}:(add a b).length=a.length:=tab_len
theorem e_tab {n j:Nat} {g:Nat→UInt8} (h:j<n):e (tab n g) j=g j:=by unfold e;rw[tab_getD,if_pos h]
theorem e_scl {r:List UInt8} {b:UInt8} {j:Nat}:e (scl r b) j=gm (e r j) b:=by
 by_cases h:j<r.length
 ·exact e_tab h
 ·have h1:e (scl r b) j=0:=by unfold e scl;rw[tab_getD,if_neg h]
  have h2:e r j=0:=by unfold e;rw[List.getD_eq_getElem?_getD,List.getElem?_eq_none (by omega)];rfl
  rw[h1,h2,zero_gm]
theorem e_add {a b:List UInt8} {j:Nat} (h:j<a.length):e (add a b) j=e a j^^^e b j:=e_tab h
theorem getI_e {r:List UInt8} {j:Nat} (h:j<r.length):getI r (j:Int)=some (e r j):=getI_getD 0 h
theorem getI_row {l:List (List UInt8)} {j:Nat} (h:j<l.length):getI l (j:Int)=some (row l j):=getI_getD [] h
theorem row_tab {n j:Nat} {g:Nat→List UInt8} (h:j<n):row (tab n g) j=g j:=by unfold row;rw[tab_getD,if_pos h]
theorem row_mem {l:List (List UInt8)} {j:Nat} (h:j<l.length):row l j∈l:=by
 unfold row
 rw[List.getD_eq_getElem?_getD,List.getElem?_eq_getElem h]
 exact List.getElem_mem h
theorem mem_row {l:List (List UInt8)} {r:List UInt8} (h:r∈l):∃j,j<l.length∧row l j=r:=by
 obtain ⟨j,hj,rfl⟩:=List.getElem_of_mem h
 exact ⟨j,hj,by unfold row;rw[List.getD_eq_getElem?_getD,List.getElem?_eq_getElem hj];rfl⟩
theorem row_ext {a b:List UInt8} (hl:a.length=b.length) (h:∀j,j<a.length→e a j=e b j):a=b:=list_ext_getD 0 hl h
theorem rows_ext {a b:List (List UInt8)} (hl:a.length=b.length) (h:∀j,j<a.length→row a j=row b j):a=b:=list_ext_getD [] hl h
def piv (l:List (List UInt8)) (x:Nat):Option Nat:=(l.drop x).findIdx? (fun r=>e r x !=0)
def swp (l:List (List UInt8)) (x p:Nat):List (List UInt8):=(l.set x (row l p)).set p (row l x)
def elim (x:Nat) (q r:List UInt8):List UInt8:=if e r x !=0 then add r (scl q (e r x)) else r
def lead (l:List (List UInt8)) (x p:Nat):List UInt8:=scl (row l (x+p)) (inv (e (row l (x+p)) x))
def gjStep (l:List (List UInt8)) (x p:Nat):List (List UInt8):=tab l.length (fun i=>if i=x then lead l x p else elim x (lead l x p) (row (swp l x (x+p)) i))
def gj (l:List (List UInt8)):Nat→Option (List (List UInt8))
 |0=>some l
 |x+1=>(gj l x).bind fun l'=>(piv l' x).map (gjStep l' x)
theorem gj_none {l:List (List UInt8)} {i:Nat} (h:gj l i=none):∀{j:Nat},i≤j→gj l j=none
 |0,hj=>by have:i=0:=by omega
           subst this;exact h
 |j+1,hj=>by
  rcases Nat.lt_or_ge i (j+1) with h1|h1
  ·show (gj l j).bind _=none
   rw[gj_none h (by omega)];rfl
  ·have:i=j+1:=by omega
   rw[←this];exact h
@[simp] theorem swp_len {l:List (List UInt8)} {x p:Nat}:(swp l x p).length=l.length:=by simp[swp]
theorem row_swp {l:List (List UInt8)} {x p i:Nat} (hx:x<l.length) (hp:p<l.length):row (swp l x p) i=if i=p then row l x else if i=x then row l p else row l i:=by
 unfold row swp
 rw[set_getD (by simpa using hp),set_getD hx]
 rfl
@[simp] theorem gjStep_len {l:List (List UInt8)} {x p:Nat}:(gjStep l x p).length=l.length:=tab_len
theorem piv_some {l:List (List UInt8)} {x p:Nat} (h:piv l x=some p):x+p<l.length∧e (row l (x+p)) x≠0:=by
 unfold piv at h
 rw[List.findIdx?_eq_some_iff_getElem] at h
 obtain ⟨h1,h2,_⟩:=h
 have h3:x+p<l.length:=by simp at h1;omega
 refine ⟨h3,?_⟩
 have:(l.drop x)[p]=row l (x+p):=by
  unfold row
  rw[List.getElem_drop,List.getD_eq_getElem?_getD,List.getElem?_eq_getElem h3];rfl
 rw[this] at h2
 simpa using h2
theorem piv_none {l:List (List UInt8)} {x:Nat} (h:piv l x=none) {i:Nat} (hx:x≤i) (hi:i<l.length):e (row l i) x=0:=by
 unfold piv at h
 rw[List.findIdx?_eq_none_iff] at h
 have:=h (row l i) (by
  have:row l i=(l.drop x)[i-x]'(by simp;omega):=by
   unfold row
   rw[List.getElem_drop,List.getD_eq_getElem?_getD,List.getElem?_eq_getElem hi]
   simp[show x+(i-x)=i by omega]
  rw[this]
  exact List.getElem_mem _)
 simpa using this
theorem row_gjStep {l:List (List UInt8)} {x p i:Nat} (hi:i<l.length):row (gjStep l x p) i=if i=x then lead l x p else elim x (lead l x p) (row (swp l x (x+p)) i):=row_tab hi
theorem elim_len {x:Nat} {q r:List UInt8}:(elim x q r).length=r.length:=by unfold elim;split<;>simp
def Wide (l:List (List UInt8)) (w:Nat):Prop:=∀r∈l,r.length=w
theorem swp_mem {l:List (List UInt8)} {x p:Nat} (hx:x<l.length) (hp:p<l.length) {i:Nat} (hi:i<l.length):row (swp l x p) i∈l:=by
 rw[row_swp hx hp]
 split
 ·exact row_mem hx
 ·split
  ·exact row_mem hp
  ·exact row_mem hi
theorem step_wide {l:List (List UInt8)} {w x p:Nat} (h:Wide l w) (hx:x<l.length) (hp:x+p<l.length):Wide (gjStep l x p) w:=by
 intro r hr
 obtain ⟨i,hi,rfl⟩:=mem_row hr
 rw[gjStep_len] at hi
 rw[row_gjStep hi]
 split
 ·unfold lead;rw[scl_len];exact h _ (row_mem hp)
 ·rw[elim_len];exact h _ (swp_mem hx hp hi)
theorem gj_shape {l:List (List UInt8)} {w:Nat} (h:Wide l w):∀{i:Nat} {l':List (List UInt8)},i≤l.length→gj l i=some l'→l'.length=l.length∧Wide l' w
 |0,l',_,e=>by injection e with e;subst e;exact ⟨rfl,h⟩
 |i+1,l',hi,e=>by
  obtain ⟨l1,e1,e2⟩:=Option.bind_eq_some_iff.1 e
  obtain ⟨p,e3,rfl⟩:=Option.map_eq_some_iff.1 e2
  obtain ⟨q1,q2⟩:=gj_shape h (by omega) e1
  exact ⟨by rw[gjStep_len,q1],step_wide q2 (by omega) (piv_some e3).1⟩
end Gf
end Go.AX
namespace Go.AX
open Go.AM
open Gf
theorem wr_nat {a:Nat} (h:a≤4000000000000000000):wr (a:Int)=(a:Int):=wr_eq (by omega) (by omega)
theorem wr_add {a b:Nat} (h:a+b≤4000000000000000000):wr ((a:Int)+(b:Int))=((a+b:Nat):Int):=by rw[wr_eq (by omega) (by omega)];omega
theorem wr_inc {a:Nat} (h:a≤4000000000000000000):wr ((a:Int)+(1:Int))=((a+1:Nat):Int):=wr_succ (by omega)
theorem slc_from {α:Type} (xs:List α) (n:Nat):slc xs (n:Int) (xs.length:Int)=xs.drop n:=by
 unfold slc
 rw[Int.toNat_natCast,List.take_of_length_le]
 simp
theorem bind_s {α β:Type} (a:α) (f:α→Option β):(some a).bind f=f a:=rfl
theorem rep_tab (n:Nat):List.replicate ((n:Int)).toNat (0:UInt8)=tab n (fun _=>0):=by rw[Int.toNat_natCast,tab_rep]
def app (m:List (List UInt8)) (v:List UInt8):List UInt8:=tab m.length (fun i=>S (row m i).length (fun j=>gm (e (row m i) j) (e v j)))
theorem x_apply {m:List (List UInt8)} {v:List UInt8} (hm:m.length≤200000000000000) (hv:v.length≤200000000000000) (hr:∀r∈m,r.length≤v.length):X.matrix_apply m v=some (app m v):=by
 unfold X.matrix_apply
 rw[need_is (by omega),bind_s,rep_tab]
 have key:run (X.matrix_apply_s9 m v) (tab m.length (fun _=>0),(0:Int))=some (app m v):=by
  refine run_G0 (fun i=>tab m.length (fun j=>if j<i then S (row m j).length (fun k=>gm (e (row m j) k) (e v k)) else 0)) (n:=m.length) (by omega) (tab_congr fun i _=>by rw[if_neg (by omega)]) (fun i hi=>?_) ?_
  ·unfold X.matrix_apply_s9
   simp only
   have hw:=hr _ (row_mem hi)
   rw[if_pos (by simpa using hi),getI_row hi,bind_s]
   have inner:run (X.matrix_apply_s22 (row m i) (i:Int) v) (tab m.length (fun j=>if j<i then S (row m j).length (fun k=>gm (e (row m j) k) (e v k)) else 0),(0:Int))=
    some (tab m.length (fun j=>if j<i+1 then S (row m j).length (fun k=>gm (e (row m j) k) (e v k)) else 0)):=by
    refine run_G0 (fun c=>tab m.length (fun j=>if j<i then S (row m j).length (fun k=>gm (e (row m j) k) (e v k)) else if j=i then S c (fun k=>gm (e (row m i) k) (e v k)) else 0)) (n:=(row m i).length) (by omega)
     (tab_congr fun j _=>?_) (fun c hc=>?_) ?_
    ·by_cases h:j<i
     ·rw[if_pos h,if_pos h]
     ·rw[if_neg h,if_neg h];split<;>rfl
    ·unfold X.matrix_apply_s22
     simp only
     rw[if_pos (by simpa using hc),getI_e hc,bind_s,getI_tab hi,bind_s,getI_e (by omega:c<v.length),bind_s,x_Mul,bind_s,x_Add,bind_s,bind_s,wr_inc (by omega),Int.toNat_natCast,tab_set]
     refine congrArg (fun t=>some (Sum.inl (t,_))) (tab_congr fun j _=>?_)
     by_cases h:j=i
     ·subst h
      simp only[Nat.lt_irrefl,if_true,if_false];rfl
     ·rw[if_neg h,if_neg h,if_neg h]
    ·unfold X.matrix_apply_s22
     simp only
     rw[if_neg (by simp)]
     refine congrArg (fun t=>some (Sum.inr t)) (tab_congr fun j _=>?_)
     by_cases h:j<i
     ·rw[if_pos h,if_pos (by omega)]
     ·rw[if_neg h]
      by_cases h2:j=i
      ·subst h2;rw[if_pos rfl,if_pos (by omega)]
      ·rw[if_neg h2,if_neg (by omega)]
   rw[inner,bind_s]
   unfold X.matrix_apply_e22
   rw[wr_inc (by omega)]
  ·unfold X.matrix_apply_s9
   simp only
   rw[if_neg (by simp)]
   exact congrArg (fun t=>some (Sum.inr t)) (tab_congr fun j hj=>by rw[if_pos hj])
 rw[key];rfl
def ixOf:Option Nat→Int
 |some i=>i
 |none=> -1
theorem x_IndexFunc {s:List (List UInt8)} {p:List UInt8→Option Bool} (q:List UInt8→Bool) (hp:∀a∈s,p a=some (q a)) (hs:s.length≤4000000000000000000):X.slices_IndexFunc_LLbyte_Lbyte s p=some (ixOf (s.findIdx? q)):=by
 unfold X.slices_IndexFunc_LLbyte_Lbyte
 have key:run (X.slices_IndexFunc_LLbyte_Lbyte_s6 s p) (0:Int)=some (match s.findIdx? q with|some i=> .inr (i:Int)|none=> .inl ()):=by
  refine run_seE (a:=0) (n:=s.length) (fun n=>∀j (hj:j<s.length),j<n→q s[j]=false) (Nat.zero_le _) hs
   (fun j _ h=>absurd h (by omega)) (fun n _ h hq=>?_) (fun hq=>?_)
  ·unfold X.slices_IndexFunc_LLbyte_Lbyte_s6
   simp only
   rw[if_pos (by simpa using h),getI_nat h,bind_s,hp _ (List.getElem_mem h),bind_s]
   cases hc:q s[n] with
   |true=>
    right
    rw[if_pos rfl]
    have:s.findIdx? q=some n:=by
     rw[List.findIdx?_eq_some_iff_getElem]
     exact ⟨h,hc,fun j hj=>by simp[hq j (by omega) hj]⟩
    rw[this]
   |false=>
    left
    rw[if_neg (by simp),wr_inc (by omega)]
    refine ⟨rfl,fun j hj h=>?_⟩
    rcases Nat.lt_succ_iff_lt_or_eq.1 h with h|rfl
    ·exact hq j hj h
    ·exact hc
  ·unfold X.slices_IndexFunc_LLbyte_Lbyte_s6
   simp only
   rw[if_neg (by simp)]
   have:s.findIdx? q=none:=by
    rw[List.findIdx?_eq_none_iff]
    intro x hx
    obtain ⟨j,hj,rfl⟩:=List.getElem_of_mem hx
    exact hq j hj hj
   rw[this]
 rw[key]
 cases s.findIdx? q<;>rfl
theorem ixOf_ge {s:List (List UInt8)} {q:List UInt8→Bool}:decide (ixOf (s.findIdx? q)≥(0:Int))=s.any q:=by
 cases h:s.findIdx? q with
 |none=>
  rw[List.findIdx?_eq_none_iff] at h
  have:s.any q=false:=by rw[List.any_eq_false];intro x hx;simp[h x hx]
  rw[this];rfl
 |some i=>
  rw[List.findIdx?_eq_some_iff_getElem] at h
  obtain ⟨h1,h2,_⟩:=h
  have:s.any q=true:=by rw[List.any_eq_true];exact ⟨_,List.getElem_mem h1,h2⟩
  rw[this]
  exact decide_eq_true (by show (0:Int)≤(i:Int);omega)
def rightB (m:List (List UInt8)):Bool:=decide (1≤m.length)&&decide (m.length≤255)&&decide (1≤(row m 0).length)&&decide ((row m 0).length≤255)&&m.all (fun r=>r.length==(row m 0).length)
theorem right_of {m:List (List UInt8)} (h:rightB m=true):1≤m.length∧m.length≤255∧1≤(row m 0).length∧(row m 0).length≤255∧Wide m (row m 0).length:=by
 unfold rightB at h
 simp only[Bool.and_eq_true,decide_eq_true_eq,List.all_eq_true,beq_iff_eq] at h
 obtain ⟨⟨⟨⟨h1,h2⟩,h3⟩,h4⟩,h5⟩:=h
 exact ⟨h1,h2,h3,h4,h5⟩
theorem right_if {m:List (List UInt8)} {w:Nat} (h1:1≤m.length) (h2:m.length≤255) (h3:1≤w) (h4:w≤255) (h5:Wide m w):rightB m=true:=by
 have h0:(row m 0).length=w:=h5 _ (row_mem (by omega))
 unfold rightB
 rw[h0]
 simp only[Bool.and_eq_true,decide_eq_true_eq,List.all_eq_true,beq_iff_eq]
 exact ⟨⟨⟨⟨h1,h2⟩,h3⟩,h4⟩,h5⟩
theorem right_pre {m:List (List UInt8)} {f:Option Bool} {b:Bool} (hf:1≤m.length→m.length≤255→1≤(row m 0).length→(row m 0).length≤255→f=some b) (hb:b=m.all (fun r=>r.length==(row m 0).length)):
 (((optG (!(((decide ((m.length:Int)<(1:Int)))||(decide ((m.length:Int)>(255:Int)))))) (getI m (0:Int)))).bind fun e5=>
 ((optG (!((((decide ((m.length:Int)<(1:Int)))||(decide ((m.length:Int)>(255:Int))))||(decide ((e5.length:Int)<(1:Int)))))) (getI m (0:Int)))).bind fun e6=>
 if ((((decide ((m.length:Int)<(1:Int)))||(decide ((m.length:Int)>(255:Int))))||(decide ((e5.length:Int)<(1:Int))))||(decide ((e6.length:Int)>(255:Int)))) then
  some false
 else f)=some (rightB m):=by
 unfold rightB
 by_cases h1:1≤m.length
 ·have g:getI m (0:Int)=some (row m 0):=getI_row (j:=0) (by omega)
  rw[g]
  by_cases h2:m.length≤255
  ·have e1:decide ((m.length:Int)<1)=false:=by simp;omega
   have e2:decide ((m.length:Int)>255)=false:=by simp;omega
   rw[e1,e2]
   simp only[Bool.or_false,Bool.not_false,optG_true,bind_s,Bool.false_or]
   by_cases h3:1≤(row m 0).length
   ·have e3:decide (((row m 0).length:Int)<1)=false:=by simp;omega
    rw[e3]
    simp only[Bool.not_false,optG_true,bind_s,Bool.false_or]
    by_cases h4:(row m 0).length≤255
    ·have e4:decide (((row m 0).length:Int)>255)=false:=by simp;omega
     rw[e4,if_neg (by simp),hf h1 h2 h3 h4,hb]
     simp[h1,h2,h3,h4]
    ·have e4:decide (((row m 0).length:Int)>255)=true:=by simp;omega
     rw[e4,if_pos rfl]
     simp[h4]
   ·have e3:decide (((row m 0).length:Int)<1)=true:=by simp;omega
    rw[e3]
    simp[h3]
  ·have e2:decide ((m.length:Int)>255)=true:=by simp;omega
   rw[e2]
   simp[h2]
 ·have e1:decide ((m.length:Int)<1)=true:=by simp;omega
  rw[e1]
  simp[h1]
theorem x_Right (m:List (List UInt8)):X.matrix_Right m=some (rightB m):=by
 unfold X.matrix_Right
 refine right_pre (b:= !(m.any fun r=>(r.length:Int) !=((row m 0).length:Int))) (fun h1 h2 h3 h4=>?_) ?_
 ·unfold X.slices_ContainsFunc_LLbyte_Lbyte
  rw[x_IndexFunc (fun r=>(r.length:Int) !=((row m 0).length:Int)) (fun a _=>?_) (by omega),bind_s,bind_s,ixOf_ge]
  unfold X.matrix_Right_c1
  rw[show getI m (0:Int)=some (row m 0) from getI_row (j:=0) (by omega),bind_s]
 ·rw[List.not_any_eq_all_not]
  congr 1
  funext r
  simp only[bne,Bool.not_not]
  rw[Bool.eq_iff_iff]
  simp only[beq_iff_eq]
  omega
end Go.AX
namespace Go.AX
open Go.AM
open Gf
def unit (n i:Nat):List UInt8:=tab n (fun j=>if j=i then 1 else 0)
def besides (m:List (List UInt8)):List (List UInt8):=tab m.length (fun i=>row m i++unit m.length i)
theorem besides_len {m:List (List UInt8)}:(besides m).length=m.length:=tab_len
theorem besides_wide {m:List (List UInt8)} {w:Nat} (h:Wide m w):Wide (besides m) (w+m.length):=by
 intro r hr
 obtain ⟨i,hi,rfl⟩:=mem_tab.1 hr
 simp[h _ (row_mem hi),unit]
def outs (n:Nat) (l:List (List UInt8)):List (List UInt8):=tab l.length (fun i=>(row l i).drop n)
def invG (m:List (List UInt8)):List (List UInt8)×Int:=
 if rightB m&&(m.length==(row m 0).length) then match gj (besides m) m.length with|none=>([],12)|some l=>(outs m.length l,0) else ([],1)
end Go.AX
namespace Go.AX
open Go.AM
open Gf
theorem x_scaled {r:List UInt8} {b:UInt8} (hr:r.length≤200000000000000):X.matrix_scaled r b=some (scl r b):=by
 unfold X.matrix_scaled
 rw[need_is (by omega),bind_s,rep_tab]
 have key:run (X.matrix_scaled_s9 r b) (tab r.length (fun _=>0),(0:Int))=some (scl r b):=by
  refine run_G0 (fun i=>tab r.length (fun j=>if j<i then gm (e r j) b else 0)) (n:=r.length) (by omega) (tab_congr fun i _=>by rw[if_neg (by omega)]) (fun i hi=>?_) ?_
  ·unfold X.matrix_scaled_s9
   simp only
   rw[if_pos (by simpa using hi),getI_e hi,bind_s,x_Mul,bind_s,getI_tab hi,bind_s,wr_inc (by omega),Int.toNat_natCast,tab_set]
   refine congrArg (fun t=>some (Sum.inl (t,_))) (tab_congr fun j _=>?_)
   by_cases h:j=i
   ·rw[if_pos h,if_pos (by omega),h]
   ·rw[if_neg h]
    by_cases h2:j<i
    ·rw[if_pos h2,if_pos (by omega)]
    ·rw[if_neg h2,if_neg (by omega)]
  ·unfold X.matrix_scaled_s9
   simp only
   rw[if_neg (by simp)]
   exact congrArg (fun t=>some (Sum.inr t)) (tab_congr fun j hj=>by rw[if_pos hj])
 rw[key];rfl
theorem x_sum {a b:List UInt8} (ha:a.length≤200000000000000) (hb:a.length≤b.length):X.matrix_sum a b=some (add a b):=by
 unfold X.matrix_sum
 rw[need_is (by omega),bind_s,rep_tab]
 have key:run (X.matrix_sum_s9 a b) (tab a.length (fun _=>0),(0:Int))=some (add a b):=by
  refine run_G0 (fun i=>tab a.length (fun j=>if j<i then e a j^^^e b j else 0)) (n:=a.length) (by omega) (tab_congr fun i _=>by rw[if_neg (by omega)]) (fun i hi=>?_) ?_
  ·unfold X.matrix_sum_s9
   simp only
   rw[if_pos (by simpa using hi),getI_e hi,bind_s,getI_e (by omega:i<b.length),bind_s,x_Add,bind_s,getI_tab hi,bind_s,wr_inc (by omega),Int.toNat_natCast,tab_set]
   refine congrArg (fun t=>some (Sum.inl (t,_))) (tab_congr fun j _=>?_)
   by_cases h:j=i
   ·rw[if_pos h,if_pos (by omega),h]
   ·rw[if_neg h]
    by_cases h2:j<i
    ·rw[if_pos h2,if_pos (by omega)]
    ·rw[if_neg h2,if_neg (by omega)]
  ·unfold X.matrix_sum_s9
   simp only
   rw[if_neg (by simp)]
   exact congrArg (fun t=>some (Sum.inr t)) (tab_congr fun j hj=>by rw[if_pos hj])
 rw[key];rfl
end Go.AX
namespace Go.AX
open Go.AM
theorem x_Clone (s:List UInt8) (h:s.length≤100000000000000):X.slices_Clone_Lbyte_byte s=some s:=by
 unfold X.slices_Clone_Lbyte_byte
 refine nilU_same (fun h=>by rw[h];rfl) ?_
 simp only[Bool.false_eq_true,if_false]
 rw[need_is (by omega)];rfl
end Go.AX
namespace Go.AX
open Go.AM
open Gf
theorem x_Grow {n:Nat} (hn:n≤100000000000000):X.slices_Grow_Lbyte_byte_nil (n:Int)=some []:=by
 unfold X.slices_Grow_Lbyte_byte_nil X.slices_Grow_Lbyte_byte_nil_j5
 have h0:wr ((0:Int)-(0:Int))=0:=by decide
 try rw[h0]
 rw[Int.sub_zero,wr_nat (by omega),if_neg (by simp)]
 by_cases h:0<n
 ·rw[if_pos (by simpa using h),need_is (by omega),bind_s,need_is (by simp only[List.length_replicate];omega),bind_s]
  simp[slc]
 ·rw[if_neg (by simpa using h)]
theorem x_Concat (a b:List UInt8) (ha:a.length≤10000000000000) (hb:b.length≤10000000000000):X.slices_Concat_Lbyte_byte [a,b]=some (a++b):=by
 unfold X.slices_Concat_Lbyte_byte
 have g0:getI [a,b] (((0:Nat):Nat):Int)=some a:=getI_nat (by simp)
 have g1:getI [a,b] (((1:Nat):Nat):Int)=some b:=getI_nat (by simp)
 have k1:run (X.slices_Concat_Lbyte_byte_s6 [a,b]) ((0:Int),(0:Int))=some ((a.length+b.length:Nat):Int):=by
  refine run_G0 (fun i=>(if i=0 then (0:Int) else if i=1 then (a.length:Int) else ((a.length+b.length:Nat):Int))) (n:=2) (by omega) rfl (fun i hi=>?_) ?_
  ·unfold X.slices_Concat_Lbyte_byte_s6
   simp only
   rcases (by omega:i=0∨i=1) with rfl|rfl
   ·rw[if_pos (by simp),g0,bind_s]
    simp only[if_true]
    rw[Int.zero_add,wr_nat (by omega),if_neg (by simp),wr_inc (by omega)];rfl
   ·rw[if_pos (by simp),g1,bind_s]
    simp only[if_true]
    rw[show (if (1:Nat)=0 then (0:Int) else (a.length:Int))=(a.length:Int) from rfl,wr_add (by omega),if_neg (by simp only[decide_eq_true_eq];omega),wr_inc (by omega)];rfl
  ·unfold X.slices_Concat_Lbyte_byte_s6
   simp only
   rw[if_neg (by simp)];rfl
 have k2:run (X.slices_Concat_Lbyte_byte_s15 [a,b]) (([]:List UInt8),(0:Int))=some (a++b):=by
  refine run_G0 (fun i=>(if i=0 then [] else if i=1 then a else a++b)) (n:=2) (by omega) rfl (fun i hi=>?_) ?_
  ·unfold X.slices_Concat_Lbyte_byte_s15
   simp only
   rcases (by omega:i=0∨i=1) with rfl|rfl
   ·rw[if_pos (by simp),g0,bind_s]
    simp only[if_true]
    rw[need_is (by simp;omega),bind_s,wr_inc (by omega)];rfl
   ·rw[if_pos (by simp),g1,bind_s]
    simp only[if_true]
    rw[show (if (1:Nat)=0 then ([]:List UInt8) else a)=a from rfl,need_is (by omega),bind_s,wr_inc (by omega)];rfl
  ·unfold X.slices_Concat_Lbyte_byte_s15
   simp only
   rw[if_neg (by simp)];rfl
 rw[k1,bind_s]
 show X.slices_Concat_Lbyte_byte_e6 [a,b] _=_
 unfold X.slices_Concat_Lbyte_byte_e6
 rw[x_Grow (by omega),bind_s,k2];rfl
theorem x_beside {m:List (List UInt8)} (hm:m.length≤1000000) (hr:∀r∈m,r.length≤1000000):X.matrix_beside m=some (besides m):=by
 unfold X.matrix_beside
 have key:run (X.matrix_beside_s7 m) (([]:List (List UInt8)),(0:Int))=some (besides m):=by
  refine run_G0 (fun i=>tab i (fun i=>row m i++unit m.length i)) (n:=m.length) (by omega) rfl (fun i hi=>?_) ?_
  ·unfold X.matrix_beside_s7
   simp only
   have hw:=hr _ (row_mem hi)
   rw[if_pos (by simpa using hi),getI_row hi,bind_s,need_is (by omega),bind_s,rep_tab,getI_tab hi,bind_s,Int.toNat_natCast,tab_set,x_Concat _ _ (by omega) (by simp;omega),bind_s,need_is (by simp;omega),bind_s,wr_inc (by omega),tab_succ];rfl
  ·unfold X.matrix_beside_s7
   simp only
   rw[if_neg (by simp)];rfl
 rw[key];rfl
theorem x_inner {l:List (List UInt8)} {w x p:Nat} {a1 a2:List UInt8} {rr:Int} (hl:l.length≤1000000) (hw:w≤1000000) (h:Wide l w) (hx:x<l.length) (hp:x+p<l.length) (hxw:x<w) (hrr:rr=((p:Nat):Int)):
 run (X.matrix_Inverse_s63 l (x:Int) a1 rr a2 (lead l x p)) ((swp l x (x+p)).set x (lead l x p),(0:Int))=some (gjStep l x p):=by
 subst hrr
 have hsw:∀{i:Nat},i<l.length→(row (swp l x (x+p)) i).length=w:=fun hi=>h _ (swp_mem hx hp hi)
 have hq:(lead l x p).length=w:=by unfold lead;rw[scl_len];exact h _ (row_mem hp)
 refine run_G0 (fun i=>tab l.length (fun j=>if j=x then lead l x p else if j<i then elim x (lead l x p) (row (swp l x (x+p)) j) else row (swp l x (x+p)) j)) (n:=l.length) (by omega) ?_ (fun k hk=>?_) ?_
 ·refine rows_ext (by simp) fun j hj=>?_
  have hj':j<l.length:=by simpa using hj
  rw[row_tab hj']
  show ((swp l x (x+p)).set x (lead l x p)).getD j []=_
  rw[set_getD (by simpa using hx)]
  by_cases e1:j=x
  ·rw[if_pos e1,if_pos e1]
  ·rw[if_neg e1,if_neg e1,if_neg (by omega)];rfl
 ·unfold X.matrix_Inverse_s63
  simp only
  rw[if_pos (by simpa using hk),getI_tab hk,getI_tab hx]
  by_cases e1:k=x
  ·have b1:((k:Int) !=(x:Int))=false:=by simp[e1]
   rw[b1]
   simp only[optG_false,bind_s,Bool.false_and,Bool.false_eq_true,if_false]
   rw[wr_inc (by omega)]
   refine congrArg (fun t=>some (Sum.inl (t,_))) (tab_congr fun j _=>?_)
   by_cases e2:j=x
   ·rw[if_pos e2,if_pos e2]
   ·rw[if_neg e2,if_neg e2]
    by_cases e3:j<k
    ·rw[if_pos e3,if_pos (by omega)]
    ·rw[if_neg e3,if_neg (by omega)]
  ·have b1:((k:Int) !=(x:Int))=true:=by simp;omega
   rw[b1]
   have hwk:=hsw hk
   simp only[if_neg e1,Nat.lt_irrefl,if_false,if_true,optG_true,bind_s,Bool.true_and]
   rw[getI_e (by omega:x<(row (swp l x (x+p)) k).length)]
   simp only[bind_s]
   by_cases e2:e (row (swp l x (x+p)) k) x=0
   ·rw[e2,if_neg (by simp),wr_inc (by omega)]
    refine congrArg (fun t=>some (Sum.inl (t,_))) (tab_congr fun j _=>?_)
    by_cases e3:j=x
    ·rw[if_pos e3,if_pos e3]
    ·rw[if_neg e3,if_neg e3]
     by_cases e4:j<k
     ·rw[if_pos e4,if_pos (by omega)]
     ·rw[if_neg e4]
      by_cases e5:j=k
      ·subst e5
       rw[if_pos (by omega)]
       unfold elim
       rw[e2];rfl
      ·rw[if_neg (by omega)]
   ·rw[if_pos (by simpa using e2),x_scaled (by omega),bind_s,x_sum (by omega) (by rw[scl_len];omega),bind_s,wr_inc (by omega),Int.toNat_natCast,tab_set]
    refine congrArg (fun t=>some (Sum.inl (t,_))) (tab_congr fun j _=>?_)
    by_cases e5:j=k
    ·subst e5
     rw[if_pos rfl,if_neg e1,if_pos (by omega)]
     unfold elim
     rw[if_pos (by simpa using e2)]
    ·rw[if_neg e5]
     by_cases e3:j=x
     ·rw[if_pos e3,if_pos e3]
     ·rw[if_neg e3,if_neg e3]
      by_cases e4:j<k
      ·rw[if_pos e4,if_pos (by omega)]
      ·rw[if_neg e4,if_neg (by omega)]
 ·unfold X.matrix_Inverse_s63
  simp only
  rw[if_neg (by simp)]
  refine congrArg (fun t=>some (Sum.inr t)) (tab_congr fun j hj=>?_)
  by_cases e3:j=x
  ·rw[if_pos e3,if_pos e3]
  ·rw[if_neg e3,if_neg e3,if_pos hj]
theorem x_step {l r9:List (List UInt8)} {w x:Nat} (hl:l.length≤1000000) (hw:w≤1000000) (h:Wide l w) (hx:x<l.length) (hxw:x<w) (h9:r9.length=l.length):
 X.matrix_Inverse_s13 r9 (l,(x:Int))=some (match piv l x with|none=> .inr (.inr ([],12))|some p=> .inl (gjStep l x p,((x+1:Nat):Int))):=by
 unfold X.matrix_Inverse_s13
 simp only
 rw[if_pos (by simp;omega),need_is (by omega),bind_s,slc_from,x_IndexFunc (fun r=>e r x !=0) (fun a ha=>?_) (by simp;omega),bind_s]
 ·cases hp:piv l x with
  |none=>
   have hp':(l.drop x).findIdx? (fun r=>e r x !=0)=none:=hp
   rw[hp'];rfl
  |some p=>
   obtain ⟨p1,p2⟩:=piv_some hp
   have hp':(l.drop x).findIdx? (fun r=>e r x !=0)=some p:=hp
   rw[hp',show ixOf (some p)=(p:Int) from rfl,if_neg (by simp)]
   show (getI l (wr ((x:Int)+(p:Int)))).bind _=_
   rw[wr_add (by omega),getI_row p1,bind_s,getI_row hx,bind_s,bind_s]
   simp only[Int.toNat_natCast]
   rw[getI_row (l:=l.set x _) (by simpa using p1),bind_s]
   show (getI (swp l x (x+p)) (x:Int)).bind _=_
   have hx':x<(swp l x (x+p)).length:=by simpa using hx
   rw[getI_row hx',bind_s]
   show (getI (swp l x (x+p)) (x:Int)).bind _=_
   rw[getI_row hx',bind_s]
   have h0:row (swp l x (x+p)) x=row l (x+p):=by
    rw[row_swp hx p1]
    by_cases e1:x=x+p
    ·rw[if_pos e1,←e1]
    ·rw[if_neg e1,if_pos rfl]
   have hlen:(row l (x+p)).length=w:=h _ (row_mem p1)
   rw[h0,getI_e (by omega:x<(row l (x+p)).length),bind_s,x_Inv,bind_s,x_scaled (by omega),bind_s]
   show (getI (swp l x (x+p)) (x:Int)).bind _=_
   rw[getI_row hx',bind_s]
   show (run (X.matrix_Inverse_s63 l (x:Int) (row l (x+p)) ((p:Nat):Int) (row l x) (lead l x p)) ((swp l x (x+p)).set x (lead l x p),(0:Int))).bind _=_
   rw[x_inner hl hw h hx p1 hxw rfl,bind_s]
   unfold X.matrix_Inverse_e63
   rw[wr_inc (by omega)]
 ·unfold X.matrix_Inverse_c1
  have:a.length=w:=h _ (List.mem_of_mem_drop ha)
  rw[getI_e (by omega),bind_s]
theorem x_outs {l m:List (List UInt8)} {w:Nat} (hl:l.length≤1000000) (hw:w≤1000000) (h:Wide l w) (hm:m.length≤w):X.matrix_Inverse_e13 m l=some (outs m.length l,0):=by
 unfold X.matrix_Inverse_e13
 have key:run (X.matrix_Inverse_s23 l m) (([]:List (List UInt8)),(0:Int))=some (outs m.length l):=by
  refine run_G0 (fun i=>tab i (fun i=>(row l i).drop m.length)) (n:=l.length) (by omega) rfl (fun i hi=>?_) ?_
  ·unfold X.matrix_Inverse_s23
   simp only
   have hw':=h _ (row_mem hi)
   rw[if_pos (by simpa using hi),getI_row hi,bind_s,need_is (by omega),bind_s,slc_from,x_Clone _ (by simp;omega),bind_s,need_is (by simp;omega),bind_s,wr_inc (by omega),tab_succ]
  ·unfold X.matrix_Inverse_s23
   simp only
   rw[if_neg (by simp)];rfl
 rw[key];rfl
theorem x_Inverse (m:List (List UInt8)):X.matrix_Inverse m=some (invG m):=by
 unfold X.matrix_Inverse invG
 rw[x_Right,bind_s]
 cases hr:rightB m with
 |false=>simp
 |true=>
  obtain ⟨h1,h2,h3,h4,h5⟩:=right_of hr
  rw[show getI m (0:Int)=some (row m 0) from getI_row (j:=0) (by omega)]
  simp only[Bool.not_true,Bool.not_false,optG_true,bind_s,Bool.false_or,Bool.true_and]
  by_cases hsq:m.length=(row m 0).length
  ·rw[if_neg (by simp only[bne_iff_ne,ne_eq];omega),if_pos (by simpa using hsq),x_beside (by omega) (fun r hr=>by rw[h5 r hr];omega),bind_s]
   have hwd:=besides_wide h5
   have hlen:=besides_len (m:=m)
   have key:run (X.matrix_Inverse_s13 (besides m)) (besides m,(0:Int))=some (match gj (besides m) m.length with|none=> .inr ([],12)|some l=> .inl l):=by
    refine run_ixE (fun i l=>gj (besides m) i=some l) (n:=m.length) (by omega) rfl (fun i l hi hI=>?_) (fun l hI=>?_)
    ·obtain ⟨q1,q2⟩:=gj_shape hwd (by omega) hI
     rw[x_step (by omega) (by omega) q2 (by omega) (by omega) (by omega)]
     have hs:gj (besides m) (i+1)=(piv l i).map (gjStep l i):=by show (gj (besides m) i).bind _=_;rw[hI];rfl
     cases hp:piv l i with
     |none=>
      right
      rw[hp] at hs
      rw[gj_none hs (by omega:i+1≤m.length)]
     |some p=>
      left
      rw[hp] at hs
      exact ⟨_,rfl,hs⟩
    ·rw[hI]
     unfold X.matrix_Inverse_s13
     simp only
     rw[if_neg (by simp[hlen])]
   rw[key,bind_s]
   cases hg:gj (besides m) m.length with
   |none=>rfl
   |some l=>
    obtain ⟨q1,q2⟩:=gj_shape hwd (by omega) hg
    show X.matrix_Inverse_e13 m l=_
    rw[x_outs (by omega) (by omega) q2 (by omega)]
  ·rw[if_pos (by simp only[bne_iff_ne,ne_eq];omega),if_neg (by simpa using hsq)]
end Go.AX
namespace Go.AX
open Go.AM
open Gf
def appG (m:List (List UInt8)) (v:List UInt8):List UInt8×Int:=if rightB m&&(v.length==(row m 0).length) then (app m v,0) else ([],1)
theorem x_Apply (m:List (List UInt8)) (v:List UInt8):X.matrix_Apply m v=some (appG m v):=by
 unfold X.matrix_Apply appG
 rw[x_Right,bind_s]
 cases hr:rightB m with
 |false=>simp
 |true=>
  obtain ⟨h1,h2,h3,h4,h5⟩:=right_of hr
  rw[show getI m (0:Int)=some (row m 0) from getI_row (j:=0) (by omega)]
  simp only[Bool.not_true,Bool.not_false,optG_true,bind_s,Bool.false_or,Bool.true_and]
  by_cases hv:v.length=(row m 0).length
  ·rw[if_neg (by simp only[bne_iff_ne,ne_eq];omega),if_pos (by simpa using hv),x_apply (by omega) (by omega) (fun r hr=>by rw[h5 r hr];omega),bind_s]
  ·rw[if_pos (by simp only[bne_iff_ne,ne_eq];omega),if_neg (by simpa using hv)]
end Go.AX
namespace Go.AX
open Go.AM
open Gf
namespace Gf
def pw (a:UInt8):Nat→UInt8
 |0=>1
 |n+1=>gm (pw a n) a
theorem pw_add (a:UInt8) (m:Nat):∀n,pw a (m+n)=gm (pw a m) (pw a n)
 |0=>(gm_one _).symm
 |n+1=>by
  show gm (pw a (m+n)) a=gm (pw a m) (gm (pw a n) a)
  rw[pw_add a m n,gm_assoc]
theorem inv_pw (a:UInt8):inv a=pw a 254:=by
 have h2:gm a a=pw a 2:=by show _=gm (gm 1 a) a;rw[one_gm]
 have d:∀n,gm (pw a n) (pw a n)=pw a (n+n):=fun n=>(pw_add a n n).symm
 have c:∀m n,gm (pw a m) (pw a n)=pw a (m+n):=fun m n=>(pw_add a m n).symm
 unfold inv
 simp only[h2,d,c,one_gm]
end Gf
end Go.AX
namespace Go.AX
open Go.AM
open Gf
namespace Gf
theorem two_parts {p q ip iq:UInt8} (a1:gm p ip=1) (a2:gm q iq=1) (t w:UInt8):gm (p^^^t) (gm ip w)^^^gm (q^^^t) (gm iq w)=gm (p^^^q) (gm ip (gm (gm t iq) w)):=by
 have c1:gm (p^^^t) (gm ip w)=w^^^gm t (gm ip w):=by rw[xor_gm,←gm_assoc p,a1,one_gm]
 have c2:gm (q^^^t) (gm iq w)=w^^^gm t (gm iq w):=by rw[xor_gm,←gm_assoc q,a2,one_gm]
 have c3:gm p (gm ip (gm (gm t iq) w))=gm t (gm iq w):=by rw[←gm_assoc p,a1,one_gm,gm_assoc]
 have c4:gm q (gm ip (gm (gm t iq) w))=gm t (gm ip w):=by
  have h1:gm ip (gm (gm t iq) w)=gm iq (gm t (gm ip w)):=by
   rw[gm_comm t iq,gm_assoc iq,←gm_assoc ip,gm_comm ip iq,gm_assoc iq,←gm_assoc ip t,gm_comm ip t,gm_assoc t]
  rw[h1,←gm_assoc q,a2,one_gm]
 rw[c1,c2,xor_gm,c3,c4,x4,UInt8.xor_self,UInt8.zero_xor,UInt8.xor_comm]
theorem cauchy_none:∀(n:Nat) (x y d:Nat→UInt8),(∀i j,i<n→j<n→x i=x j→i=j)→(∀i j,i<n→j<n→y i=y j→i=j)→(∀i j,i<n→j<n→x i≠y j)→
 (∀i,i<n→S n (fun j=>gm (inv (x i^^^y j)) (d j))=0)→∀j,j<n→d j=0
 |0,_,_,_,_,_,_,_,j,hj=>by omega
 |n+1,x,y,d,hx,hy,hxy,h,j,hj=>by
  have ne:∀{a b:UInt8},a≠b→a^^^b≠0:=fun h e=>h (xor_cancel e)
  have hne:∀i j,i<n+1→j<n+1→x i^^^y j≠0:=fun i j hi hj=>ne (hxy i j hi hj)
  -- the last is taken out
  have h1:∀i,i<n→S n (fun j=>gm (inv (x i^^^y j)) (gm (gm (y n^^^y j) (inv (x n^^^y j))) (d j)))=0:=fun i hi=>by
   have e1:gm (x i^^^y n) (S (n+1) (fun j=>gm (inv (x i^^^y j)) (d j)))^^^gm (x n^^^y n) (S (n+1) (fun j=>gm (inv (x n^^^y j)) (d j)))=0:=by
    rw[h i (by omega),h n (by omega),gm_zero,gm_zero];rfl
   rw[S_mul,S_mul,←S_xor] at e1
   have e2:∀j,j<n+1→gm (x i^^^y n) (gm (inv (x i^^^y j)) (d j))^^^gm (x n^^^y n) (gm (inv (x n^^^y j)) (d j))=
    gm (x i^^^x n) (gm (inv (x i^^^y j)) (gm (gm (y n^^^y j) (inv (x n^^^y j))) (d j))):=fun j hj=>by
    have a1:=gm_inv (hne i j (by omega) hj)
    have a2:=gm_inv (hne n j (by omega) hj)
    have b1:x i^^^y n=(x i^^^y j)^^^(y n^^^y j):=by rw[x4,UInt8.xor_self,UInt8.xor_zero]
    have b2:x n^^^y n=(x n^^^y j)^^^(y n^^^y j):=by rw[x4,UInt8.xor_self,UInt8.xor_zero]
    have b3:x i^^^x n=(x i^^^y j)^^^(x n^^^y j):=by rw[x4,UInt8.xor_self,UInt8.xor_zero]
    rw[b1,b2,b3]
    exact two_parts a1 a2 _ _
   rw[S_congr e2,←S_mul] at e1
   rcases gm_eq_zero e1 with h3|h3
   ·exact absurd (hx i n (by omega) (by omega) (xor_cancel h3)) (by omega)
   ·have h4:S n (fun j=>gm (inv (x i^^^y j)) (gm (gm (y n^^^y j) (inv (x n^^^y j))) (d j)))^^^gm (inv (x i^^^y n)) (gm (gm (y n^^^y n) (inv (x n^^^y n))) (d n))=0:=h3
    rw[UInt8.xor_self,zero_gm,zero_gm,gm_zero,UInt8.xor_zero] at h4
    exact h4
  have ih:=cauchy_none n x y (fun j=>gm (gm (y n^^^y j) (inv (x n^^^y j))) (d j)) (fun i j hi hj=>hx i j (by omega) (by omega)) (fun i j hi hj=>hy i j (by omega) (by omega)) (fun i j hi hj=>hxy i j (by omega) (by omega)) h1
  have low:∀j,j<n→d j=0:=fun j hj=>by
   rcases gm_eq_zero (ih j hj) with h3|h3
   ·rcases gm_eq_zero h3 with h4|h4
    ·exact absurd (hy n j (by omega) (by omega) (xor_cancel h4)) (by omega)
    ·exact absurd h4 (inv_ne (hne n j (by omega) (by omega)))
   ·exact h3
  rcases Nat.lt_succ_iff_lt_or_eq.1 hj with hj|rfl
  ·exact low j hj
  ·have h5:S j (fun k=>gm (inv (x j^^^y k)) (d k))^^^gm (inv (x j^^^y j)) (d j)=0:=h j (by omega)
   rw[S_zero fun k hk=>by rw[low k hk,gm_zero],UInt8.zero_xor] at h5
   rcases gm_eq_zero h5 with h6|h6
   ·exact absurd h6 (inv_ne (hne j j (by omega) (by omega)))
   ·exact h6
end Gf
def bt (n:Nat):UInt8:=UInt8.ofNat n
theorem u8_bt (n:Nat):u8 (n:Int)=bt n:=by
 unfold u8 bt
 rw[←UInt8.toNat_inj,UInt8.toNat_ofNat',UInt8.toNat_ofNat']
 omega
theorem bt_inj {a b:Nat} (ha:a<256) (hb:b<256) (h:bt a=bt b):a=b:=by
 have:=congrArg UInt8.toNat h
 unfold bt at this
 rw[UInt8.toNat_ofNat',UInt8.toNat_ofNat'] at this
 omega
def cau (data parity:Nat):List (List UInt8):=tab parity (fun i=>tab data (fun k=>inv (bt i^^^bt (parity+k))))
def cauG (data parity:Int):List (List UInt8)×Int:=if 1≤data∧1≤parity∧data+parity≤255 then (cau data.toNat parity.toNat,0) else ([],1)
theorem x_Cauchy (data parity:Int) (hd: -9223372036854775808≤data∧data≤9223372036854775807) (hp: -9223372036854775808≤parity∧parity≤9223372036854775807):X.matrix_Cauchy data parity=some (cauG data parity):=by
 unfold X.matrix_Cauchy cauG
 by_cases h:1≤data∧1≤parity∧data+parity≤255
 ·rw[if_pos h,if_neg (by
   rw[wr_eq (by omega) (by omega)]
   simp only[Bool.or_eq_true,decide_eq_true_eq];omega)]
  obtain ⟨n,rfl⟩:=Int.eq_ofNat_of_zero_le (by omega:0≤data)
  obtain ⟨p,rfl⟩:=Int.eq_ofNat_of_zero_le (by omega:0≤parity)
  have key:run (X.matrix_Cauchy_s11 (p:Int) (n:Int)) (([]:List (List UInt8)),(0:Int))=some (cau n p):=by
   refine run_G0 (fun i=>tab i (fun i=>tab n (fun k=>inv (bt i^^^bt (p+k))))) (n:=p) (by omega) rfl (fun i hi=>?_) ?_
   ·unfold X.matrix_Cauchy_s11
    simp only
    have inner:run (X.matrix_Cauchy_s26 (n:Int) (i:Int) (p:Int)) (([]:List UInt8),(0:Int))=some (tab n (fun k=>inv (bt i^^^bt (p+k)))):=by
     refine run_G0 (fun c=>tab c (fun k=>inv (bt i^^^bt (p+k)))) (n:=n) (by omega) rfl (fun c hc=>?_) ?_
     ·unfold X.matrix_Cauchy_s26
      simp only
      rw[if_pos (by simpa using hc),wr_add (by omega),u8_bt,u8_bt,x_Add,bind_s,x_Inv,bind_s,need_is (by simp;omega),bind_s,wr_inc (by omega),tab_succ]
     ·unfold X.matrix_Cauchy_s26
      simp only
      rw[if_neg (by simp)]
    rw[if_pos (by simpa using hi),inner,bind_s]
    unfold X.matrix_Cauchy_e26
    rw[need_is (by simp;omega),bind_s,wr_inc (by omega),tab_succ]
   ·unfold X.matrix_Cauchy_s11
    simp only
    rw[if_neg (by simp)];rfl
  show (run (X.matrix_Cauchy_s11 (p:Int) (n:Int)) (([]:List (List UInt8)),(0:Int))).bind _=_
  rw[key];rfl
 ·rw[if_neg h]
  split
  ·rfl
  ·rename_i hc
   exfalso
   simp only[Bool.or_eq_true,decide_eq_true_eq,not_or] at hc
   obtain ⟨⟨⟨c1,c2⟩,c3⟩,c4⟩:=hc
   rw[wr_eq (by omega) (by omega)] at c4
   omega
end Go.AX
namespace Go.AX
open Go.AM
open Gf
def reck (m l:List (List UInt8)) (w:Nat):List (List UInt8):=tab m.length (fun i=>tab w (fun c=>S l.length (fun k=>gm (e (row m i) k) (e (row l k) c))))
theorem x_reckon {m l:List (List UInt8)} {w:Nat} (hr:rightB m=true) (hm:(row m 0).length=l.length) (hw:Wide l w) (hw2:w≤1000000):X.erasure_reckon m l=some (reck m l w):=by
 obtain ⟨a1,a2,a3,a4,a5⟩:=right_of hr
 have hl0:(row l 0).length=w:=hw _ (row_mem (by omega))
 unfold X.erasure_reckon
 rw[need_is (by omega),bind_s,show getI l (0:Int)=some (row l 0) from getI_row (j:=0) (by omega),bind_s,Int.toNat_natCast]
 have key:run (X.erasure_reckon_s10 (row l 0) l m) (List.replicate m.length ([]:List UInt8),(0:Int))=some (reck m l w):=by
  refine run_G0 (fun c=>reck m l c) (n:=w) (by omega) (by rw[tab_rep];rfl) (fun c hc=>?_) ?_
  ·unfold X.erasure_reckon_s10
   simp only
   have k1:run (X.erasure_reckon_s25 l (c:Int)) (([]:List UInt8),(0:Int))=some (tab l.length (fun k=>e (row l k) c)):=by
    refine run_G0 (fun i=>tab i (fun k=>e (row l k) c)) (n:=l.length) (by omega) rfl (fun i hi=>?_) ?_
    ·unfold X.erasure_reckon_s25
     simp only
     rw[if_pos (by simpa using hi),getI_row hi,bind_s,getI_e (by rw[hw _ (row_mem hi)];exact hc),bind_s,need_is (by simp;omega),bind_s,wr_inc (by omega),tab_succ]
    ·unfold X.erasure_reckon_s25
     simp only
     rw[if_neg (by simp)]
   rw[if_pos (by simp only[decide_eq_true_eq];omega),k1,bind_s]
   show X.erasure_reckon_e25 m (reck m l c) (c:Int) (tab l.length (fun k=>e (row l k) c))=_
   unfold X.erasure_reckon_e25
   have hap:appG m (tab l.length (fun k=>e (row l k) c))=(tab m.length (fun i=>S l.length (fun k=>gm (e (row m i) k) (e (row l k) c))),0):=by
    unfold appG
    rw[hr,if_pos (by simp[hm])]
    refine congrArg (fun t=>(t,(0:Int))) ?_
    unfold app
    refine tab_congr fun i hi=>?_
    rw[a5 _ (row_mem hi),hm]
    exact S_congr fun k hk=>by rw[e_tab hk]
   rw[x_Apply,bind_s,hap]
   have k2:run (X.erasure_reckon_s36 (tab m.length (fun i=>S l.length (fun k=>gm (e (row m i) k) (e (row l k) c))),((0:Nat):Int))) (reck m l c,(0:Int))=some (reck m l (c+1)):=by
    refine run_G0 (fun t=>tab m.length (fun i=>tab (if i<t then c+1 else c) (fun c=>S l.length (fun k=>gm (e (row m i) k) (e (row l k) c))))) (n:=m.length) (by omega) (tab_congr fun i _=>by rw[if_neg (by omega)]) (fun t ht=>?_) ?_
    ·unfold X.erasure_reckon_s36
     simp only
     rw[if_pos (by simpa using ht),getI_tab ht,bind_s,getI_tab ht,bind_s,if_neg (by omega),need_is (by simp;omega),bind_s,bind_s,wr_inc (by omega),Int.toNat_natCast,tab_set]
     refine congrArg (fun t=>some (Sum.inl (t,_))) (tab_congr fun i _=>?_)
     by_cases h:i=t
     ·subst h
      rw[if_pos rfl,if_pos (by omega),tab_succ]
     ·rw[if_neg h]
      by_cases h2:i<t
      ·rw[if_pos h2,if_pos (by omega)]
      ·rw[if_neg h2,if_neg (by omega)]
    ·unfold X.erasure_reckon_s36
     simp only
     rw[if_neg (by simp)]
     exact congrArg (fun t=>some (Sum.inr t)) (tab_congr fun i hi=>by rw[if_pos hi])
   show (run (X.erasure_reckon_s36 (tab m.length (fun i=>S l.length (fun k=>gm (e (row m i) k) (e (row l k) c))),((0:Nat):Int))) (reck m l c,(0:Int))).bind _=_
   rw[k2,bind_s]
   show X.erasure_reckon_e36 (c:Int) _=_
   unfold X.erasure_reckon_e36
   rw[wr_inc (by omega)]
  ·unfold X.erasure_reckon_s10
   simp only
   rw[if_neg (by simp only[decide_eq_true_eq];omega)]
 rw[key];rfl
theorem reck_len {m l:List (List UInt8)} {w:Nat}:(reck m l w).length=m.length:=tab_len
theorem reck_wide {m l:List (List UInt8)} {w:Nat}:Wide (reck m l w) w:=by
 intro r hr
 obtain ⟨i,_,rfl⟩:=mem_tab.1 hr
 exact tab_len
theorem e_reck {m l:List (List UInt8)} {w i c:Nat} (hi:i<m.length) (hc:c<w):e (row (reck m l w) i) c=S l.length (fun k=>gm (e (row m i) k) (e (row l k) c)):=by
 unfold reck
 rw[row_tab hi,e_tab hc]
def alikeB (l:List (List UInt8)):Bool:=l.all (fun r=>r.length==(row l 0).length)
theorem alike_of {l:List (List UInt8)} (h:alikeB l=true):Wide l (row l 0).length:=by
 unfold alikeB at h
 simp only[List.all_eq_true,beq_iff_eq] at h
 exact h
theorem alike_if {l:List (List UInt8)} {w:Nat} (h:Wide l w):alikeB l=true:=by
 unfold alikeB
 simp only[List.all_eq_true,beq_iff_eq]
 intro r hr
 obtain ⟨j,hj,_⟩:=mem_row hr
 rw[h r hr,h _ (row_mem (show 0<l.length by omega))]
theorem x_alike {l:List (List UInt8)} (hl:l.length≤1000000000):X.erasure_alike l=some (alikeB l):=by
 unfold X.erasure_alike X.slices_ContainsFunc_LLbyte_Lbyte
 rw[x_IndexFunc (fun r=>(r.length:Int) !=((row l 0).length:Int)) (fun a ha=>?_) (by omega),bind_s,bind_s,ixOf_ge]
 ·unfold alikeB
  rw[List.not_any_eq_all_not]
  congr 2
  funext r
  simp only[bne,Bool.not_not]
  rw[Bool.eq_iff_iff]
  simp only[beq_iff_eq]
  omega
 ·unfold X.erasure_alike_c1
  obtain ⟨j,hj,_⟩:=mem_row ha
  rw[show getI l (0:Int)=some (row l 0) from getI_row (j:=0) (by omega),bind_s]
theorem cau_len {n p:Nat}:(cau n p).length=p:=tab_len
theorem cau_wide {n p:Nat}:Wide (cau n p) n:=by
 intro r hr
 obtain ⟨i,_,rfl⟩:=mem_tab.1 hr
 exact tab_len
theorem cau_row2 {n p i:Nat} (hi:i<p):row (cau n p) i=tab n (fun k=>inv (bt i^^^bt (p+k))):=row_tab hi
def encG (l:List (List UInt8)) (p:Int):List (List UInt8)×Int:=
 if 1≤l.length∧0≤p∧l.length+p≤255∧alikeB l=true then (if p=0 then ([],0) else (reck (cau l.length p.toNat) l (row l 0).length,0)) else ([],1)
end Go.AX
namespace Go.AX
open Go.AM
open Gf
namespace Gf
theorem e_elim {x:Nat} {q r:List UInt8} {j:Nat} (hj:j<r.length):e (elim x q r) j=e r j^^^gm (e q j) (e r x):=by
 unfold elim
 split
 ·rw[e_add hj,e_scl]
 ·rename_i h
  have:e r x=0:=by simpa using h
  rw[this,gm_zero,UInt8.xor_zero]
theorem e_app {a b:List UInt8} {j:Nat}:e (a++b) j=if j<a.length then e a j else e b (j-a.length):=by
 unfold e
 rw[List.getD_eq_getElem?_getD,List.getD_eq_getElem?_getD,List.getD_eq_getElem?_getD,List.getElem?_append]
 split<;>rfl
theorem e_drop {a:List UInt8} {n j:Nat}:e (a.drop n) j=e a (n+j):=by
 unfold e
 rw[List.getD_eq_getElem?_getD,List.getD_eq_getElem?_getD,List.getElem?_drop]
theorem e_unit {n i j:Nat} (h:j<n):e (unit n i) j=if j=i then 1 else 0:=e_tab h
def Comb (l:List (List UInt8)) (w:Nat) (c:Nat→UInt8) (r:Nat→UInt8):Prop:=∀j,j<w→S l.length (fun i=>gm (c i) (e (row l i) j))=r j
def sw (x p i:Nat):Nat:=if i=p then x else if i=x then p else i
theorem row_swp' {l:List (List UInt8)} {x p i:Nat} (hx:x<l.length) (hp:p<l.length):row (swp l x p) i=row l (sw x p i):=by
 rw[row_swp hx hp]
 unfold sw
 split
 ·rfl
 ·split<;>rfl
theorem sw_lt {x p i n:Nat} (hx:x<n) (hp:p<n) (hi:i<n):sw x p i<n:=by
 unfold sw
 split
 ·exact hx
 ·split
  ·exact hp
  ·exact hi
theorem S_sw {f:Nat→UInt8} {x p n:Nat} (hx:x<n) (hp:p<n):S n (fun i=>f (sw x p i))=S n f:=by
 by_cases hxp:x=p
 ·refine S_congr fun i _=>?_
  have:sw x p i=i:=by unfold sw;by_cases h:i=p<;>simp[h,hxp]
  rw[this]
 ·rw[S_apart (fun i=>f (sw x p i)) hx,S_apart (fun j=>if j=x then 0 else f (sw x p j)) hp,S_apart f hx,S_apart (fun j=>if j=x then 0 else f j) hp]
  rw[if_neg (fun h=>hxp h.symm),if_neg (fun h=>hxp h.symm)]
  have e1:sw x p x=p:=by unfold sw;rw[if_neg hxp,if_pos rfl]
  have e2:sw x p p=x:=by unfold sw;rw[if_pos rfl]
  rw[e1,e2,←UInt8.xor_assoc,←UInt8.xor_assoc,UInt8.xor_comm (f p) (f x)]
  congr 1
  refine S_congr fun i _=>?_
  by_cases h1:i=p
  ·rw[if_pos h1,if_pos h1]
  ·rw[if_neg h1,if_neg h1]
   by_cases h2:i=x
   ·rw[if_pos h2,if_pos h2]
   ·rw[if_neg h2,if_neg h2]
    have:sw x p i=i:=by unfold sw;rw[if_neg h1,if_neg h2]
    rw[this]
theorem lead_x {l:List (List UInt8)} {x p:Nat} (h:piv l x=some p):e (lead l x p) x=1:=by
 unfold lead
 rw[e_scl,gm_inv (piv_some h).2]
theorem lead_s {l:List (List UInt8)} {x p:Nat} (h:piv l x=some p) (j:Nat):gm (e (lead l x p) j) (e (row l (x+p)) x)=e (row l (x+p)) j:=by
 unfold lead
 rw[e_scl,gm_assoc,inv_gm (piv_some h).2,gm_one]
theorem comb_step {l:List (List UInt8)} {w x p:Nat} {c r:Nat→UInt8} (hw:Wide l w) (hp:piv l x=some p) (hxw:x<w) (h:Comb l w c r):
 Comb (gjStep l x p) w (fun i=>if i=x then r x else c (sw x (x+p) i)) r:=by
 intro j hj
 have hlt:=(piv_some hp).1
 have hx:x<l.length:=by omega
 rw[gjStep_len]
 -- after the swap
 have h1:∀j,j<w→S l.length (fun i=>gm (c (sw x (x+p) i)) (e (row l (sw x (x+p) i)) j))=r j:=fun j hj=>by
  rw[S_sw (f:=fun i=>gm (c i) (e (row l i) j)) hx hlt,h j hj]
 have sx:sw x (x+p) x=x+p:=by
  unfold sw
  by_cases h:x=x+p
  ·rw[if_pos h];exact h
  ·rw[if_neg h,if_pos rfl]
 have hj1:=h1 j hj
 have hx1:=h1 x hxw
 rw[S_apart _ hx,sx] at hj1 hx1
 rw[S_apart _ hx]
 show gm (if x=x then r x else _) _^^^S l.length (fun i=>if i=x then 0 else gm (if i=x then r x else c (sw x (x+p) i)) (e (row (gjStep l x p) i) j))=r j
 rw[if_pos rfl,row_gjStep hx,if_pos rfl]
 -- the others
 have ho:S l.length (fun i=>if i=x then 0 else gm (if i=x then r x else c (sw x (x+p) i)) (e (row (gjStep l x p) i) j))=
  S l.length (fun i=>if i=x then 0 else gm (c (sw x (x+p) i)) (e (row l (sw x (x+p) i)) j))^^^
  gm (S l.length (fun i=>if i=x then 0 else gm (c (sw x (x+p) i)) (e (row l (sw x (x+p) i)) x))) (e (lead l x p) j):=by
  rw[S_rmul,←S_xor]
  refine S_congr fun i hi=>?_
  by_cases hix:i=x
  ·rw[if_pos hix,if_pos hix,if_pos hix,zero_gm,UInt8.xor_zero]
  ·rw[if_neg hix,if_neg hix,if_neg hix,if_neg hix,row_gjStep hi,if_neg hix,row_swp' hx hlt]
   have hlen:(row l (sw x (x+p) i)).length=w:=hw _ (row_mem (sw_lt hx hlt hi))
   rw[e_elim (by omega),gm_xor,gm_assoc,gm_comm (e (row l (sw x (x+p) i)) x)]
 rw[ho]
 -- sums
 generalize S l.length (fun i=>if i=x then 0 else gm (c (sw x (x+p) i)) (e (row l (sw x (x+p) i)) j))=A at hj1 ⊢
 generalize S l.length (fun i=>if i=x then 0 else gm (c (sw x (x+p) i)) (e (row l (sw x (x+p) i)) x))=B at hx1 ⊢
 have hs:=lead_s hp j
 rw[←hj1,←hx1,←hs,xor_gm]
 generalize e (lead l x p) j=q
 generalize e (row l (x+p)) x=s
 generalize c (x+p)=d
 rw[gm_comm q s,←gm_assoc,UInt8.xor_comm A,←UInt8.xor_assoc,UInt8.xor_assoc (gm (gm d s) q),UInt8.xor_self,UInt8.xor_zero]
theorem comb_gj {l:List (List UInt8)} {w:Nat} {r:Nat→UInt8} (hw:Wide l w):∀{i:Nat} {l':List (List UInt8)} {c:Nat→UInt8},i≤l.length→i≤w→gj l i=some l'→Comb l w c r→∃c',Comb l' w c' r
 |0,l',c,_,_,h,k=>by injection h with h;subst h;exact ⟨c,k⟩
 |i+1,l',c,hi,hiw,h,k=>by
  obtain ⟨l1,e1,e2⟩:=Option.bind_eq_some_iff.1 h
  obtain ⟨p,e3,rfl⟩:=Option.map_eq_some_iff.1 e2
  obtain ⟨c',k'⟩:=comb_gj hw (by omega) (by omega) e1 k
  exact ⟨_,comb_step (gj_shape hw (by omega) e1).2 e3 (by omega) k'⟩
def Done (l:List (List UInt8)) (x:Nat):Prop:=∀i,i<l.length→∀c,c<x→e (row l i) c=if i=c then 1 else 0
theorem done_step {l:List (List UInt8)} {w x p:Nat} (hw:Wide l w) (hp:piv l x=some p) (hxw:x<w) (h:Done l x):Done (gjStep l x p) (x+1):=by
 intro i hi c hc
 rw[gjStep_len] at hi
 have hlt:=(piv_some hp).1
 have hx:x<l.length:=by omega
 have hq:∀c,c<x→e (lead l x p) c=0:=fun c hc=>by
  unfold lead
  rw[e_scl,h _ hlt c hc,if_neg (by omega),zero_gm]
 rw[row_gjStep hi]
 by_cases hix:i=x
 ·rw[if_pos hix]
  by_cases hcx:c=x
  ·rw[hcx,lead_x hp,if_pos hix]
  ·rw[hq c (by omega),if_neg (by omega)]
 ·rw[if_neg hix,row_swp' hx hlt]
  have hs:=sw_lt hx hlt hi (i:=i)
  have hlen:(row l (sw x (x+p) i)).length=w:=hw _ (row_mem hs)
  rw[e_elim (by omega)]
  by_cases hcx:c=x
  ·rw[hcx,lead_x hp,one_gm,UInt8.xor_self,if_neg hix]
  ·rw[hq c (by omega),zero_gm,UInt8.xor_zero,h _ hs c (by omega)]
   have:sw x (x+p) i=c↔i=c:=by
    unfold sw
    by_cases h1:i=x+p
    ·rw[if_pos h1];omega
    ·rw[if_neg h1,if_neg hix]
   by_cases h2:i=c
   ·rw[if_pos h2,if_pos (this.2 h2)]
   ·rw[if_neg h2,if_neg fun h=>h2 (this.1 h)]
theorem done_gj {l:List (List UInt8)} {w:Nat} (hw:Wide l w):∀{i:Nat} {l':List (List UInt8)},i≤l.length→i≤w→gj l i=some l'→Done l' i
 |0,l',_,_,_=>fun i _ c hc=>by omega
 |i+1,l',hi,hiw,h=>by
  obtain ⟨l1,e1,e2⟩:=Option.bind_eq_some_iff.1 h
  obtain ⟨p,e3,rfl⟩:=Option.map_eq_some_iff.1 e2
  exact done_step (gj_shape hw (by omega) e1).2 e3 (by omega) (done_gj hw (by omega) (by omega) e1)
theorem gj_rows {l:List (List UInt8)} {w:Nat} (P:List UInt8→Prop) (hs:∀r b,r.length=w→P r→P (scl r b)) (ha:∀a b,a.length=w→b.length=w→P a→P b→P (add a b)) (hw:Wide l w) (h0:∀r∈l,P r):
 ∀{i:Nat} {l':List (List UInt8)},i≤l.length→gj l i=some l'→∀r∈l',P r
 |0,l',_,h=>by injection h with h;subst h;exact h0
 |i+1,l',hi,h=>by
  obtain ⟨l1,e1,e2⟩:=Option.bind_eq_some_iff.1 h
  obtain ⟨p,e3,rfl⟩:=Option.map_eq_some_iff.1 e2
  have ih:=gj_rows P hs ha hw h0 (by omega) e1
  have w1:=(gj_shape hw (by omega) e1).2
  have hlt:=(piv_some e3).1
  have hx:i<l1.length:=by omega
  have hq:P (lead l1 i p):=hs _ _ (w1 _ (row_mem hlt)) (ih _ (row_mem hlt))
  have hql:(lead l1 i p).length=w:=by unfold lead;rw[scl_len];exact w1 _ (row_mem hlt)
  intro r hr
  obtain ⟨j,hj,rfl⟩:=mem_row hr
  rw[gjStep_len] at hj
  rw[row_gjStep hj]
  split
  ·exact hq
  ·have hm:=swp_mem hx hlt hj
   unfold elim
   split
   ·exact ha _ _ (w1 _ hm) (by rw[scl_len,hql]) (ih _ hm) (hs _ _ hql hq)
   ·exact ih _ hm
section
variable {m:List (List UInt8)}
theorem row_besides {i:Nat} (hi:i<m.length):row (besides m) i=row m i++unit m.length i:=row_tab hi
theorem left_inv {l:List (List UInt8)} (hw:Wide m m.length) (h:gj (besides m) m.length=some l) {i j:Nat} (hi:i<m.length) (hj:j<m.length):
 S m.length (fun k=>gm (e (row l i) (m.length+k)) (e (row m k) j))=if i=j then 1 else 0:=by
 have hwd:=besides_wide hw
 have hlen:=besides_len (m:=m)
 have hd:=done_gj hwd (by omega) (by omega) h
 obtain ⟨q1,q2⟩:=gj_shape hwd (by omega) h
 have hr:=gj_rows (w:=m.length+m.length) (fun r=>∀j,j<m.length→S m.length (fun k=>gm (e r (m.length+k)) (e (row m k) j))=e r j) (fun r b _ hr j hj=>?_) (fun a b hal hbl ha hb j hj=>?_) hwd (fun r hr=>?_) (by omega) h
 ·rw[hr _ (row_mem (by omega)) j hj,hd i (by omega) j hj]
 ·rw[e_scl,←hr j hj,S_rmul]
  refine S_congr fun k _=>?_
  rw[e_scl,gm_assoc,gm_assoc,gm_comm b]
 ·rw[e_add (by omega),←ha j hj,←hb j hj,←S_xor]
  refine S_congr fun k hk=>?_
  rw[e_add (by omega),xor_gm]
 ·obtain ⟨t,ht,rfl⟩:=mem_row hr
  rw[hlen] at ht
  intro j hj
  have hlt:(row m t).length=m.length:=hw _ (row_mem ht)
  rw[row_besides ht,e_app,if_pos (by omega)]
  refine Eq.trans (S_congr (g:=fun k=>if k=t then e (row m k) j else 0) fun k hk=>?_) ?_
  ·rw[e_app,if_neg (by omega),show m.length+k-(row m t).length=k by omega,e_unit hk]
   by_cases hkt:k=t
   ·rw[if_pos hkt,if_pos hkt,one_gm]
   ·rw[if_neg hkt,if_neg hkt,zero_gm]
  ·rw[S_one,if_pos ht]
theorem no_inv {x:Nat} {l:List (List UInt8)} (hw:Wide m m.length) (hx:x<m.length) (h:gj (besides m) x=some l) (hp:piv l x=none):
 ∃d:Nat→UInt8,d x=1∧(∀j,x<j→d j=0)∧∀i,i<m.length→S m.length (fun j=>gm (e (row m i) j) (d j))=0:=by
 have hwd:=besides_wide hw
 have hlen:=besides_len (m:=m)
 have hd:=done_gj hwd (by omega) (by omega) h
 obtain ⟨q1,q2⟩:=gj_shape hwd (by omega) h
 let d:Nat→UInt8:=fun j=>if j=x then 1 else if j<x then e (row l j) x else 0
 have hl:∀t,t<m.length→S m.length (fun j=>gm (e (row l t) j) (d j))=0:=fun t ht=>by
  rw[S_apart _ hx]
  simp only[d,if_true]
  rw[gm_one]
  by_cases htx:t<x
  ·refine Eq.trans (congrArg (fun z=>e (row l t) x^^^z) (Eq.trans (S_congr (g:=fun j=>if j=t then e (row l j) x else 0) fun j hj=>?_) (S_one _ t _))) ?_
   ·by_cases hjx:j=x
    ·rw[if_pos hjx,if_neg (by omega)]
    ·rw[if_neg hjx,if_neg hjx]
     by_cases hjl:j<x
     ·rw[if_pos hjl,hd t (by omega) j hjl]
      by_cases hjt:j=t
      ·rw[if_pos hjt,if_pos hjt.symm,one_gm]
      ·rw[if_neg hjt,if_neg fun h=>hjt h.symm,zero_gm]
     ·rw[if_neg hjl,gm_zero,if_neg (by omega)]
   ·rw[if_pos ht,UInt8.xor_self]
  ·rw[piv_none hp (by omega) (by omega),UInt8.zero_xor]
   refine S_zero fun j hj=>?_
   by_cases hjx:j=x
   ·rw[if_pos hjx]
   ·rw[if_neg hjx,if_neg hjx]
    by_cases hjl:j<x
    ·rw[if_pos hjl,hd t (by omega) j hjl,if_neg (by omega),zero_gm]
    ·rw[if_neg hjl,gm_zero]
 refine ⟨d,by simp[d],fun j hj=>by simp only[d];rw[if_neg (by omega),if_neg (by omega)],fun i hi=>?_⟩
 have hc:Comb (besides m) (m.length+m.length) (fun k=>if k=i then 1 else 0) (e (row (besides m) i)):=fun t ht=>by
  rw[hlen]
  refine Eq.trans (S_congr (g:=fun k=>if k=i then e (row (besides m) k) t else 0) fun k _=>?_) ?_
  ·show gm (if k=i then 1 else 0) _=_
   by_cases hki:k=i
   ·rw[if_pos hki,if_pos hki,one_gm]
   ·rw[if_neg hki,if_neg hki,zero_gm]
  ·rw[S_one,if_pos hi]
 obtain ⟨c,hc⟩:=comb_gj hwd (by omega) (by omega) h hc
 have hlt:(row m i).length=m.length:=hw _ (row_mem hi)
 have hm:∀j,j<m.length→e (row m i) j=S m.length (fun k=>gm (c k) (e (row l k) j)):=fun j hj=>by
  have:=hc j (by omega)
  rw[row_besides hi,e_app,if_pos (by omega),q1,hlen] at this
  exact this.symm
 rw[S_congr (g:=fun j=>S m.length (fun k=>gm (gm (c k) (e (row l k) j)) (d j))) fun j hj=>by rw[hm j hj,S_rmul],S_swap]
 refine S_zero fun k hk=>?_
 rw[S_congr (g:=fun j=>gm (c k) (gm (e (row l k) j) (d j))) fun j _=>gm_assoc _ _ _,←S_mul,hl k hk,gm_zero]
end
end Gf
end Go.AX
namespace Go.AX
open Go.AM
open Gf
theorem invG_sq {m:List (List UInt8)} (hr:rightB m=true) (hsq:m.length=(row m 0).length):invG m=match gj (besides m) m.length with|none=>([],12)|some l=>(outs m.length l,0):=by
 have h:(rightB m&&(m.length==(row m 0).length))=true:=by rw[hr];simpa using hsq
 exact if_pos h
theorem outs_len {l:List (List UInt8)} {n:Nat}:(outs n l).length=l.length:=tab_len
theorem row_outs {l:List (List UInt8)} {n i:Nat} (h:i<l.length):row (outs n l) i=(row l i).drop n:=row_tab h
theorem outs_wide {l:List (List UInt8)} {n w:Nat} (h:Wide l (n+w)):Wide (outs n l) w:=by
 intro r hr
 obtain ⟨i,hi,rfl⟩:=mem_tab.1 hr
 rw[List.length_drop,h _ (row_mem hi)];omega
end Go.AX
namespace Go.AX
open Go.AM
open Gf
theorem gj_none_at {l:List (List UInt8)}:∀{n:Nat},gj l n=none→∃x l',x<n∧gj l x=some l'∧piv l' x=none
 |0,h=>by cases h
 |n+1,h=>by
  cases hg:gj l n with
  |none=>
   obtain ⟨x,l',h1,h2,h3⟩:=gj_none_at hg
   exact ⟨x,l',by omega,h2,h3⟩
  |some l'=>
   refine ⟨n,l',by omega,hg,?_⟩
   have h2:(gj l n).bind (fun l'=>(piv l' n).map (gjStep l' n))=none:=h
   rw[hg] at h2
   cases hp:piv l' n with
   |none=>rfl
   |some p=>rw[show (some l').bind (fun l'=>(piv l' n).map (gjStep l' n))=(piv l' n).map (gjStep l' n) from rfl,hp] at h2;cases h2
theorem inv_there {m:List (List UInt8)} (hw:Wide m m.length) (h:∀d:Nat→UInt8,(∀i,i<m.length→S m.length (fun j=>gm (e (row m i) j) (d j))=0)→∀j,j<m.length→d j=0):∃l,gj (besides m) m.length=some l:=by
 cases hg:gj (besides m) m.length with
 |some l=>exact ⟨l,rfl⟩
 |none=>
  obtain ⟨x,l',h1,h2,h3⟩:=gj_none_at hg
  obtain ⟨d,q1,_,q3⟩:=no_inv hw h1 h2 h3
  have:=h d q3 x h1
  rw[q1] at this
  exact absurd this (by decide)
end Go.AX
namespace Go.AX
open Go.AM
end Go.AX
namespace Go.AX
open Go.AM
open Gf
def gen (d n:Nat):List (List UInt8):=tab d (unit d)++cau d (n-d)
theorem gen_len {d n:Nat} (h:d≤n):(gen d n).length=n:=by unfold gen;rw[List.length_append,tab_len,cau_len];omega
theorem row_gen1 {d n i:Nat} (h:i<d):row (gen d n) i=unit d i:=by
 unfold gen row
 rw[List.getD_eq_getElem?_getD,List.getElem?_append_left (by rw[tab_len];exact h),tab_get? h];rfl
theorem row_gen2 {d n i:Nat} (h:d≤i):row (gen d n) i=row (cau d (n-d)) (i-d):=by
 unfold gen row
 rw[List.getD_eq_getElem?_getD,List.getD_eq_getElem?_getD,List.getElem?_append_right (by rw[tab_len];exact h),tab_len]
theorem gen_wide {d n:Nat}:Wide (gen d n) d:=by
 intro r hr
 unfold gen at hr
 rcases List.mem_append.1 hr with h|h
 ·obtain ⟨i,_,rfl⟩:=mem_tab.1 h
  exact tab_len
 ·exact cau_wide r h
theorem getD_inj {l:List Nat} (hd:l.Nodup) {i j:Nat} (hi:i<l.length) (hj:j<l.length) (h:l.getD i 0=l.getD j 0):i=j:=by
 rw[List.getD_eq_getElem?_getD,List.getD_eq_getElem?_getD,List.getElem?_eq_getElem hi,List.getElem?_eq_getElem hj] at h
 have h:l[i]=l[j]:=h
 have pw:=List.pairwise_iff_getElem.1 hd
 rcases Nat.lt_trichotomy i j with h3|h3|h3
 ·exact (pw i j hi hj h3 h).elim
 ·exact h3
 ·exact (pw j i hj hi h3 h.symm).elim
theorem getD_mem {l:List Nat} {i:Nat} (hi:i<l.length):l.getD i 0∈l:=by
 rw[List.getD_eq_getElem?_getD,List.getElem?_eq_getElem hi]
 exact List.getElem_mem hi
theorem S_some {f:Nat→UInt8} {P:Nat→Bool}:∀{n:Nat},(∀j,j<n→P j=false→f j=0)→S n f=S ((List.range n).filter P).length (fun t=>f (((List.range n).filter P).getD t 0))
 |0,_=>rfl
 |n+1,h=>by
  have ih:=S_some (f:=f) (P:=P) (n:=n) fun j hj=>h j (by omega)
  rw[List.range_succ,List.filter_append]
  show S n f^^^f n=_
  cases hp:P n with
  |false=>
   rw[h n (by omega) hp,UInt8.xor_zero,ih]
   have:([n].filter P)=[]:=by simp[hp]
   rw[this,List.append_nil]
  |true=>
   have:([n].filter P)=[n]:=by simp[hp]
   rw[this,List.length_append,ih]
   show _=S (((List.range n).filter P).length+1) _
   show _=S ((List.range n).filter P).length _^^^_
   congr 1
   ·refine S_congr fun t ht=>?_
    rw[List.getD_eq_getElem?_getD,List.getD_eq_getElem?_getD,List.getElem?_append_left ht]
   ·show f n=f (((List.range n).filter P++[n]).getD ((List.range n).filter P).length 0)
    rw[List.getD_eq_getElem?_getD,List.getElem?_append_right (Nat.le_refl _),Nat.sub_self];rfl
theorem gen_inv {d n:Nat} {ks:List Nat} (h1:1≤d) (h2:d≤n) (h3:n≤255) (hl:ks.length=d) (hd:ks.Nodup) (hk:∀k∈ks,k<n) {c:Nat→UInt8}
 (hc:∀k∈ks,S d (fun j=>gm (e (row (gen d n) k) j) (c j))=0):∀j,j<d→c j=0:=by
 have low:∀j,j<d→j∈ks→c j=0:=fun j hj hm=>by
  have:=hc j hm
  rw[row_gen1 hj] at this
  refine Eq.trans (Eq.symm ?_) this
  refine Eq.trans (S_congr (g:=fun t=>if t=j then c t else 0) fun t ht=>?_) (by rw[S_one,if_pos hj])
  rw[e_unit ht]
  by_cases h:t=j
  ·rw[if_pos h,if_pos h,one_gm]
  ·rw[if_neg h,if_neg h,zero_gm]
 let A:=(List.range d).filter (fun j=>decide (j∉ks))
 let B:=ks.filter (fun k=>decide (d≤k))
 have hA:∀j,j∈A↔j<d∧j∉ks:=fun j=>by simp[A]
 have hB:∀k,k∈B↔k∈ks∧d≤k:=fun k=>by simp[B]
 have hAd:A.Nodup:=List.Nodup.sublist List.filter_sublist List.nodup_range
 have hBd:B.Nodup:=List.Nodup.sublist List.filter_sublist hd
 have hAB:A.length=B.length:=by
  have e1:=List.length_eq_countP_add_countP (fun k=>decide (d≤k)) (l:=ks)
  have e2:=List.length_eq_countP_add_countP (fun j=>decide (j∉ks)) (l:=List.range d)
  rw[List.countP_eq_length_filter,List.countP_eq_length_filter] at e1 e2
  rw[List.length_range] at e2
  have hp:(ks.filter (fun a=>decide (¬(decide (d≤a))=true))).Perm ((List.range d).filter (fun a=>decide (¬(decide (a∉ks))=true))):=by
   refine (List.perm_ext_iff_of_nodup (List.Nodup.sublist List.filter_sublist hd) (List.Nodup.sublist List.filter_sublist List.nodup_range)).2 fun a=>?_
   simp only[List.mem_filter,List.mem_range,decide_eq_true_eq,Classical.not_not,Nat.not_le]
   exact ⟨fun h=>⟨h.2,h.1⟩,fun h=>⟨h.2,h.1⟩⟩
  have e3:=hp.length_eq
  show ((List.range d).filter (fun j=>decide (j∉ks))).length=(ks.filter (fun k=>decide (d≤k))).length
  omega
 have key:=cauchy_none A.length (fun t=>bt (B.getD t 0-d)) (fun t=>bt (n-d+A.getD t 0)) (fun t=>c (A.getD t 0)) (fun i j hi hj h=>?_) (fun i j hi hj h=>?_) (fun i j hi hj h=>?_) (fun i hi=>?_)
 ·intro j hj
  by_cases hm:j∈ks
  ·exact low j hj hm
  ·obtain ⟨t,ht,he⟩:=List.getElem_of_mem ((hA j).2 ⟨hj,hm⟩)
   have h4:=key t ht
   have:A.getD t 0=j:=by rw[List.getD_eq_getElem?_getD,List.getElem?_eq_getElem ht];exact he
   rw[this] at h4
   exact h4
 ·have a1:=(hB _).1 (getD_mem (show i<B.length by omega))
  have a2:=(hB _).1 (getD_mem (show j<B.length by omega))
  have a3:=hk _ a1.1
  have a4:=hk _ a2.1
  have e1:bt (B.getD i 0-d)=bt (B.getD j 0-d):=h
  have e2:=bt_inj (by omega) (by omega) e1
  exact getD_inj hBd (by omega) (by omega) (by omega)
 ·have a1:=(hA _).1 (getD_mem hi)
  have a2:=(hA _).1 (getD_mem hj)
  have e1:bt (n-d+A.getD i 0)=bt (n-d+A.getD j 0):=h
  have e2:=bt_inj (by omega) (by omega) e1
  exact getD_inj hAd hi hj (by omega)
 ·have a1:=(hB _).1 (getD_mem (show i<B.length by omega))
  have a3:=hk _ a1.1
  have a2:=(hA _).1 (getD_mem hj)
  have e1:bt (B.getD i 0-d)=bt (n-d+A.getD j 0):=h
  have e2:=bt_inj (by omega) (by omega) e1
  omega
 ·have a1:=(hB _).1 (getD_mem (show i<B.length by omega))
  have a3:=hk _ a1.1
  have h4:=hc _ a1.1
  rw[S_some (P:=fun j=>decide (j∉ks)) fun j hj hP=>by
   have hm:j∈ks:=by simpa using hP
   rw[low j hj hm,gm_zero]] at h4
  rw[←h4]
  refine S_congr fun t ht=>?_
  have a2:=(hA _).1 (getD_mem ht)
  rw[row_gen2 a1.2,cau_row2 (by omega),e_tab a2.1]
def pres (l:List (List UInt8)) (i:Nat):Bool:=decide (0<(row l i).length)
def ixs (l:List (List UInt8)) (n:Nat):List Nat:=(List.range n).filter (pres l)
theorem ixs_succ {l:List (List UInt8)} {n:Nat}:ixs l (n+1)=ixs l n++(if pres l n=true then [n] else []):=by
 unfold ixs
 rw[List.range_succ,List.filter_append]
 cases h:pres l n<;>simp[h]
theorem ixs_le {l:List (List UInt8)} {n:Nat}:(ixs l n).length≤n:=by
 have:=List.length_filter_le (pres l) (List.range n)
 rw[List.length_range] at this
 exact this
def there (l:List (List UInt8)):List (List UInt8):=(ixs l l.length).map (row l)
def decG (l:List (List UInt8)) (d:Int):List (List UInt8)×Int:=
 if 1≤d∧d≤l.length∧l.length≤255∧(there l).length≠0∧alikeB (there l)=true then
  (if (there l).length<d then ([],10) else
    let q:=invG (((ixs l l.length).take d.toNat).map (row (gen d.toNat l.length)))
    if q.2=0 then (reck q.1 ((there l).take d.toNat) (row (there l) 0).length,0) else ([],q.2))
 else ([],1)
end Go.AX
namespace Go.AX
open Go.AM
open Gf
theorem x_rows {d n:Nat} (h1:1≤d) (h2:d≤n) (h3:n≤255):X.erasure_rows (d:Int) (n:Int)=some (gen d n):=by
 unfold X.erasure_rows
 have key:run (X.erasure_rows_s8 (d:Int)) (([]:List (List UInt8)),(0:Int))=some (tab d (unit d)):=by
  refine run_G0 (fun i=>tab i (unit d)) (n:=d) (by omega) rfl (fun i hi=>?_) ?_
  ·unfold X.erasure_rows_s8
   simp only
   rw[if_pos (by simpa using hi),need_is (by omega),bind_s,rep_tab,getI_tab hi,bind_s,Int.toNat_natCast,tab_set,need_is (by simp;omega),bind_s,wr_inc (by omega),tab_succ];rfl
  ·unfold X.erasure_rows_s8
   simp only
   rw[if_neg (by simp)]
 rw[key,bind_s]
 show X.erasure_rows_e8 (n:Int) (d:Int) (tab d (unit d))=_
 unfold X.erasure_rows_e8 X.erasure_rows_j14 gen
 by_cases h:d<n
 ·have e1:wr ((n:Int)-(d:Int))=((n-d:Nat):Int):=by rw[wr_eq (by omega) (by omega)];omega
  have hC:cauG (d:Int) ((n-d:Nat):Int)=(cau d (n-d),0):=by
   unfold cauG
   rw[if_pos ⟨by omega,by omega,by omega⟩,Int.toNat_natCast,Int.toNat_natCast]
  rw[if_pos (by simp only[gt_iff_lt,decide_eq_true_eq];omega),e1,x_Cauchy _ _ (by omega) (by omega),bind_s,hC]
  simp only
  rw[need_is (by rw[tab_len,cau_len];omega),bind_s]
 ·have e2:n-d=0:=by omega
  rw[if_neg (by simp only[gt_iff_lt,decide_eq_true_eq];omega),e2]
  simp[cau,tab]
theorem there_x {l:List (List UInt8)} (hl:l.length≤1000000):run (X.erasure_Decode_s8 l) (([]:List (List UInt8)),(0:Int))=some (there l):=by
 refine run_G0 (fun i=>(ixs l i).map (row l)) (n:=l.length) (by omega) rfl (fun i hi=>?_) ?_
 ·unfold X.erasure_Decode_s8
  simp only
  have hle:=ixs_le (l:=l) (n:=i)
  rw[if_pos (by simpa using hi),getI_row hi,bind_s,ixs_succ]
  cases hp:pres l i with
  |true=>
   have:decide (((row l i).length:Int)>0)=true:=by unfold pres at hp;simpa using hp
   rw[this,if_pos rfl,need_is (by simp;omega),bind_s,wr_inc (by omega),if_pos rfl,List.map_append];rfl
  |false=>
   have:decide (((row l i).length:Int)>0)=false:=by unfold pres at hp;simpa using hp
   rw[this,if_neg (by simp),wr_inc (by omega),if_neg (by simp),List.append_nil]
 ·unfold X.erasure_Decode_s8
  simp only
  rw[if_neg (by simp)];rfl
theorem pick_x {l:List (List UInt8)} {d:Nat} (h1:1≤d) (h2:d≤l.length) (h3:l.length≤255):run (X.erasure_Decode_s25 (gen d l.length) l (d:Int)) (([]:List (List UInt8)),(0:Int))=some (((ixs l l.length).take d).map (row (gen d l.length))):=by
 have hg:=gen_len h2
 refine run_G0 (fun i=>((ixs l i).take d).map (row (gen d l.length))) (n:=l.length) (by omega) (by simp[ixs]) (fun i hi=>?_) ?_
 ·unfold X.erasure_Decode_s25
  simp only
  have hle:=ixs_le (l:=l) (n:=i)
  rw[if_pos (by simp only[decide_eq_true_eq];omega),getI_row (by omega),bind_s,getI_row hi,bind_s,ixs_succ,List.length_map,List.length_take]
  cases hp:pres l i with
  |true=>
   have b1:decide (((row l i).length:Int)>0)=true:=by unfold pres at hp;simpa using hp
   rw[b1,if_pos rfl,List.take_append]
   by_cases hlt:(ixs l i).length<d
   ·have b2:decide (((min d (ixs l i).length:Nat):Int)<(d:Int))=true:=by simp only[decide_eq_true_eq];omega
    have e1:([i]:List Nat).take (d-(ixs l i).length)=[i]:=List.take_of_length_le (by simp;omega)
    rw[b2,if_pos (show (true&&true)=true from rfl),need_is (by simp only[List.length_singleton];omega),bind_s,wr_inc (by omega),e1,List.map_append];rfl
   ·have b2:decide (((min d (ixs l i).length:Nat):Int)<(d:Int))=false:=by simp only[decide_eq_false_iff_not];omega
    have e1:([i]:List Nat).take (d-(ixs l i).length)=[]:=by rw[show d-(ixs l i).length=0 by omega];rfl
    rw[b2,if_neg (by simp),wr_inc (by omega),e1,List.append_nil]
  |false=>
   have b1:decide (((row l i).length:Int)>0)=false:=by unfold pres at hp;simpa using hp
   rw[b1,if_neg (by simp),wr_inc (by omega),if_neg (by simp),List.append_nil]
 ·unfold X.erasure_Decode_s25
  simp only
  rw[if_neg (by simp only[decide_eq_true_eq];omega)]
theorem slc_to {α:Type} (xs:List α) (n:Nat):slc xs (0:Int) (n:Int)=xs.take n:=by
 unfold slc
 simp
theorem x_Decode (l:List (List UInt8)) (d:Int) (hl:l.length≤1000000) (hr:∀r∈l,r.length≤1000000):X.erasure_Decode l d=some (decG l d):=by
 unfold X.erasure_Decode
 rw[there_x hl,bind_s]
 show X.erasure_Decode_e8 d l (there l)=_
 unfold X.erasure_Decode_e8
 have htl:(there l).length≤l.length:=by unfold there;rw[List.length_map];exact ixs_le
 have htr:∀r∈there l,r.length≤1000000:=fun r hr'=>by
  obtain ⟨i,hi,rfl⟩:=List.mem_map.1 hr'
  have:i<l.length:=by have:=(List.mem_filter.1 hi).1;simpa using this
  exact hr _ (row_mem this)
 by_cases h:1≤d∧d≤l.length∧l.length≤255∧(there l).length≠0
 ·obtain ⟨h1,h2,h3,h4⟩:=h
  have b1:decide (d<1)=false:=by simp;omega
  have b2:decide (d>(l.length:Int))=false:=by simp;omega
  have b3:decide ((l.length:Int)>255)=false:=by simp;omega
  have b4:(((there l).length:Int)==0)=false:=by simp only[beq_eq_false_iff_ne,ne_eq];omega
  rw[b1,b2,b3,b4]
  simp only[Bool.or_false,Bool.not_false,optG_true,Bool.false_or]
  rw[x_alike (by omega),bind_s]
  cases ha:alikeB (there l) with
  |false=>
   have hE:decG l d=([],1):=if_neg (by rw[ha];simp)
   rw[hE];rfl
  |true=>
   simp only[Bool.not_true,Bool.false_eq_true,if_false]
   have hE:decG l d=(if (there l).length<d then ([],10) else
    let q:=invG (((ixs l l.length).take d.toNat).map (row (gen d.toNat l.length)))
    if q.2=0 then (reck q.1 ((there l).take d.toNat) (row (there l) 0).length,0) else ([],q.2)):=if_pos ⟨h1,h2,h3,h4,ha⟩
   rw[hE]
   by_cases hlt:((there l).length:Int)<d
   ·rw[if_pos hlt,if_pos (by simpa using hlt)]
   ·rw[if_neg hlt,if_neg (by simpa using hlt)]
    obtain ⟨k,rfl⟩:=Int.eq_ofNat_of_zero_le (by omega:0≤d)
    rw[Int.toNat_natCast,x_rows (by omega) (by omega) h3,bind_s,pick_x (by omega) (by omega) h3,bind_s]
    show X.erasure_Decode_e25 (k:Int) (there l) (((ixs l l.length).take k).map (row (gen k l.length)))=_
    unfold X.erasure_Decode_e25
    have hm:(((ixs l l.length).take k).map (row (gen k l.length))).length=k:=by
     have:(there l).length=(ixs l l.length).length:=by unfold there;rw[List.length_map]
     rw[List.length_map,List.length_take];omega
    have hw:Wide (((ixs l l.length).take k).map (row (gen k l.length))) k:=by
     intro r hr'
     obtain ⟨i,hi,rfl⟩:=List.mem_map.1 hr'
     have hi2:=(List.mem_filter.1 (List.mem_of_mem_take hi)).1
     have:i<l.length:=by simpa using hi2
     exact gen_wide _ (row_mem (by rw[gen_len (by omega)];exact this))
    generalize ((ixs l l.length).take k).map (row (gen k l.length))=m at hm hw
    rw[x_Inverse,bind_s]
    by_cases hq:(invG m).2=0
    ·have h0:(row m 0).length=k:=hw _ (row_mem (by omega))
     have hrm:rightB m=true:=right_if (by omega) (by omega) (by omega:1≤k) (by omega) hw
     have hgx:invG m=match gj (besides m) m.length with|none=>([],12)|some l=>(outs m.length l,0):=invG_sq hrm (by omega)
     simp only[hq,bne_self_eq_false,Bool.false_eq_true,if_false,if_true]
     rw[need_is (by omega),bind_s,slc_to]
     have hwd:Wide ((there l).take k) (row (there l) 0).length:=fun r hr'=>alike_of ha r (List.mem_of_mem_take hr')
     have hww:Wide m m.length:=by rw[hm];exact hw
     cases hg:gj (besides m) m.length with
     |none=>rw[hgx,hg] at hq;simp at hq
     |some l'=>
      obtain ⟨q1,q2⟩:=gj_shape (besides_wide hww) (by rw[besides_len];omega) hg
      rw[besides_len] at q1
      rw[hgx,hg]
      simp only
      have q4:=outs_wide q2
      have q3:(outs m.length l').length=k:=by rw[outs_len];omega
      rw[hm] at q4 q3 ⊢
      have q5:(row (outs k l') 0).length=k:=q4 _ (row_mem (by omega))
      have htk:((there l).take k).length=k:=by rw[List.length_take];omega
      rw[x_reckon (right_if (by omega) (by omega) (by omega:1≤k) (by omega) q4) (by omega) hwd (htr _ (row_mem (by omega))),bind_s]
    ·have:((invG m).2 !=0)=true:=by simpa using hq
     simp only[this,if_true,if_neg hq]
 ·have hE:decG l d=([],1):=if_neg (fun hh=>h ⟨hh.1,hh.2.1,hh.2.2.1,hh.2.2.2.1⟩)
  rw[hE]
  have hc:((((decide (d<(1:Int)))||(decide (d>(l.length:Int))))||(decide ((l.length:Int)>(255:Int))))||(((there l).length:Int)==(0:Int)))=true:=by
   simp only[Bool.or_eq_true,decide_eq_true_eq,beq_iff_eq]
   omega
  rw[hc]
  simp
end Go.AX
namespace Go.AX
open Go.AM
open Gf
def cnt (n:Nat) (p:Nat→Bool):Nat:=((List.range n).filter p).length
theorem cnt_succ (n:Nat) (p:Nat→Bool):cnt (n+1) p=cnt n p+(if p n=true then 1 else 0):=by
 unfold cnt
 rw[List.range_succ,List.filter_append,List.length_append]
 cases h:p n<;>simp[h]
def left (h0:List (List UInt8)) (ps:Nat→Bool):List (List UInt8):=tab h0.length (fun i=>if ps i=true then row h0 i else [])
theorem pres_left {h0:List (List UInt8)} {ps:Nat→Bool} {w i:Nat} (hw:Wide h0 w) (hw1:1≤w) (hi:i<h0.length):pres (left h0 ps) i=ps i:=by
 unfold pres
 have hrow:row (left h0 ps) i=if ps i=true then row h0 i else []:=row_tab hi
 rw[hrow]
 cases h:ps i with
 |true=>
  rw[if_pos rfl,hw _ (row_mem hi)]
  exact decide_eq_true (by omega)
 |false=>rfl
theorem dec_back {l h0:List (List UInt8)} {ps:Nat→Bool} {w n:Nat} (h1:1≤l.length) (hn:h0.length=n) (hln:l.length≤n) (h3:n≤255) (hw:Wide h0 w) (hw1:1≤w) (hlw:Wide l w)
 (hF:∀i c,i<n→c<w→e (row h0 i) c=S l.length (fun k=>gm (e (row (gen l.length n) i) k) (e (row l k) c))):
 decG (left h0 ps) (l.length:Int)=if cnt n ps=0 then ([],1) else if cnt n ps<l.length then ([],10) else (l,0):=by
 have hll:(left h0 ps).length=n:=by rw[←hn];exact tab_len
 have hix:ixs (left h0 ps) n=(List.range n).filter ps:=by
  unfold ixs
  refine List.filter_congr fun i hi=>?_
  rw[List.mem_range] at hi
  exact pres_left hw hw1 (by omega)
 have hmem:∀i∈(List.range n).filter ps,i<n∧ps i=true:=fun i hi=>by simpa using hi
 have hth:there (left h0 ps)=((List.range n).filter ps).map (row h0):=by
  unfold there
  rw[hll,hix]
  refine List.map_congr_left fun i hi=>?_
  obtain ⟨q1,q2⟩:=hmem i hi
  have hrow:row (left h0 ps) i=if ps i=true then row h0 i else []:=row_tab (by omega)
  rw[hrow,if_pos q2]
 have htl:(there (left h0 ps)).length=cnt n ps:=by rw[hth,List.length_map];rfl
 have htw:Wide (there (left h0 ps)) w:=by
  rw[hth]
  intro r hr
  obtain ⟨i,hi,rfl⟩:=List.mem_map.1 hr
  exact hw _ (row_mem (by have:=(hmem i hi).1;omega))
 by_cases c0:cnt n ps=0
 ·rw[if_pos c0]
  exact if_neg (fun hh=>hh.2.2.2.1 (by omega))
 ·rw[if_neg c0]
  have hE:decG (left h0 ps) (l.length:Int)=(if ((there (left h0 ps)).length:Int)<(l.length:Int) then ([],10) else
   let q:=invG (((ixs (left h0 ps) (left h0 ps).length).take ((l.length:Int)).toNat).map (row (gen ((l.length:Int)).toNat (left h0 ps).length)))
   if q.2=0 then (reck q.1 ((there (left h0 ps)).take ((l.length:Int)).toNat) (row (there (left h0 ps)) 0).length,0) else ([],q.2)):=
   if_pos ⟨by omega,by omega,by omega,by omega,alike_if htw⟩
  rw[hE]
  by_cases c1:cnt n ps<l.length
  ·rw[if_pos (by omega),if_pos c1]
  ·rw[if_neg (by omega),if_neg c1,Int.toNat_natCast,hll,hix]
   have hks:(((List.range n).filter ps).take l.length).length=l.length:=by
    rw[List.length_take]
    have:((List.range n).filter ps).length=cnt n ps:=rfl
    omega
   have hkm:∀k∈((List.range n).filter ps).take l.length,k<n:=fun k hk=>(hmem k (List.mem_of_mem_take hk)).1
   have hkd:(((List.range n).filter ps).take l.length).Nodup:=List.Nodup.sublist (List.take_sublist _ _) (List.Nodup.sublist List.filter_sublist List.nodup_range)
   have htk:(there (left h0 ps)).take l.length=(((List.range n).filter ps).take l.length).map (row h0):=by rw[hth,List.map_take]
   have ht0:(row (there (left h0 ps)) 0).length=w:=htw _ (row_mem (by omega))
   rw[htk,ht0]
   generalize ((List.range n).filter ps).take l.length=ks at hks hkm hkd
   have hm:(ks.map (row (gen l.length n))).length=l.length:=by rw[List.length_map,hks]
   have hmw:Wide (ks.map (row (gen l.length n))) l.length:=by
    intro r hr
    obtain ⟨i,hi,rfl⟩:=List.mem_map.1 hr
    exact gen_wide _ (row_mem (by rw[gen_len hln];exact hkm i hi))
   have hrowm:∀{m:List (List UInt8)} {i:Nat},i<l.length→row (ks.map (row m)) i=row m (ks.getD i 0):=fun {m i} hi=>by
    unfold row
    rw[List.getD_eq_getElem?_getD,List.getElem?_map,List.getElem?_eq_getElem (by omega)]
    have:ks.getD i 0=ks[i]'(by omega):=by rw[List.getD_eq_getElem?_getD,List.getElem?_eq_getElem (by omega)];rfl
    rw[this];rfl
   have hmww:Wide (ks.map (row (gen l.length n))) (ks.map (row (gen l.length n))).length:=by rw[hm];exact hmw
   obtain ⟨l',hg⟩:=inv_there hmww fun c hc=>by
    rw[hm] at hc ⊢
    refine gen_inv h1 hln h3 hks hkd hkm fun k hk=>?_
    obtain ⟨t,ht,rfl⟩:=List.getElem_of_mem hk
    have h5:=hc t (by omega)
    rw[hrowm (by omega)] at h5
    have:ks.getD t 0=ks[t]:=by rw[List.getD_eq_getElem?_getD,List.getElem?_eq_getElem ht];rfl
    rw[this] at h5
    exact h5
   have h00:(row (ks.map (row (gen l.length n))) 0).length=l.length:=hmw _ (row_mem (by omega))
   rw[invG_sq (right_if (by omega) (by omega) (by omega:1≤l.length) (by omega) hmw) (by omega),hg]
   simp only[if_true]
   refine congrArg (fun t=>(t,(0:Int))) ?_
   obtain ⟨q1,q2⟩:=gj_shape (besides_wide hmww) (by rw[besides_len];omega) hg
   rw[besides_len] at q1
   have q3:(outs (ks.map (row (gen l.length n))).length l').length=l.length:=by rw[outs_len];omega
   refine rows_ext (by rw[reck_len];exact q3) fun i hi=>?_
   rw[reck_len,q3] at hi
   refine row_ext ?_ fun c hc=>?_
   ·rw[reck_wide _ (row_mem (by rw[reck_len];omega)),hlw _ (row_mem hi)]
   ·rw[reck_wide _ (row_mem (by rw[reck_len];omega))] at hc
    rw[e_reck (by omega) hc,List.length_map,hks]
    rw[S_congr (g:=fun k=>S l.length (fun j=>gm (gm (e (row l' i) (l.length+k)) (e (row (ks.map (row (gen l.length n))) k) j)) (e (row l j) c))) fun k hk=>by
     rw[hrowm hk,hF _ c (hkm _ (getD_mem (by omega))) hc,S_mul,row_outs (by omega),e_drop,hm]
     refine S_congr fun j _=>?_
     rw[hrowm hk,gm_assoc],S_swap]
    refine Eq.trans (S_congr (g:=fun j=>if j=i then e (row l j) c else 0) fun j hj=>?_) (by rw[S_one,if_pos hi])
    have h6:=left_inv hmww hg (i:=i) (j:=j) (by omega) (by omega)
    rw[hm] at h6
    rw[←S_rmul,h6]
    by_cases hij:i=j
    ·rw[if_pos hij,if_pos hij.symm,one_gm]
    ·rw[if_neg hij,if_neg fun q=>hij q.symm,zero_gm]
end Go.AX
namespace Go.AX
open Go.AM
open Gf
theorem nat64 {x y:Nat} (hx:x<9223372036854775808) (hy:y<9223372036854775808):and64 (x:Int) (y:Int)=((x&&&y:Nat):Int)∧xor64 (x:Int) (y:Int)=((x^^^y:Nat):Int):=by
 have e:∀z:Nat,z<9223372036854775808→BitVec.ofInt 64 (z:Int)=BitVec.ofNat 64 z:=fun z _=>by
  exact BitVec.ofInt_natCast ..
 have ha:x&&&y<9223372036854775808:=Nat.and_lt_two_pow (n:=63) x hy
 have hb:x^^^y<9223372036854775808:=Nat.xor_lt_two_pow (n:=63) hx hy
 refine ⟨?_,?_⟩
 ·show IntKind.i64.wrap ((BitVec.ofInt 64 (x:Int)&&&BitVec.ofInt 64 (y:Int)).toNat:Int)=_
  rw[e x hx,e y hy]
  have:(BitVec.ofNat 64 x&&&BitVec.ofNat 64 y).toNat=x&&&y:=by
   rw[BitVec.toNat_and,BitVec.toNat_ofNat,BitVec.toNat_ofNat,Nat.mod_eq_of_lt (by omega),Nat.mod_eq_of_lt (by omega)]
  rw[this]
  exact w64 (by omega) (by omega)
 ·show IntKind.i64.wrap ((BitVec.ofInt 64 (x:Int)^^^BitVec.ofInt 64 (y:Int)).toNat:Int)=_
  rw[e x hx,e y hy]
  have:(BitVec.ofNat 64 x^^^BitVec.ofNat 64 y).toNat=x^^^y:=by
   rw[BitVec.toNat_xor,BitVec.toNat_ofNat,BitVec.toNat_ofNat,Nat.mod_eq_of_lt (by omega),Nat.mod_eq_of_lt (by omega)]
  rw[this]
  exact w64 (by omega) (by omega)
theorem shr64_nat {x k:Nat} (hk:k≤64):shr64 (x:Int) (k:Int)=((x>>>k:Nat):Int):=by
 unfold shr64
 rw[Int.toNat_natCast,Nat.min_eq_left hk,Nat.shiftRight_eq_div_pow]
 have:((2:Int)^k)=((2^k:Nat):Int):=by simp
 rw[this,Int.fdiv_eq_ediv_of_nonneg _ (Int.natCast_nonneg _),←Int.natCast_ediv]
theorem shl64_nat {x k:Nat} (hk:k≤64) (h:x<<<k<9223372036854775808):shl64 (x:Int) (k:Int)=((x<<<k:Nat):Int):=by
 unfold shl64
 rw[Int.toNat_natCast,Nat.min_eq_left hk]
 have:(x:Int)*(2:Int)^k=((x<<<k:Nat):Int):=by rw[Nat.shiftLeft_eq];simp
 rw[this]
 generalize x<<<k=z at h ⊢
 exact w64 (by omega) (by omega)
theorem u64_nat' {k:Nat} (h:k<1000):(u64 (k:Int)).toNat=k:=by
 unfold u64
 rw[UInt64.toNat_ofNat']
 omega
def mulA (a:Nat) (b:UInt8):Nat→Nat
 |0=>0
 |n+1=>mulA a b n^^^(if bit b n then a<<<n else 0)
def redA (x:Nat):Nat→Nat
 |0=>x
 |n+1=>redA x n^^^(if (redA x n).testBit (14-n) then 285<<<(6-n) else 0)
def refMul (a b:UInt8):UInt8:=UInt8.ofNat (redA (mulA a.toNat b 8) 7)
theorem refMul_rows:(p2.all fun b=>all8 fun a=>refMul a b==gm a b)=true:=by decide+kernel
theorem xor4 (a b c d:Nat):(a^^^b)^^^(c^^^d)=(a^^^c)^^^(b^^^d):=by
 rw[Nat.xor_assoc,Nat.xor_assoc,←Nat.xor_assoc b c d,←Nat.xor_assoc c b d,Nat.xor_comm b c]
theorem ite_xor (c d:Bool) (v:Nat):(if (c ^^ d)=true then v else 0)=(if c=true then v else 0)^^^(if d=true then v else 0):=by
 cases c<;>cases d<;>simp
theorem bit_xor (x y:UInt8) (i:Nat):bit (x^^^y) i=(bit x i ^^ bit y i):=by
 unfold bit
 rw[UInt8.shiftRight_xor,low_xor]
theorem mulA_xor (a:Nat) (x y:UInt8):∀n,mulA a (x^^^y) n=mulA a x n^^^mulA a y n
 |0=>by simp[mulA]
 |n+1=>by
  show mulA a (x^^^y) n^^^_=(mulA a x n^^^_)^^^(mulA a y n^^^_)
  rw[mulA_xor a x y n,bit_xor,ite_xor,xor4]
theorem redA_xor (x y:Nat):∀n,redA (x^^^y) n=redA x n^^^redA y n
 |0=>rfl
 |n+1=>by
  show redA (x^^^y) n^^^_=(redA x n^^^_)^^^(redA y n^^^_)
  rw[redA_xor x y n,Nat.testBit_xor,ite_xor,xor4]
theorem ofNat_xor (x y:Nat):UInt8.ofNat (x^^^y)=UInt8.ofNat x^^^UInt8.ofNat y:=by
 rw[←UInt8.toNat_inj,UInt8.toNat_xor,UInt8.toNat_ofNat',UInt8.toNat_ofNat',UInt8.toNat_ofNat']
 exact Nat.xor_mod_two_pow (n:=8)
theorem refMul_gm (a b:UInt8):refMul a b=gm a b:=by
 refine Gf.Add.eq (f:=fun b=>refMul a b) (g:=fun b=>gm a b) (fun x y=>?_) (gm_r a) ?_ b
 ·show refMul a (x^^^y)=refMul a x^^^refMul a y
  unfold refMul
  rw[mulA_xor,redA_xor,ofNat_xor]
 ·have h:=refMul_rows
  rw[List.all_eq_true] at h
  rw[List.all_eq_true]
  intro y hy
  exact all8_ok (h y hy) a
theorem mulA_lt (a b:UInt8):∀n,n≤8→mulA a.toNat b n<2^16
 |0,_=>by simp[mulA]
 |n+1,hn=>by
  refine Nat.xor_lt_two_pow (mulA_lt a b n (by omega)) ?_
  split
  ·rw[Nat.shiftLeft_eq]
   have h1:=a.toNat_lt
   have h2:2^n≤2^7:=Nat.pow_le_pow_right (by omega) (by omega)
   calc a.toNat*2^n≤255*2^7:=Nat.mul_le_mul (by omega) h2
    _<2^16:=by decide
  ·decide
theorem redA_lt (x:Nat) (hx:x<2^16):∀n,redA x n<2^16
 |0=>hx
 |n+1=>by
  refine Nat.xor_lt_two_pow (redA_lt x hx n) ?_
  split
  ·rw[Nat.shiftLeft_eq]
   have h2:2^(6-n)≤2^6:=Nat.pow_le_pow_right (by omega) (by omega)
   calc 285*2^(6-n)≤285*2^6:=Nat.mul_le_mul_left _ h2
    _<2^16:=by decide
  ·decide
theorem low1 (n:Nat):n&&&1=if n.testBit 0 then 1 else 0:=by
 rw[Nat.and_one_is_mod,Nat.testBit_zero]
 rcases Nat.mod_two_eq_zero_or_one n with h|h<;>rw[h]<;>rfl
theorem shr8_i (b:UInt8) {i:Nat} (hi:i<8):shr8 b i=b>>>UInt8.ofNat i:=by
 have h:(List.range 8).all (fun i=>all8 fun b=>shr8 b i==b>>>UInt8.ofNat i)=true:=by decide+kernel
 rw[List.all_eq_true] at h
 simpa using all8_ok (h i (List.mem_range.2 hi)) b
theorem x_refMul (a b:UInt8):X.cartridgeref1_Mul a b=some (gm a b):=by
 unfold X.cartridgeref1_Mul
 have k1:run (X.cartridgeref1_Mul_s7 b a) ((0:Int),(0:Int))=some ((mulA a.toNat b 8:Nat):Int):=by
  refine run_G0 (fun i=>((mulA a.toNat b i:Nat):Int)) (n:=8) (by omega) rfl (fun i hi=>?_) ?_
  ·unfold X.cartridgeref1_Mul_s7
   simp only
   rw[if_pos (by simp only[decide_eq_true_eq];omega),u64_nat' (by omega),shr8_i b hi]
   have hm:=mulA_lt a b i (by omega)
   have hm1:=mulA_lt a b (i+1) (by omega)
   have hs:a.toNat<<<i<2^16:=by
    rw[Nat.shiftLeft_eq]
    have h1:=a.toNat_lt
    have h2:2^i≤2^7:=Nat.pow_le_pow_right (by omega) (by omega)
    calc a.toNat*2^i≤255*2^7:=Nat.mul_le_mul (by omega) h2
     _<2^16:=by decide
   cases hb:bit b i with
   |true=>
    have hb':((b>>>UInt8.ofNat i)&&&1==1)=true:=hb
    rw[if_pos hb',shl64_nat (by omega) (by omega),(nat64 (by omega) (by omega)).2]
    unfold X.cartridgeref1_Mul_j25
    rw[wr_inc (by omega)]
    have:mulA a.toNat b (i+1)=mulA a.toNat b i^^^(a.toNat<<<i):=by show _^^^(if bit b i=true then _ else _)=_;rw[hb];rfl
    rw[this]
   |false=>
    have hb':((b>>>UInt8.ofNat i)&&&1==1)=false:=hb
    rw[hb',if_neg (by simp)]
    unfold X.cartridgeref1_Mul_j25
    rw[wr_inc (by omega)]
    have:mulA a.toNat b (i+1)=mulA a.toNat b i:=by show _^^^(if bit b i=true then _ else _)=_;rw[hb];simp
    rw[this]
  ·unfold X.cartridgeref1_Mul_s7
   simp only
   rw[if_neg (by decide)]
 rw[k1,bind_s]
 unfold X.cartridgeref1_Mul_e7
 have hM:=mulA_lt a b 8 (by omega)
 have hR:=redA_lt _ hM
 have k2:run X.cartridgeref1_Mul_s13 (((mulA a.toNat b 8:Nat):Int),(14:Int))=some ((redA (mulA a.toNat b 8) 7:Nat):Int):=by
  refine run_is _ (fun s=>∃k:Nat,k≤7∧s=(((redA (mulA a.toNat b 8) k:Nat):Int),(14:Int)-k)) (fun s=>(s.2-7).toNat) ⟨0,by omega,rfl⟩ (by show (14-7:Int).toNat≤_;decide) ?_
  rintro s ⟨k,hk,rfl⟩
  unfold X.cartridgeref1_Mul_s13
  simp only
  by_cases h7:k=7
  ·right
   subst h7
   rw[if_neg (by decide)]
  ·left
   rw[if_pos (by simp only[decide_eq_true_eq];omega)]
   have hr:=hR k
   have e1:((14:Int)-k)=((14-k:Nat):Int):=by omega
   have e2:wr (((14-k:Nat):Int)-8)=((6-k:Nat):Int):=by rw[wr_eq (by omega) (by omega)];omega
   have e3:wr (((14-k:Nat):Int)-1)=(14:Int)-((k+1:Nat):Int):=by rw[wr_eq (by omega) (by omega)];omega
   have hx:redA (mulA a.toNat b 8) k>>>(14-k)≤redA (mulA a.toNat b 8) k:=by rw[Nat.shiftRight_eq_div_pow];exact Nat.div_le_self _ _
   rw[e1,u64_nat' (by omega),shr64_nat (by omega),show (1:Int)=((1:Nat):Int) from rfl,(nat64 (by omega) (by omega)).1,low1,Nat.testBit_shiftRight,Nat.add_zero]
   have hs:285<<<(6-k)<2^16:=by
    rw[Nat.shiftLeft_eq]
    have h2:2^(6-k)≤2^6:=Nat.pow_le_pow_right (by omega) (by omega)
    calc 285*2^(6-k)≤285*2^6:=Nat.mul_le_mul_left _ h2
     _<2^16:=by decide
   cases hb:(redA (mulA a.toNat b 8) k).testBit (14-k) with
   |true=>
    rw[if_pos rfl,if_pos (by decide),e2,u64_nat' (by omega),show (285:Int)=((285:Nat):Int) from rfl,shl64_nat (by omega) (by omega),(nat64 (by omega) (by omega)).2]
    unfold X.cartridgeref1_Mul_j20
    have:redA (mulA a.toNat b 8) (k+1)=redA (mulA a.toNat b 8) k^^^(285<<<(6-k)):=by show _^^^(if _ then _ else _)=_;rw[hb];rfl
    exact ⟨_,by rw[e3,←this],⟨k+1,by omega,rfl⟩,by simp only;omega⟩
   |false=>
    rw[if_neg (by simp)]
    unfold X.cartridgeref1_Mul_j20
    have:redA (mulA a.toNat b 8) (k+1)=redA (mulA a.toNat b 8) k:=by show _^^^(if _ then _ else _)=_;rw[hb];simp
    exact ⟨_,by rw[e3,this],⟨k+1,by omega,rfl⟩,by simp only;omega⟩
 show (run X.cartridgeref1_Mul_s13 (((mulA a.toNat b 8:Nat):Int),(14:Int))).bind _=_
 rw[k2,bind_s]
 show X.cartridgeref1_Mul_e13 _=_
 unfold X.cartridgeref1_Mul_e13
 rw[←refMul_gm]
 unfold refMul u8
 have h1:=hR 7
 refine congrArg some ?_
 rw[←UInt8.toNat_inj,UInt8.toNat_ofNat',UInt8.toNat_ofNat']
 omega
end Go.AX
namespace Go.AX
open Go.AM
open Gf
theorem x_refInv (a:UInt8):X.cartridgeref1_Inv a=some (inv a):=by
 unfold X.cartridgeref1_Inv
 have key:run (X.cartridgeref1_Inv_s6 a) ((1:UInt8),(0:Int))=some (pw a 254):=by
  refine run_G0 (fun i=>pw a i) (n:=254) (by omega) rfl (fun i hi=>?_) ?_
  ·unfold X.cartridgeref1_Inv_s6
   simp only
   rw[if_pos (by simp only[decide_eq_true_eq];omega),x_refMul,bind_s,wr_inc (by omega)];rfl
  ·unfold X.cartridgeref1_Inv_s6
   simp only
   rw[if_neg (by decide)]
 rw[key,bind_s,inv_pw];rfl
end Go.AX
namespace Go.AX
open Go.AM
open Gf
theorem x_refCauchy (data parity:Int) (hd: -9223372036854775808≤data∧data≤9223372036854775807) (hp: -9223372036854775808≤parity∧parity≤9223372036854775807):X.cartridgeref1_Cauchy data parity=some (cauG data parity):=by
 unfold X.cartridgeref1_Cauchy cauG
 by_cases h:1≤data∧1≤parity∧data+parity≤255
 ·rw[if_pos h,if_neg (by
   rw[wr_eq (by omega) (by omega)]
   simp only[Bool.or_eq_true,decide_eq_true_eq];omega)]
  obtain ⟨n,rfl⟩:=Int.eq_ofNat_of_zero_le (by omega:0≤data)
  obtain ⟨p,rfl⟩:=Int.eq_ofNat_of_zero_le (by omega:0≤parity)
  have key:run (X.cartridgeref1_Cauchy_s11 (p:Int) (n:Int)) (([]:List (List UInt8)),(0:Int))=some (cau n p):=by
   refine run_G0 (fun i=>tab i (fun i=>tab n (fun k=>inv (bt i^^^bt (p+k))))) (n:=p) (by omega) rfl (fun i hi=>?_) ?_
   ·unfold X.cartridgeref1_Cauchy_s11
    simp only
    have inner:run (X.cartridgeref1_Cauchy_s25 (n:Int) (i:Int) (p:Int)) (([]:List UInt8),(0:Int))=some (tab n (fun k=>inv (bt i^^^bt (p+k)))):=by
     refine run_G0 (fun c=>tab c (fun k=>inv (bt i^^^bt (p+k)))) (n:=n) (by omega) rfl (fun c hc=>?_) ?_
     ·unfold X.cartridgeref1_Cauchy_s25
      simp only
      rw[if_pos (by simpa using hc),wr_add (by omega),u8_bt,u8_bt,x_refInv,bind_s,need_is (by simp;omega),bind_s,wr_inc (by omega),tab_succ]
     ·unfold X.cartridgeref1_Cauchy_s25
      simp only
      rw[if_neg (by simp)]
    rw[if_pos (by simpa using hi),inner,bind_s]
    unfold X.cartridgeref1_Cauchy_e25
    rw[need_is (by simp;omega),bind_s,wr_inc (by omega),tab_succ]
   ·unfold X.cartridgeref1_Cauchy_s11
    simp only
    rw[if_neg (by simp)];rfl
  show (run (X.cartridgeref1_Cauchy_s11 (p:Int) (n:Int)) (([]:List (List UInt8)),(0:Int))).bind _=_
  rw[key];rfl
 ·rw[if_neg h]
  split
  ·rfl
  ·rename_i hc
   exfalso
   simp only[Bool.or_eq_true,decide_eq_true_eq,not_or] at hc
   obtain ⟨⟨⟨⟨c1,c2⟩,c3⟩,c4⟩,c5⟩:=hc
   rw[wr_eq (by omega) (by omega)] at c5
   omega
end Go.AX
namespace Go.AX
open Go.AM
open Gf
theorem x_refEncRow {l:List (List UInt8)} {k i w:Nat} (hw:Wide l w) (hw2:w≤1000000) (hl:l.length≤1000000) (hi:i<k):
 run (X.cartridgeref1_Encode_s37 l (cau l.length k,0) (i:Int)) (List.replicate w (0:UInt8),(0:Int))=some (tab w (fun c=>S l.length (fun j=>gm (e (row (cau l.length k) i) j) (e (row l j) c)))):=by
 have hci:(row (cau l.length k) i).length=l.length:=cau_wide _ (row_mem (by rw[cau_len];exact hi))
 refine run_G0 (fun t=>tab w (fun c=>if c<t then S l.length (fun j=>gm (e (row (cau l.length k) i) j) (e (row l j) c)) else 0)) (n:=w) (by omega) (by rw[tab_rep];exact tab_congr fun c _=>by rw[if_neg (by omega)]) (fun t ht=>?_) ?_
 ·unfold X.cartridgeref1_Encode_s37
  simp only
  rw[if_pos (by simpa using ht)]
  have inner:run (X.cartridgeref1_Encode_s50 l (t:Int) (cau l.length k,0) (i:Int)) (tab w (fun c=>if c<t then S l.length (fun j=>gm (e (row (cau l.length k) i) j) (e (row l j) c)) else 0),(0:Int))=
   some (tab w (fun c=>if c<t+1 then S l.length (fun j=>gm (e (row (cau l.length k) i) j) (e (row l j) c)) else 0)):=by
   refine run_G0 (fun q=>tab w (fun c=>if c<t then S l.length (fun j=>gm (e (row (cau l.length k) i) j) (e (row l j) c)) else if c=t then S q (fun j=>gm (e (row (cau l.length k) i) j) (e (row l j) c)) else 0)) (n:=l.length) (by omega)
    (tab_congr fun c _=>?_) (fun q hq=>?_) ?_
   ·by_cases h:c<t
    ·rw[if_pos h,if_pos h]
    ·rw[if_neg h,if_neg h];split<;>rfl
   ·unfold X.cartridgeref1_Encode_s50
    simp only
    rw[if_pos (by simpa using hq),getI_tab ht,bind_s,getI_row (by rw[cau_len];exact hi),bind_s,getI_e (by omega),bind_s,getI_row hq,bind_s,getI_e (by rw[hw _ (row_mem hq)];exact ht),bind_s,x_refMul,bind_s,bind_s,wr_inc (by omega),Int.toNat_natCast,tab_set]
    refine congrArg (fun t=>some (Sum.inl (t,_))) (tab_congr fun c _=>?_)
    by_cases h:c=t
    ·subst h
     simp only[Nat.lt_irrefl,if_true,if_false];rfl
    ·rw[if_neg h,if_neg h,if_neg h]
   ·unfold X.cartridgeref1_Encode_s50
    simp only
    rw[if_neg (by simp)]
    refine congrArg (fun t=>some (Sum.inr t)) (tab_congr fun c _=>?_)
    by_cases h:c<t
    ·rw[if_pos h,if_pos (by omega)]
    ·rw[if_neg h]
     by_cases h2:c=t
     ·rw[if_pos h2,if_pos (by omega)]
     ·rw[if_neg h2,if_neg (by omega)]
  rw[inner,bind_s]
  show X.cartridgeref1_Encode_e50 (t:Int) _=_
  unfold X.cartridgeref1_Encode_e50
  rw[wr_inc (by omega)]
 ·unfold X.cartridgeref1_Encode_s37
  simp only
  rw[if_neg (by simp)]
  exact congrArg (fun t=>some (Sum.inr t)) (tab_congr fun c hc=>by rw[if_pos hc])
theorem x_refEncode (l:List (List UInt8)) (p:Int) (hl:∀r∈l,r.length≤1000000) (hll:l.length≤1000000) (hp: -9223372036854775808≤p∧p≤9223372036854775807):X.cartridgeref1_Encode l p=some (encG l p):=by
 unfold X.cartridgeref1_Encode
 by_cases h:1≤l.length∧0≤p∧l.length+p≤255
 ·obtain ⟨h1,h2,h3⟩:=h
  rw[if_neg (by
   rw[wr_eq (by omega) (by omega)]
   simp only[Bool.or_eq_true,decide_eq_true_eq];omega)]
  have key:run (X.cartridgeref1_Encode_s9 l) ((1:Nat):Int)=some (if alikeB l=true then .inl () else .inr ([],1)):=by
   refine run_seE (n:=l.length) (fun n=>∀j,j<n→(row l j).length=(row l 0).length) h1 (by omega) (fun j hj=>by rw[show j=0 by omega]) (fun i _ hi hI=>?_) (fun hI=>?_)
   ·unfold X.cartridgeref1_Encode_s9
    simp only
    rw[if_pos (by simpa using hi),getI_row hi,bind_s,show getI l (0:Int)=some (row l 0) from getI_row (j:=0) (by omega),bind_s]
    by_cases hc:(row l i).length=(row l 0).length
    ·left
     rw[if_neg (by simp[hc]),wr_inc (by omega)]
     refine ⟨rfl,fun j hj=>?_⟩
     rcases Nat.lt_succ_iff_lt_or_eq.1 hj with h|rfl
     ·exact hI j h
     ·exact hc
    ·right
     have:¬alikeB l=true:=fun ha=>hc (alike_of ha _ (row_mem hi))
     rw[if_pos (by simp only[bne_iff_ne,ne_eq];omega),if_neg this]
   ·unfold X.cartridgeref1_Encode_s9
    simp only
    have:alikeB l=true:=alike_if (w:=(row l 0).length) fun r hr=>by
     obtain ⟨j,hj,rfl⟩:=mem_row hr
     exact hI j hj
    rw[if_neg (by simp),if_pos this]
  rw[show (1:Int)=((1:Nat):Int) from rfl,key,bind_s]
  by_cases ha:alikeB l=true
  ·have hE:encG l p=(if p=0 then ([],0) else (reck (cau l.length p.toNat) l (row l 0).length,0)):=if_pos ⟨h1,h2,h3,ha⟩
   rw[if_pos ha,hE]
   show X.cartridgeref1_Encode_e9 p l=_
   unfold X.cartridgeref1_Encode_e9
   by_cases hp0:p=0
   ·rw[if_pos hp0,if_pos (by simpa using hp0)]
   ·obtain ⟨k,rfl⟩:=Int.eq_ofNat_of_zero_le h2
    rw[if_neg hp0,if_neg (by simpa using hp0),x_refCauchy _ _ (by omega) (by omega),bind_s]
    have hC:cauG (l.length:Int) (k:Int)=(cau l.length k,0):=by
     unfold cauG
     rw[if_pos ⟨by omega,by omega,by omega⟩,Int.toNat_natCast,Int.toNat_natCast]
    rw[hC,Int.toNat_natCast]
    have hw:=alike_of ha
    have h0:=hl _ (row_mem (show 0<l.length by omega))
    have key2:run (X.cartridgeref1_Encode_s20 (k:Int) l (cau l.length k,0)) (([]:List (List UInt8)),(0:Int))=some (reck (cau l.length k) l (row l 0).length):=by
     refine run_G0 (fun i=>tab i (fun i=>tab (row l 0).length (fun c=>S l.length (fun j=>gm (e (row (cau l.length k) i) j) (e (row l j) c))))) (n:=k) (by omega) rfl (fun i hi=>?_) ?_
     ·unfold X.cartridgeref1_Encode_s20
      simp only
      rw[if_pos (by simpa using hi),show getI l (0:Int)=some (row l 0) from getI_row (j:=0) (by omega),bind_s,need_is (by omega),bind_s,Int.toNat_natCast,x_refEncRow hw h0 hll hi,bind_s]
      show X.cartridgeref1_Encode_e37 _ (i:Int) _=_
      unfold X.cartridgeref1_Encode_e37
      rw[need_is (by simp;omega),bind_s,wr_inc (by omega),tab_succ]
     ·unfold X.cartridgeref1_Encode_s20
      simp only
      rw[if_neg (by simp)]
      refine congrArg (fun t=>some (Sum.inr t)) ?_
      unfold reck
      rw[cau_len]
    rw[key2];rfl
  ·have hE:encG l p=([],1):=if_neg (fun hh=>ha hh.2.2.2)
   rw[if_neg ha,hE]
 ·have hE:encG l p=([],1):=if_neg (fun hh=>h ⟨hh.1,hh.2.1,hh.2.2.1⟩)
  rw[hE,if_pos (by
   simp only[Bool.or_eq_true,decide_eq_true_eq]
   by_cases h5:1≤l.length∧0≤p∧p≤255
   ·rw[wr_eq (by omega) (by omega)];omega
   ·left;omega)]
end Go.AX
namespace Go.AX
open Go.AM
open Gf
end Go.AX
namespace Go.AX
end Go.AX
namespace Go.AX
open Go.AM
set_option linter.unusedSimpArgs false
theorem bd_s {α β:Type} (a:α) (f:α→Option β):(some a).bind f=f a:=rfl
theorem slc_nn {α:Type} (xs:List α) (a b:Nat):slc xs (a:Int) (b:Int)=(xs.drop a).take (b-a):=by
 unfold slc
 simp
theorem slc_0n {α:Type} (xs:List α) (b:Nat):slc xs (0:Int) (b:Int)=xs.take b:=by
 have:=slc_nn xs 0 b
 simpa using this
end Go.AX
namespace Go.AX
open Go.AM
set_option linter.unusedSimpArgs false
def w4 (n:Nat):List UInt8:=[UInt8.ofNat (n/16777216),UInt8.ofNat (n/65536),UInt8.ofNat (n/256),UInt8.ofNat n]
def beN (l:List UInt8):Nat:=l.foldl (fun n c=>n*256+c.toNat) 0
@[simp] theorem w4_len (n:Nat):(w4 n).length=4:=rfl
theorem be_w4 {n:Nat} (h:n<4294967296):beN (w4 n)=n:=by
 simp only[w4,beN,List.foldl_cons,List.foldl_nil,UInt8.toNat_ofNat']
 omega
theorem four {l:List UInt8} (h:l.length=4):∃a b c d,l=[a,b,c,d]:=by
 match l,h with
 |[a,b,c,d],_=>exact ⟨a,b,c,d,rfl⟩
theorem w4_be {l:List UInt8} (h:l.length=4):w4 (beN l)=l:=by
 obtain ⟨a,b,c,d,rfl⟩:=four h
 have ha:=a.toNat_lt
 have hb:=b.toNat_lt
 have hc:=c.toNat_lt
 have hd:=d.toNat_lt
 have e:beN [a,b,c,d]=((a.toNat*256+b.toNat)*256+c.toNat)*256+d.toNat:=by simp[beN]
 have o:∀(x:UInt8) (m:Nat),m%256=x.toNat→UInt8.ofNat m=x:=fun x m hm=>by
  apply UInt8.toNat_inj.1
  rw[UInt8.toNat_ofNat',←hm]
 rw[e]
 unfold w4
 rw[o a _ (by omega),o b _ (by omega),o c _ (by omega),o d _ (by omega)]
theorem be_succ {l:List UInt8} {i:Nat} (h:i<l.length):beN (l.take (i+1))=beN (l.take i)*256+(l[i]).toNat:=by
 rw[List.take_succ_eq_append_getElem h]
 unfold beN
 rw[List.foldl_append];rfl
theorem be_pow:∀(i:Nat) (l:List UInt8),i≤l.length→beN (l.take i)<256^i
 |0,l,_=>by simp[beN]
 |i+1,l,h=>by
  rw[be_succ (by omega),Nat.pow_succ]
  have h1:=be_pow i l (by omega)
  have h2:=(l[i]'(by omega)).toNat_lt
  have h3:(beN (l.take i)+1)*256≤256^i*256:=Nat.mul_le_mul_right _ h1
  omega
theorem or_add {n c:Nat} (h:c<256):n*256|||c=n*256+c:=by
 have:=Nat.shiftLeft_add_eq_or_of_lt (i:=8) (b:=c) (by omega) n
 rw[Nat.shiftLeft_eq] at this
 exact this.symm
def tkA (n:Nat):Option (List UInt8)→List UInt8×Option (List UInt8)
 |none=>([],none)
 |some b=>if n≤b.length then (b.take n,some (b.drop n)) else ([],none)
theorem tkA_none (n:Nat):tkA n none=([],none):=rfl
theorem tkA_some (n:Nat) (b:List UInt8):tkA n (some b)=if n≤b.length then (b.take n,some (b.drop n)) else ([],none):=rfl
def byA (s:Option (List UInt8)):UInt8×Option (List UInt8):=((tkA 1 s).1.headD 0,(tkA 1 s).2)
def inA (s:Option (List UInt8)):Int×Option (List UInt8):=(((beN (tkA 4 s).1:Nat):Int),(tkA 4 s).2)
theorem tk_len (n:Nat) (s:Option (List UInt8)):(tkA n s).1.length=0∨(tkA n s).1.length=n:=by
 cases s with
 |none=>exact .inl rfl
 |some b=>
  rw[tkA_some]
  by_cases h:n≤b.length
  ·rw[if_pos h];right;simp;omega
  ·rw[if_neg h];exact .inl rfl
theorem tk_app {a X:List UInt8}:tkA a.length (some (a++X))=(a,some X):=by
 rw[tkA_some,if_pos (by simp)]
 simp
theorem by_app {c:UInt8} {X:List UInt8}:byA (some (c::X))=(c,some X):=by
 have:tkA 1 (some (c::X))=([c],some X):=tk_app (a:=[c]) (X:=X)
 unfold byA
 rw[this];rfl
theorem in_app {n:Nat} {X:List UInt8} (h:n<4294967296):inA (some (w4 n++X))=((n:Int),some X):=by
 have:tkA 4 (some (w4 n++X))=(w4 n,some X):=tk_app (a:=w4 n) (X:=X)
 unfold inA
 rw[this,be_w4 h]
end Go.AX
namespace Go.AX
open Go.AM
set_option linter.unusedSimpArgs false
def conC:Option (List UInt8)→List UInt8×Bool
 |none=>([],true)
 |some b=>(b,false)
theorem c_take (n:Nat) (s:Option (List UInt8)):X.code_Reader_take (n:Int) (conC s).1 (conC s).2=some ((tkA n s).1,conC (tkA n s).2):=by
 cases s with
 |none=>rfl
 |some b=>
  show X.code_Reader_take (n:Int) b false=_
  unfold X.code_Reader_take
  rw[if_neg (by simp)]
  by_cases h:n≤b.length
  ·rw[if_neg (by simp;omega),need_is (by omega),bd_s,need_is (by omega),bd_s,tkA_some,if_pos h]
   have h1:slc b (0:Int) (n:Int)=b.take n:=by simp[slc]
   have h2:slc b (n:Int) (b.length:Int)=b.drop n:=by
    unfold slc
    rw[Int.toNat_natCast,List.take_of_length_le (by simp)]
   rw[h1,h2]
   rfl
  ·rw[if_pos (by simp;omega),tkA_some,if_neg h]
   rfl
theorem c_byte (s:Option (List UInt8)):X.code_Reader_Byte (conC s).1 (conC s).2=some ((byA s).1,conC (byA s).2):=by
 unfold X.code_Reader_Byte
 have:=c_take 1 s
 rw[show (1:Int)=((1:Nat):Int) from rfl,this,bd_s]
 unfold byA
 cases h:(tkA 1 s).1 with
 |nil=>rfl
 |cons c l=>
  rw[if_neg (by simp;omega)]
  rfl
theorem c_int (s:Option (List UInt8)):X.code_Reader_Int (conC s).1 (conC s).2=some ((inA s).1,conC (inA s).2):=by
 unfold X.code_Reader_Int
 have:=c_take 4 s
 rw[show (4:Int)=((4:Nat):Int) from rfl,this,bd_s]
 have hl:(tkA 4 s).1.length≤4:=by rcases tk_len 4 s with h|h<;>omega
 generalize hx:(tkA 4 s).1=x at hl
 obtain ⟨n,h1,h2⟩:=run_ix0 (f:=X.code_Reader_Int_s10 (x,conC (tkA 4 s).2)) (s0:=(0:UInt32)) (n:=x.length) (fun i n=>n.toNat=beN (x.take i)) (fun n=>n.toNat=beN x) (by omega) rfl
  (fun i n hi hI=>by
    left
    unfold X.code_Reader_Int_s10
    simp only
    rw[if_pos (by simpa using hi),getI_nat hi,bd_s,wr_succ (by omega)]
    refine ⟨_,rfl,?_⟩
    have hp:=be_pow i x (by omega)
    have hi3:i≤3:=by omega
    have hq:256^i≤256^3:=Nat.pow_le_pow_right (by omega) hi3
    have hc:=(x[i]).toNat_lt
    rw[be_succ hi,UInt32.toNat_or]
    have e1:(shl32 n 8).toNat=beN (x.take i)*256:=by
     unfold shl32
     rw[UInt32.toNat_ofNat',hI]
     omega
    have e2:(u32 ((x[i]).toNat:Int)).toNat=(x[i]).toNat:=by
     unfold u32
     rw[UInt32.toNat_ofNat']
     omega
    rw[e1,e2,or_add hc])
  (fun n hI=>by
    unfold X.code_Reader_Int_s10
    simp only
    rw[if_neg (by simp)]
    exact ⟨_,rfl,by simpa using hI⟩)
 rw[h1,bd_s]
 unfold X.code_Reader_Int_e10 inA
 rw[hx]
 simp only[h2]
theorem c_new (b:List UInt8) (h:b.length≤100000):X.code_NewReader b=some (conC (some b)):=by
 unfold X.code_NewReader X.slices_Clone_Lbyte_byte
 rw[nilU_same (r:=b) (fun e=>by subst e;rfl) (by simp only[Bool.false_eq_true,if_false];rw[need_is (by omega),bd_s]),bd_s]
 rfl
end Go.AX
namespace Go.AX
open Go.AM
set_option linter.unusedSimpArgs false
theorem optG_b (g a:Bool):optG g (some a)=some (g&&a):=by cases g<;>rfl
theorem u8_m (m:Nat):u8 (m:Int)=UInt8.ofNat m:=by
 apply UInt8.toNat_inj.1
 unfold u8
 rw[UInt8.toNat_ofNat',UInt8.toNat_ofNat']
 omega
theorem c_wint {n:Int} {b:List UInt8} (h0:0≤n) (h1:n<4294967296) (hb:b.length≤100000):X.code_Writer_Int n b=some (b++w4 n.toNat):=by
 unfold X.code_Writer_Int
 rw[need_is (by simp only[List.length_cons,List.length_nil];omega),bd_s]
 have e:(u32 n).toNat=n.toNat:=by
  unfold u32
  rw[UInt32.toNat_ofNat']
  omega
 have s:∀k,(shr32 (u32 n) k).toNat=n.toNat/2^k:=fun k=>by
  unfold shr32
  rw[UInt32.toNat_ofNat',e]
  exact Nat.mod_eq_of_lt (Nat.lt_of_le_of_lt (Nat.div_le_self _ _) (by omega))
 rw[s,s,s,e]
 simp only[u8_m]
 rfl
theorem c_wbyte {c:UInt8} {b:List UInt8} (hb:b.length≤100000):X.code_Writer_Byte c b=some (b++[c]):=by
 unfold X.code_Writer_Byte
 rw[need_is (by simp only[List.length_cons,List.length_nil];omega),bd_s]
theorem c_bytes {b:List UInt8} (hb:b.length≤100000):X.code_Writer_Bytes b=some b:=by
 unfold X.code_Writer_Bytes X.slices_Clone_Lbyte_byte_own
 rw[nilU_same (r:=b) (fun e=>by subst e;rfl) (by simp only[Bool.false_eq_true,if_false];rw[need_is (by omega),bd_s]),bd_s]
theorem x_equal {a b:List UInt8} (ha:a.length≤1000000):X.slices_Equal_Lbyte_byte a b=some (a==b):=by
 unfold X.slices_Equal_Lbyte_byte
 by_cases hl:a.length=b.length
 ·rw[if_neg (by simp[hl])]
  obtain ⟨o,h1,h2⟩:=run_se (f:=X.slices_Equal_Lbyte_byte_s9 a b) (a:=0) (n:=a.length) (fun o=>(o= .inl ()∧a=b)∨(o= .inr false∧a≠b)) (fun i=>a.take i=b.take i) (Nat.zero_le _) (by omega) (by simp)
   (fun i _ hi hI=>by
     unfold X.slices_Equal_Lbyte_byte_s9
     simp only
     rw[if_pos (by simpa using hi),getI_nat hi,bd_s,getI_nat (by omega),bd_s]
     by_cases e:a[i]=b[i]'(by omega)
     ·left
      rw[if_neg (by simp[e]),wr_succ (by omega)]
      exact ⟨rfl,by rw[List.take_succ_eq_append_getElem hi,List.take_succ_eq_append_getElem (by omega),hI,e]⟩
     ·right
      rw[if_pos (by simp[e])]
      exact ⟨_,rfl,.inr ⟨rfl,fun h=>e (by subst h;rfl)⟩⟩)
   (fun hI=>by
     unfold X.slices_Equal_Lbyte_byte_s9
     simp only
     rw[if_neg (by simp)]
     refine ⟨_,rfl,.inl ⟨rfl,?_⟩⟩
     rw[List.take_length,hl,List.take_length] at hI
     exact hI)
  have h1':run (X.slices_Equal_Lbyte_byte_s9 a b) (0:Int)=some o:=h1
  rw[h1',bd_s]
  rcases h2 with ⟨rfl,rfl⟩|⟨rfl,h3⟩
  ·simp only[beq_self_eq_true];rfl
  ·simp only[beq_eq_false_iff_ne.2 h3]
 ·rw[if_pos (by simp;omega),beq_eq_false_iff_ne.2 (fun e=>hl (by rw[e]))]
end Go.AX
namespace Go.AX
open Go.AM
set_option linter.unusedSimpArgs false
def goodL (L:List Int):Prop:=(∀x∈L,1≤x∧x≤2147483647)∧L.Nodup
instance (L:List Int):Decidable (goodL L):=by unfold goodL;infer_instance
def RSl (s:Seal_api):Prop:=(1≤s.Number∧s.Number≤1073741824)∧(1≤s.Data∧s.Data≤14)∧(1≤s.Parity∧s.Parity≤14-s.Data)∧(0≤s.Index∧s.Index≤s.Data+s.Parity-1)∧(s.Labels.length:Int)=s.Data+s.Parity∧goodL s.Labels
instance (s:Seal_api):Decidable (RSl s):=by unfold RSl;infer_instance
theorem good_succ {L:List Int} {i:Nat} (hi:i<L.length) (h:goodL (L.take i)) (h1:1≤L[i]∧L[i]≤2147483647) (h2:L[i]∉L.take i):goodL (L.take (i+1)):=by
 rw[List.take_succ_eq_append_getElem hi]
 refine ⟨fun x hx=>?_,?_⟩
 ·rcases List.mem_append.1 hx with hx|hx
  ·exact h.1 x hx
  ·simp at hx;subst hx;exact h1
 ·rw[List.nodup_append]
  refine ⟨h.2,by simp,fun a ha b hb e=>?_⟩
  simp at hb
  subst hb;subst e
  exact h2 ha
theorem bad_elem {L:List Int} {i:Nat} (hi:i<L.length) (h:¬(1≤L[i]∧L[i]≤2147483647)):¬goodL L:=fun hg=>h (hg.1 _ (List.getElem_mem hi))
theorem bad_twice {L:List Int} {i:Nat} (hi:i<L.length) (h:L[i]∈L.take i):¬goodL L:=fun hg=>by
 have h1:(L.take (i+1)).Nodup:=List.Nodup.sublist (List.take_sublist _ _) hg.2
 rw[List.take_succ_eq_append_getElem hi,List.nodup_append] at h1
 exact h1.2.2 _ h _ (by simp) rfl
theorem contains_is {L:List Int} {v:Int} (hL:L.length≤100000):X.slices_Contains_Lint_int L v=some (decide (v∈L)):=by
 unfold X.slices_Contains_Lint_int X.slices_Index_Lint_int
 obtain ⟨o,h1,h2⟩:=run_se (f:=X.slices_Index_Lint_int_s6 L v) (a:=0) (n:=L.length) (fun o=>(o= .inl ()∧v∉L)∨(∃k:Nat,o= .inr (k:Int)∧v∈L)) (fun i=>v∉L.take i) (Nat.zero_le _) (by omega) (by simp)
  (fun i _ hi hI=>by
    unfold X.slices_Index_Lint_int_s6
    simp only
    rw[if_pos (by simpa using hi),getI_nat hi,bd_s]
    by_cases e:v=L[i]
    ·right
     rw[if_pos (by simp[e])]
     exact ⟨_,rfl,.inr ⟨i,rfl,by rw[e];exact List.getElem_mem hi⟩⟩
    ·left
     rw[if_neg (by simp[e]),wr_succ (by omega)]
     refine ⟨rfl,?_⟩
     rw[List.take_succ_eq_append_getElem hi,List.mem_append]
     rintro (h|h)
     ·exact hI h
     ·simp at h;exact e h)
  (fun hI=>by
    unfold X.slices_Index_Lint_int_s6
    simp only
    rw[if_neg (by simp)]
    exact ⟨_,rfl,.inl ⟨rfl,by simpa using hI⟩⟩)
 have h1':run (X.slices_Index_Lint_int_s6 L v) (0:Int)=some o:=h1
 rw[h1',bd_s]
 rcases h2 with ⟨rfl,h3⟩|⟨k,rfl,h3⟩
 ·rw[decide_eq_false h3];rfl
 ·rw[decide_eq_true h3]
  show some (decide ((k:Int)≥0))=_
  rw[decide_eq_true (by omega)]
theorem x_sright (s:Seal_api):X.record_RightSeal s=some (decide (RSl s)):=by
 unfold X.record_RightSeal
 simp only[X.record_within,optG_b,bd_s]
 by_cases h1:(1≤s.Number∧s.Number≤1073741824)∧(1≤s.Data∧s.Data≤14)∧(1≤s.Parity∧s.Parity≤14-s.Data)
 ·obtain ⟨⟨a1,a2⟩,⟨a3,a4⟩,a5,a6⟩:=h1
  have w1:wr ((14:Int)-s.Data)=14-s.Data:=wr_eq (by omega) (by omega)
  have w2:wr (s.Data+s.Parity)=s.Data+s.Parity:=wr_eq (by omega) (by omega)
  have w3:wr (s.Data+s.Parity-(1:Int))=s.Data+s.Parity-1:=wr_eq (by omega) (by omega)
  rw[w1,w2,w3,if_neg (by simp[a1,a2,a3,a4,a5,a6])]
  by_cases h2:(0≤s.Index∧s.Index≤s.Data+s.Parity-1)∧(s.Labels.length:Int)=s.Data+s.Parity
  ·obtain ⟨⟨b1,b2⟩,b3⟩:=h2
   rw[if_neg (by simp[b1,b2,b3])]
   have hlen:s.Labels.length≤14:=by omega
   obtain ⟨o,h1,h2⟩:=run_se (f:=X.record_RightSeal_s16 s) (a:=0) (n:=s.Labels.length) (fun o=>(o= .inl ()∧goodL s.Labels)∨(o= .inr false∧¬goodL s.Labels)) (fun i=>goodL (s.Labels.take i)) (Nat.zero_le _) (by omega) (by simp[goodL])
    (fun i _ hi hI=>by
      unfold X.record_RightSeal_s16 X.record_within
      simp only
      rw[if_pos (by simpa using hi),getI_nat hi,bd_s,bd_s]
      by_cases hr:1≤s.Labels[i]∧s.Labels[i]≤2147483647
      ·have hd:(decide (s.Labels[i]≥(1:Int))&&decide (s.Labels[i]≤(2147483647:Int)))=true:=by simp[hr.1,hr.2]
       rw[hd,Bool.not_true,Bool.not_false,optG_true,need_is (by omega),bd_s,optG_true]
       have hs:slc s.Labels (0:Int) (i:Int)=s.Labels.take i:=by simp[slc]
       rw[hs,contains_is (by simp;omega),bd_s]
       by_cases hm:s.Labels[i]∈s.Labels.take i
       ·right
        rw[decide_eq_true hm,if_pos (by simp)]
        exact ⟨_,rfl,.inr ⟨rfl,bad_twice hi hm⟩⟩
       ·left
        rw[decide_eq_false hm,if_neg (by simp),wr_succ (by omega)]
        exact ⟨rfl,good_succ hi hI hr hm⟩
      ·right
       have hd:(decide (s.Labels[i]≥(1:Int))&&decide (s.Labels[i]≤(2147483647:Int)))=false:=by simp;omega
       rw[hd,Bool.not_false,Bool.not_true,optG_false,bd_s,optG_false,bd_s,if_pos (by simp)]
       exact ⟨_,rfl,.inr ⟨rfl,bad_elem hi hr⟩⟩)
    (fun hI=>by
      unfold X.record_RightSeal_s16
      simp only
      rw[if_neg (by simp)]
      exact ⟨_,rfl,.inl ⟨rfl,by simpa using hI⟩⟩)
   have h1':run (X.record_RightSeal_s16 s) (0:Int)=some o:=h1
   rw[h1',bd_s]
   rcases h2 with ⟨rfl,h3⟩|⟨rfl,h3⟩
   ·rw[decide_eq_true (show RSl s from ⟨⟨a1,a2⟩,⟨a3,a4⟩,⟨a5,a6⟩,⟨b1,b2⟩,b3,h3⟩)];rfl
   ·rw[decide_eq_false (show ¬RSl s from fun hR=>h3 hR.2.2.2.2.2)]
  ·rw[decide_eq_false (show ¬RSl s from fun hR=>h2 ⟨hR.2.2.2.1,hR.2.2.2.2.1⟩),if_pos ?_]
   simp
   omega
 ·rw[decide_eq_false (show ¬RSl s from fun hR=>h1 ⟨hR.1,hR.2.1,hR.2.2.1⟩),if_pos ?_]
  by_cases hD:1≤s.Data∧s.Data≤14
  ·rw[wr_eq (by omega) (by omega)]
   simp
   omega
  ·simp
   omega
def flatL (L:List Int):List UInt8:=L.flatMap fun n=>w4 n.toNat
theorem flatL_len (L:List Int):(flatL L).length=4*L.length:=by
 unfold flatL
 rw[List.length_flatMap]
 simp only[w4_len]
 rw[List.map_const',List.sum_replicate_nat]
 omega
def encS (s:Seal_api):List UInt8:=w4 s.Number.toNat++(UInt8.ofNat s.Index.toNat::UInt8.ofNat s.Data.toNat::UInt8.ofNat s.Parity.toNat::flatL s.Labels)
theorem encS_len (s:Seal_api):(encS s).length=7+4*s.Labels.length:=by
 unfold encS
 simp[flatL_len]
 omega
theorem u8_i {n:Int} (h:0≤n):u8 n=UInt8.ofNat n.toNat:=by
 have:=u8_m n.toNat
 rwa [Int.toNat_of_nonneg h] at this
def labs:List UInt8→Option (List Int)
 |[]=>some []
 |a::b::c::d::r=>(labs r).map (((beN [a,b,c,d]:Nat):Int)::·)
 |_=>none
theorem labs_flat:∀{L:List Int},(∀x∈L,0≤x∧x<4294967296)→labs (flatL L)=some L
 |[],_=>rfl
 |x::L,h=>by
  obtain ⟨h1,h2⟩:=h x (by simp)
  have e:flatL (x::L)=w4 x.toNat++flatL L:=rfl
  have e2:labs (w4 x.toNat++flatL L)=(labs (flatL L)).map (((beN (w4 x.toNat):Nat):Int)::·):=rfl
  rw[e,e2,labs_flat (fun y hy=>h y (List.mem_cons_of_mem _ hy)),be_w4 (by omega),Int.toNat_of_nonneg h1];rfl
theorem flat_labs:∀{t:List UInt8} {L:List Int},labs t=some L→flatL L=t
 |[],L,h=>by simp[labs] at h;subst h;rfl
 |[_],L,h=>by simp[labs] at h
 |[_,_],L,h=>by simp[labs] at h
 |[_,_,_],L,h=>by simp[labs] at h
 |a::b::c::d::r,L,h=>by
  rw[labs,Option.map_eq_some_iff] at h
  obtain ⟨M,h1,rfl⟩:=h
  have e:flatL (((beN [a,b,c,d]:Nat):Int)::M)=w4 (beN [a,b,c,d])++flatL M:=rfl
  rw[e,w4_be rfl,flat_labs h1];rfl
theorem in_inv {b X:List UInt8} (h:(inA (some b)).2=some X):b=w4 (inA (some b)).1.toNat++X:=by
 unfold inA at h ⊢
 rw[tkA_some] at h ⊢
 by_cases hl:4≤b.length
 ·rw[if_pos hl] at h ⊢
  simp only[Option.some.injEq] at h
  subst h
  simp only[Int.toNat_natCast]
  rw[w4_be (by simp;omega),List.take_append_drop]
 ·rw[if_neg hl] at h;cases h
theorem by_inv {b X:List UInt8} (h:(byA (some b)).2=some X):b=(byA (some b)).1::X:=by
 unfold byA at h ⊢
 rw[tkA_some] at h ⊢
 by_cases hl:1≤b.length
 ·rw[if_pos hl] at h ⊢
  simp only[Option.some.injEq] at h
  subst h
  cases b with
  |nil=>simp at hl
  |cons c l=>rfl
 ·rw[if_neg hl] at h;cases h
theorem by_some {s:Option (List UInt8)} {X:List UInt8} (h:(byA s).2=some X):∃b,s=some b:=by
 cases s with
 |none=>cases h
 |some b=>exact ⟨b,rfl⟩
def p7 (b:List UInt8):Int×UInt8×UInt8×UInt8×Option (List UInt8):=
 let n:=inA (some b);let i:=byA n.2;let d:=byA i.2;let p:=byA d.2
 (n.1,i.1,d.1,p.1,p.2)
theorem p7_app {n:Nat} {i d p:UInt8} {X:List UInt8} (h:n<4294967296):p7 (w4 n++(i::d::p::X))=((n:Int),i,d,p,some X):=by
 unfold p7
 simp only[in_app h,by_app]
theorem p7_inv {b X:List UInt8} (h:(p7 b).2.2.2.2=some X):b=w4 (p7 b).1.toNat++((p7 b).2.1::(p7 b).2.2.1::(p7 b).2.2.2.1::X):=by
 unfold p7 at h ⊢
 simp only at h ⊢
 obtain ⟨b3,e3⟩:=by_some h
 obtain ⟨b2,e2⟩:=by_some e3
 obtain ⟨b1,e1⟩:=by_some e2
 rw[e3] at h ⊢
 rw[e2] at e3 ⊢
 rw[e1] at e2 ⊢
 have q1:=in_inv e1
 have q2:=by_inv e2
 have q3:=by_inv e3
 have q4:=by_inv h
 rw[←q4,←q3,←q2,←q1]
def okS (b:List UInt8) (s:Seal_api):Prop:=RSl s∧encS s=b
def zeroS:Seal_api:=⟨0,0,0,0,[]⟩
def Rd (b:List UInt8) (r:Seal_api×Int):Prop:=(∃s,okS b s∧r=(s,0))∨((¬∃s,okS b s)∧r=(zeroS,2))
theorem ofNat_toNat (x:UInt8):UInt8.ofNat x.toNat=x:=by
 apply UInt8.toNat_inj.1
 rw[UInt8.toNat_ofNat']
 have:=x.toNat_lt
 omega
theorem p7_enc {s:Seal_api} (h:RSl s) (X:List UInt8):p7 (encS s++X)=(s.Number,UInt8.ofNat s.Index.toNat,UInt8.ofNat s.Data.toNat,UInt8.ofNat s.Parity.toNat,some (flatL s.Labels++X)):=by
 obtain ⟨⟨a1,a2⟩,_⟩:=h
 have e:encS s++X=w4 s.Number.toNat++(UInt8.ofNat s.Index.toNat::UInt8.ofNat s.Data.toNat::UInt8.ofNat s.Parity.toNat::(flatL s.Labels++X)):=by simp[encS]
 rw[e,p7_app (by omega),Int.toNat_of_nonneg (by omega)]
theorem small {n:Int} (h0:0≤n) (h1:n<256):((UInt8.ofNat n.toNat).toNat:Int)=n:=by
 rw[UInt8.toNat_ofNat']
 omega
theorem p7_seal {b:List UInt8} {s:Seal_api} (h:okS b s):p7 b=(s.Number,UInt8.ofNat s.Index.toNat,UInt8.ofNat s.Data.toNat,UInt8.ofNat s.Parity.toNat,some (flatL s.Labels))∧labs (flatL s.Labels)=some s.Labels∧
 s=⟨(p7 b).1,((p7 b).2.1.toNat:Int),((p7 b).2.2.1.toNat:Int),((p7 b).2.2.2.1.toNat:Int),s.Labels⟩:=by
 obtain ⟨hR,rfl⟩:=h
 have h7:=p7_enc hR []
 rw[List.append_nil,List.append_nil] at h7
 obtain ⟨⟨a1,a2⟩,⟨a3,a4⟩,⟨a5,a6⟩,⟨b1,b2⟩,b3,hg⟩:=hR
 refine ⟨h7,labs_flat fun x hx=>by have:=hg.1 x hx;omega,?_⟩
 rw[h7]
 obtain ⟨n,i,d,p,L⟩:=s
 simp only at a3 a5 b1 b2 a4 a6 ⊢
 rw[small b1 (by omega),small (by omega) (by omega),small (by omega) (by omega)]
theorem okS_inj {b:List UInt8} {s s':Seal_api} (h:okS b s) (h':okS b s'):s=s':=by
 obtain ⟨h1,h2,h3⟩:=p7_seal h
 obtain ⟨k1,k2,k3⟩:=p7_seal h'
 rw[h1] at k1
 have hf:flatL s.Labels=flatL s'.Labels:=by simpa using (Prod.mk.inj (Prod.mk.inj (Prod.mk.inj (Prod.mk.inj k1).2).2).2).2
 rw[hf,k2] at h2
 injection h2 with h2
 rw[h3,k3,h2]
theorem Rd_uniq {b:List UInt8} {r r':Seal_api×Int} (h:Rd b r) (h':Rd b r'):r=r':=by
 rcases h with ⟨s,h1,rfl⟩|⟨h1,rfl⟩<;>rcases h' with ⟨s',h2,rfl⟩|⟨h2,rfl⟩
 ·rw[okS_inj h1 h2]
 ·exact absurd ⟨s,h1⟩ h2
 ·exact absurd ⟨s',h2⟩ h1
 ·rfl
theorem Rd_enc {s:Seal_api} (h:RSl s) {r:Seal_api×Int} (hr:Rd (encS s) r):r=(s,0):=Rd_uniq hr (.inl ⟨s,⟨h,rfl⟩,rfl⟩)
theorem x_labels (n i d p:Int) (st:Option (List UInt8)) (hb:∀t,st=some t→t.length≤100000):∃(q:Option (List UInt8)) (L:List Int),run X.record_ReadSeal_s37 ((conC st).1,(conC st).2,n,i,d,p,([]:List Int))=some ((conC q).1,(conC q).2,n,i,d,p,L)∧
 ((∃t,st=some t∧labs t=some L∧q=some [])∨((st=none∨∃t,st=some t∧labs t=none)∧q=none)):=by
 obtain ⟨o,h1,q,L,rfl,h2⟩:=run_inv (f:=X.record_ReadSeal_s37) (s:=((conC st).1,(conC st).2,n,i,d,p,([]:List Int)))
  (fun x=>∃(st':Option (List UInt8)) (l:List Int),x=((conC st').1,(conC st').2,n,i,d,p,l)∧l.length≤100000∧(∀t',st'=some t'→l.length+t'.length≤100000)∧
    ((∃t t',st=some t∧st'=some t'∧labs t=(labs t').map (l++·))∨((st=none∨∃t,st=some t∧labs t=none)∧st'=none)))
  (fun o=>∃(q:Option (List UInt8)) (L:List Int),o=((conC q).1,(conC q).2,n,i,d,p,L)∧((∃t,st=some t∧labs t=some L∧q=some [])∨((st=none∨∃t,st=some t∧labs t=none)∧q=none)))
  (fun x=>x.1.length) ⟨st,[],rfl,by simp,fun t' h=>by have:=hb t' h;simpa using this,by
    cases st with
    |none=>exact .inr ⟨.inl rfl,rfl⟩
    |some t=>exact .inl ⟨t,t,rfl,rfl,by simp⟩⟩ (by
    cases st with
    |none=>simp[conC]
    |some t=>have:=hb t rfl;simp only[conC];omega) (by
    rintro _ ⟨st',l,rfl,hl,hl2,hI⟩
    have stop:∀q,conC q=([],(conC q).2)→((∃t,st=some t∧labs t=some l∧q=some [])∨((st=none∨∃t,st=some t∧labs t=none)∧q=none))→
     ∃r,X.record_ReadSeal_s37 ((conC q).1,(conC q).2,n,i,d,p,l)=some (.inr r)∧∃(q:Option (List UInt8)) (L:List Int),r=((conC q).1,(conC q).2,n,i,d,p,L)∧((∃t,st=some t∧labs t=some L∧q=some [])∨((st=none∨∃t,st=some t∧labs t=none)∧q=none)):=by
     intro q hq hR
     refine ⟨_,?_,q,l,rfl,hR⟩
     unfold X.record_ReadSeal_s37 X.code_Reader_Left
     simp only
     rw[bd_s,if_neg (by rw[hq];simp)]
    rcases hI with ⟨t,t',e1,rfl,e3⟩|⟨e1,rfl⟩
    ·cases t' with
     |nil=>
      right
      exact stop (some []) rfl (.inl ⟨t,e1,by rw[e3];simp[labs],rfl⟩)
     |cons c t2=>
      left
      unfold X.record_ReadSeal_s37 X.code_Reader_Left
      simp only
      rw[bd_s,if_pos (by simp[conC]),c_int,bd_s,need_is (by simp;omega),bd_s]
      have hll:=hl2 _ rfl
      refine ⟨_,rfl,⟨(inA (some (c::t2))).2,l++[(inA (some (c::t2))).1],rfl,(by simp at hll ⊢<;>omega),fun t'' h=>?_,?_⟩,?_⟩
      ·have:=in_inv h
       have h4:=congrArg List.length this
       simp at h4 hll ⊢
       omega
      ·by_cases h4:4≤(c::t2).length
       ·left
        match t2,h4 with
        |x::y::z::r,_=>
         refine ⟨t,r,e1,?_,?_⟩
         ·unfold inA;rw[tkA_some,if_pos (by simp)];rfl
         ·have ev:(inA (some (c::x::y::z::r))).1=((beN [c,x,y,z]:Nat):Int):=by unfold inA;rw[tkA_some,if_pos (by simp)];rfl
          rw[e3,labs,ev]
          cases labs r<;>simp
       ·right
        refine ⟨.inr ⟨t,e1,?_⟩,?_⟩
        ·rw[e3]
         match t2,h4 with
         |[],_=>rfl
         |[x],_=>rfl
         |[x,y],_=>rfl
         |x::y::z::r,h4=>simp at h4
        ·unfold inA;rw[tkA_some,if_neg h4]
      ·simp only
       by_cases h4:4≤(c::t2).length
       ·have e:(inA (some (c::t2))).2=some ((c::t2).drop 4):=by unfold inA;rw[tkA_some,if_pos h4]
        rw[e]
        simp only[conC,List.length_drop]
        omega
       ·have e:(inA (some (c::t2))).2=none:=by unfold inA;rw[tkA_some,if_neg h4]
        rw[e]
        simp[conC]
    ·right
     exact stop none rfl (.inr ⟨e1,rfl⟩))
 exact ⟨q,L,h1,h2⟩
theorem x_sread (b:List UInt8) (hb:b.length≤100000):∃r,X.record_ReadSeal b=some r∧Rd b r:=by
 unfold X.record_ReadSeal
 rw[c_new b hb,bd_s,c_int,bd_s]
 simp only[c_byte,bd_s]
 have hp:p7 b=((inA (some b)).1,(byA (inA (some b)).2).1,(byA (byA (inA (some b)).2).2).1,(byA (byA (byA (inA (some b)).2).2).2).1,(byA (byA (byA (inA (some b)).2).2).2).2):=rfl
 obtain ⟨q,L,h1,h2⟩:=x_labels (inA (some b)).1 ((byA (inA (some b)).2).1.toNat:Int) ((byA (byA (inA (some b)).2).2).1.toNat:Int) ((byA (byA (byA (inA (some b)).2).2).2).1.toNat:Int) (byA (byA (byA (inA (some b)).2).2).2).2 (fun t ht=>by
  have h5:(p7 b).2.2.2.2=some t:=by rw[hp];exact ht
  have h6:=congrArg List.length (p7_inv h5)
  simp at h6
  omega)
 rw[h1,bd_s]
 simp only
 unfold X.record_ReadSeal_e37 X.code_Reader_Bad
 rw[bd_s,x_sright]
 rcases h2 with ⟨t,e1,e2,rfl⟩|⟨e1,rfl⟩
 ·have e5:(p7 b).2.2.2.2=some t:=by rw[hp];exact e1
  have hb7:=p7_inv e5
  have hq:(⟨(inA (some b)).1,((byA (inA (some b)).2).1.toNat:Int),((byA (byA (inA (some b)).2).2).1.toNat:Int),((byA (byA (byA (inA (some b)).2).2).2).1.toNat:Int),L⟩:Seal_api)=⟨(p7 b).1,((p7 b).2.1.toNat:Int),((p7 b).2.2.1.toNat:Int),((p7 b).2.2.2.1.toNat:Int),L⟩:=by rw[hp]
  rw[hq]
  have henc:encS ⟨(p7 b).1,((p7 b).2.1.toNat:Int),((p7 b).2.2.1.toNat:Int),((p7 b).2.2.2.1.toNat:Int),L⟩=b:=by
   unfold encS
   simp only[Int.toNat_natCast,ofNat_toNat]
   rw[flat_labs e2]
   exact hb7.symm
  by_cases hR:RSl ⟨(p7 b).1,((p7 b).2.1.toNat:Int),((p7 b).2.2.1.toNat:Int),((p7 b).2.2.2.1.toNat:Int),L⟩
  ·rw[decide_eq_true hR]
   exact ⟨_,rfl,.inl ⟨_,⟨hR,henc⟩,rfl⟩⟩
  ·rw[decide_eq_false hR]
   refine ⟨_,rfl,.inr ⟨?_,rfl⟩⟩
   rintro ⟨s,hs⟩
   obtain ⟨k1,k2,k3⟩:=p7_seal hs
   have:some (flatL s.Labels)=some t:=by rw[←e5,k1]
   injection this with this
   rw[this,e2] at k2
   injection k2 with k2
   rw[k2,←k3] at hR
   exact hR hs.1
 ·refine ⟨(zeroS,2),rfl,.inr ⟨?_,rfl⟩⟩
  rintro ⟨s,hs⟩
  obtain ⟨k1,k2,_⟩:=p7_seal hs
  have e5:(byA (byA (byA (inA (some b)).2).2).2).2=some (flatL s.Labels):=by
   have:(p7 b).2.2.2.2=some (flatL s.Labels):=by rw[k1]
   rw[hp] at this;exact this
  rcases e1 with e1|⟨t,e1,e2⟩
  ·rw[e1] at e5;cases e5
  ·rw[e1] at e5
   injection e5 with e5
   rw[e5,k2] at e2
   cases e2
end Go.AX
namespace Go.AX
open Go.AM
set_option linter.unusedSimpArgs false
theorem y_sright (s:Seal_api):X.cartridgeref10_RightSeal s=some (decide (RSl s)):=by
 unfold X.cartridgeref10_RightSeal
 by_cases h1:(1≤s.Number∧s.Number≤1073741824)∧(1≤s.Data∧s.Data≤14)∧(1≤s.Parity∧s.Parity≤14-s.Data)∧(0≤s.Index∧s.Index≤s.Data+s.Parity-1)∧(s.Labels.length:Int)=s.Data+s.Parity
 ·obtain ⟨⟨a1,a2⟩,⟨a3,a4⟩,⟨a5,a6⟩,⟨b1,b2⟩,b3⟩:=h1
  have w2:wr (s.Data+s.Parity)=s.Data+s.Parity:=wr_eq (by omega) (by omega)
  rw[w2,if_neg (by simp;omega)]
  have hlen:s.Labels.length≤14:=by omega
  obtain ⟨o,h1,h2⟩:=run_se (f:=X.cartridgeref10_RightSeal_s8 s) (a:=0) (n:=s.Labels.length) (fun o=>(o= .inl ()∧goodL s.Labels)∨(o= .inr false∧¬goodL s.Labels)) (fun i=>goodL (s.Labels.take i)) (Nat.zero_le _) (by omega) (by simp[goodL])
   (fun i _ hi hI=>by
     unfold X.cartridgeref10_RightSeal_s8
     simp only
     rw[if_pos (by simpa using hi),getI_nat hi,bd_s]
     by_cases hr:1≤s.Labels[i]∧s.Labels[i]≤2147483647
     ·have hd:decide (s.Labels[i]<(1:Int))=false:=by simp;omega
      rw[hd,Bool.not_false,optG_true,bd_s,if_neg (by simp;omega)]
      obtain ⟨o2,g1,g2⟩:=run_se (f:=X.cartridgeref10_RightSeal_s20 (i:Int) s) (a:=0) (n:=i) (fun o=>(o= .inl ()∧s.Labels[i]∉s.Labels.take i)∨(o= .inr false∧s.Labels[i]∈s.Labels.take i)) (fun k=>s.Labels[i]∉s.Labels.take k) (Nat.zero_le _) (by omega) (by simp)
       (fun k _ hk hK=>by
         unfold X.cartridgeref10_RightSeal_s20
         simp only
         rw[if_pos (by simpa using hk),getI_nat (by omega),bd_s,getI_nat hi,bd_s]
         by_cases e:s.Labels[k]'(by omega)=s.Labels[i]
         ·right
          rw[if_pos (by simp[e])]
          refine ⟨_,rfl,.inr ⟨rfl,?_⟩⟩
          rw[←e,List.mem_take_iff_getElem]
          exact ⟨k,by omega,rfl⟩
         ·left
          rw[if_neg (by simp[e]),wr_succ (by omega)]
          refine ⟨rfl,?_⟩
          rw[List.take_succ_eq_append_getElem (by omega),List.mem_append]
          rintro (h|h)
          ·exact hK h
          ·simp at h;exact e h.symm)
       (fun hK=>by
         unfold X.cartridgeref10_RightSeal_s20
         simp only
         rw[if_neg (by simp)]
         exact ⟨_,rfl,.inl ⟨rfl,hK⟩⟩)
      have g1':run (X.cartridgeref10_RightSeal_s20 (i:Int) s) (0:Int)=some o2:=g1
      rw[g1',bd_s]
      rcases g2 with ⟨rfl,hm⟩|⟨rfl,hm⟩
      ·left
       simp only
       unfold X.cartridgeref10_RightSeal_e20
       rw[wr_succ (by omega)]
       exact ⟨rfl,good_succ hi hI hr hm⟩
      ·right
       exact ⟨_,rfl,.inr ⟨rfl,bad_twice hi hm⟩⟩
     ·right
      by_cases hlt:s.Labels[i]<1
      ·have hd:decide (s.Labels[i]<(1:Int))=true:=by simpa using hlt
       rw[hd,Bool.not_true,optG_false,bd_s,if_pos (by simp)]
       exact ⟨_,rfl,.inr ⟨rfl,bad_elem hi hr⟩⟩
      ·have hd:decide (s.Labels[i]<(1:Int))=false:=by simpa using hlt
       rw[hd,Bool.not_false,optG_true,bd_s,if_pos (by simp;omega)]
       exact ⟨_,rfl,.inr ⟨rfl,bad_elem hi hr⟩⟩)
   (fun hI=>by
     unfold X.cartridgeref10_RightSeal_s8
     simp only
     rw[if_neg (by simp)]
     exact ⟨_,rfl,.inl ⟨rfl,by simpa using hI⟩⟩)
  have h1':run (X.cartridgeref10_RightSeal_s8 s) (0:Int)=some o:=h1
  rw[h1',bd_s]
  rcases h2 with ⟨rfl,h3⟩|⟨rfl,h3⟩
  ·rw[decide_eq_true (show RSl s from ⟨⟨a1,a2⟩,⟨a3,a4⟩,⟨a5,a6⟩,⟨b1,b2⟩,b3,h3⟩)];rfl
  ·rw[decide_eq_false (show ¬RSl s from fun hR=>h3 hR.2.2.2.2.2)]
 ·rw[decide_eq_false (show ¬RSl s from fun hR=>h1 ⟨hR.1,hR.2.1,hR.2.2.1,hR.2.2.2.1,hR.2.2.2.2.1⟩),if_pos ?_]
  by_cases hD:(1≤s.Data∧s.Data≤14)∧(1≤s.Parity∧s.Parity≤14)
  ·rw[wr_eq (by omega) (by omega)]
   simp
   omega
  ·simp
   omega
end Go.AX
namespace Go.AX
open Go.AM
set_option linter.unusedSimpArgs false
def ab (b:List UInt8) (bad:Bool):Option (List UInt8):=if bad=true then none else some b
theorem r_take (n:Nat) (b:List UInt8) (bad:Bool):∃q:List UInt8×Bool,X.cartridgeref1_Reader_take (n:Int) b bad=some ((tkA n (ab b bad)).1,q)∧ab q.1 q.2=(tkA n (ab b bad)).2:=by
 unfold X.cartridgeref1_Reader_take
 cases bad
 ·show ∃q:List UInt8×Bool,_=some ((tkA n (some b)).1,q)∧ab q.1 q.2=(tkA n (some b)).2
  by_cases h:n≤b.length
  ·rw[if_neg (by simp;omega),need_is (by omega),bd_s,need_is (by omega),bd_s,tkA_some,if_pos h]
   have h1:slc b (0:Int) (n:Int)=b.take n:=by simp[slc]
   have h2:slc b (n:Int) (b.length:Int)=b.drop n:=by
    unfold slc
    rw[Int.toNat_natCast,List.take_of_length_le (by simp)]
   rw[h1,h2]
   exact ⟨_,rfl,rfl⟩
  ·rw[if_pos (by simp;omega),tkA_some,if_neg h]
   exact ⟨_,rfl,rfl⟩
 ·exact ⟨_,rfl,rfl⟩
theorem r_byte (b:List UInt8) (bad:Bool):∃q:List UInt8×Bool,X.cartridgeref1_Reader_Byte b bad=some ((byA (ab b bad)).1,q)∧ab q.1 q.2=(byA (ab b bad)).2:=by
 unfold X.cartridgeref1_Reader_Byte
 obtain ⟨q,h1,h2⟩:=r_take 1 b bad
 rw[show (1:Int)=((1:Nat):Int) from rfl,h1,bd_s]
 refine ⟨q,?_,h2⟩
 unfold byA
 cases h:(tkA 1 (ab b bad)).1 with
 |nil=>rfl
 |cons c l=>
  rw[if_neg (by simp;omega)]
  rfl
theorem or64_nat {a c:Nat} (ha:a<16777216) (hc:c<256):or64 (shl64 (a:Int) (((8:UInt64).toNat:Nat):Int)) (c:Int)=((a*256+c:Nat):Int):=by
 have e:shl64 (a:Int) (((8:UInt64).toNat:Nat):Int)=((a*256:Nat):Int):=by
  unfold shl64
  have:min (((8:UInt64).toNat:Nat):Int).toNat 64=8:=by decide
  rw[this]
  have h:=wr_eq (x:=(a:Int)*2^8) (by omega) (by omega)
  unfold wr at h
  rw[h]
  omega
 rw[e]
 unfold or64 bitsI
 have hb:∀n:Nat,n<18446744073709551616→(BitVec.ofInt IntKind.i64.bits (n:Int)).toNat=n:=by
  intro n hn
  show (BitVec.ofInt 64 (n:Int)).toNat=n
  simp
  omega
 simp only
 rw[BitVec.toNat_or,hb _ (by omega),hb _ (by omega),or_add hc]
 exact wr_eq (by omega) (by omega)
theorem r_int (b:List UInt8) (bad:Bool):∃q:List UInt8×Bool,X.cartridgeref1_Reader_Int b bad=some ((inA (ab b bad)).1,q)∧ab q.1 q.2=(inA (ab b bad)).2:=by
 unfold X.cartridgeref1_Reader_Int
 obtain ⟨q,h1,h2⟩:=r_take 4 b bad
 rw[show (4:Int)=((4:Nat):Int) from rfl,h1,bd_s]
 have hl:(tkA 4 (ab b bad)).1.length≤4:=by rcases tk_len 4 (ab b bad) with h|h<;>omega
 refine ⟨q,?_,h2⟩
 unfold inA
 generalize hx:(tkA 4 (ab b bad)).1=x at hl
 have key:run (X.cartridgeref1_Reader_Int_s11 (x,q)) ((0:Int),(0:Int))=some ((beN x:Nat):Int):=by
  refine run_G0 (n:=x.length) (fun i=>((beN (x.take i):Nat):Int)) (by omega) rfl ?_ ?_
  ·intro i hi
   unfold X.cartridgeref1_Reader_Int_s11
   simp only
   rw[if_pos (by simpa using hi),getI_nat hi,bd_s,wr_succ (by omega)]
   have hp:=be_pow i x (by omega)
   have hq:256^i≤256^3:=Nat.pow_le_pow_right (by omega) (by omega)
   rw[or64_nat (by omega) (x[i]).toNat_lt,be_succ hi]
  ·unfold X.cartridgeref1_Reader_Int_s11
   simp only
   rw[if_neg (by simp),List.take_length]
 rw[key,bd_s]
 rfl
end Go.AX
namespace Go.AX
open Go.AM
set_option linter.unusedSimpArgs false
theorem y_wint {n:Int} {b:List UInt8} (h0:0≤n) (h1:n<4294967296) (hb:b.length≤100000):X.cartridgeref1_Writer_Int n b=some (b++w4 n.toNat):=by
 unfold X.cartridgeref1_Writer_Int
 rw[need_is (by simp only[List.length_cons,List.length_nil];omega),bd_s]
 have e:(u64 n).toNat=n.toNat:=by
  unfold u64
  rw[UInt64.toNat_ofNat']
  omega
 have s:∀k,(shru64 (u64 n) k).toNat=n.toNat/2^k:=fun k=>by
  unfold shru64
  rw[UInt64.toNat_ofNat',e]
  exact Nat.mod_eq_of_lt (Nat.lt_of_le_of_lt (Nat.div_le_self _ _) (by omega))
 have m:∀x:UInt64,u8 (((x&&&255).toNat:Nat):Int)=UInt8.ofNat x.toNat:=fun x=>by
  rw[u8_m,UInt64.toNat_and]
  apply UInt8.toNat_inj.1
  rw[UInt8.toNat_ofNat',UInt8.toNat_ofNat']
  have:x.toNat&&&(255:UInt64).toNat=x.toNat%256:=Nat.and_two_pow_sub_one_eq_mod x.toNat 8
  rw[this]
  omega
 rw[m,m,m,m,s,s,s,e]
 rfl
theorem y_wbyte {c:UInt8} {b:List UInt8} (hb:b.length≤100000):X.cartridgeref1_Writer_Byte c b=some (b++[c]):=by
 unfold X.cartridgeref1_Writer_Byte
 rw[need_is (by simp only[List.length_cons,List.length_nil];omega),bd_s]
end Go.AX
namespace Go.AX
open Go.AM
set_option linter.unusedSimpArgs false
end Go.AX
namespace Go.AX
open Go.AM
set_option linter.unusedSimpArgs false
theorem y_sbytes (s:Seal_api):X.cartridgeref10_SealBytes s=some (if RSl s then encS s else []):=by
 unfold X.cartridgeref10_SealBytes
 rw[y_sright,bd_s]
 by_cases hR:RSl s
 ·rw[decide_eq_true hR,if_neg (by simp),if_pos hR]
  obtain ⟨⟨a1,a2⟩,⟨a3,a4⟩,⟨a5,a6⟩,⟨b1,b2⟩,b3,hg⟩:=hR
  have hlen:s.Labels.length≤14:=by omega
  rw[y_wint (by omega) (by omega) (by simp),bd_s,List.nil_append,u8_i b1,u8_i (by omega),u8_i (by omega),y_wbyte (by simp),bd_s,y_wbyte (by simp),bd_s,y_wbyte (by simp),bd_s]
  have key2:run (X.cartridgeref10_SealBytes_s28 s) (w4 s.Number.toNat++[UInt8.ofNat s.Index.toNat]++[UInt8.ofNat s.Data.toNat]++[UInt8.ofNat s.Parity.toNat],(0:Int))=some (encS s):=by
   refine run_G0 (n:=s.Labels.length) (fun i=>w4 s.Number.toNat++[UInt8.ofNat s.Index.toNat]++[UInt8.ofNat s.Data.toNat]++[UInt8.ofNat s.Parity.toNat]++flatL (s.Labels.take i)) (by omega) (by simp[flatL]) ?_ ?_
   ·intro i hi
    unfold X.cartridgeref10_SealBytes_s28
    simp only
    obtain ⟨q1,q2⟩:=hg.1 _ (List.getElem_mem hi)
    rw[if_pos (by simpa using hi),getI_nat hi,bd_s,y_wint (by omega) (by omega) (by simp[flatL_len];omega),bd_s,wr_succ (by omega),List.take_succ_eq_append_getElem hi]
    simp only[flatL,List.flatMap_append,List.flatMap_cons,List.flatMap_nil,List.append_nil,List.append_assoc]
   ·unfold X.cartridgeref10_SealBytes_s28
    simp only
    rw[if_neg (by simp),List.take_length]
    simp[encS]
  rw[key2,bd_s]
  rfl
 ·rw[decide_eq_false hR,if_pos (by simp),if_neg hR]
theorem y_labels (n i d p:Int) (b:List UInt8) (bad:Bool):∃L:List Int,run X.cartridgeref10_ReadSeal_s20 (b,bad,n,i,d,p,([]:List Int))=some (n,i,d,p,L)∧
 ∀M:List Int,ab b bad=some (flatL M)→M.length≤14→(∀x∈M,0≤x∧x<4294967296)→L=M:=by
 obtain ⟨o,h1,L,rfl,h2⟩:=run_inv (f:=X.cartridgeref10_ReadSeal_s20) (s:=(b,bad,n,i,d,p,([]:List Int)))
  (fun x=>∃(q:List UInt8×Bool) (l:List Int),x=(q.1,q.2,n,i,d,p,l)∧l.length≤14∧
    ∀M:List Int,ab b bad=some (flatL M)→M.length≤14→(∀x∈M,0≤x∧x<4294967296)→∃M2,l++M2=M∧ab q.1 q.2=some (flatL M2))
  (fun o=>∃L:List Int,o=(n,i,d,p,L)∧∀M:List Int,ab b bad=some (flatL M)→M.length≤14→(∀x∈M,0≤x∧x<4294967296)→L=M)
  (fun x=>14-x.2.2.2.2.2.2.length) ⟨(b,bad),[],rfl,by simp,fun M h _ _=>⟨M,rfl,h⟩⟩ (by simp) (by
    rintro _ ⟨q,l,rfl,hl,hI⟩
    unfold X.cartridgeref10_ReadSeal_s20 X.cartridgeref1_Reader_Left
    simp only
    have hleft:(if q.2=true then some (0:Int) else some (q.1.length:Int))=some (match ab q.1 q.2 with|none=>(0:Int)|some t=>(t.length:Int)):=by
     unfold ab
     cases q.2<;>rfl
    rw[hleft,bd_s]
    by_cases hc:(decide ((match ab q.1 q.2 with|none=>(0:Int)|some t=>(t.length:Int))≥(4:Int))&&decide ((l.length:Int)<(14:Int)))=true
    ·left
     rw[if_pos hc]
     obtain ⟨q',g1,g2⟩:=r_int q.1 q.2
     simp at hc
     rw[g1,bd_s,need_is (by simp;omega),bd_s]
     refine ⟨_,rfl,⟨q',l++[(inA (ab q.1 q.2)).1],rfl,by simp;omega,fun M h4 h5 h6=>?_⟩,by simp;omega⟩
     obtain ⟨M2,k1,k2⟩:=hI M h4 h5 h6
     cases M2 with
     |nil=>rw[k2] at hc;simp[flatL] at hc
     |cons x M3=>
      have hx:=h6 x (by rw[←k1];simp)
      have e:flatL (x::M3)=w4 x.toNat++flatL M3:=rfl
      have e3:inA (ab q.1 q.2)=(x,some (flatL M3)):=by rw[k2,e,in_app (by omega),Int.toNat_of_nonneg hx.1]
      refine ⟨M3,?_,?_⟩
      ·rw[e3,←k1];simp
      ·rw[g2,e3]
    ·right
     rw[if_neg hc]
     refine ⟨_,rfl,l,rfl,fun M h4 h5 h6=>?_⟩
     obtain ⟨M2,k1,k2⟩:=hI M h4 h5 h6
     rw[k2] at hc
     simp at hc
     cases M2 with
     |nil=>rw[←k1];simp
     |cons x M3=>
      exfalso
      have h7:=congrArg List.length k1
      simp at h7
      have h8:=flatL_len (x::M3)
      simp at h8
      omega)
 exact ⟨L,h1,h2⟩
theorem y_sread (b:List UInt8):∃r,X.cartridgeref10_ReadSeal b=some r∧Rd b r:=by
 unfold X.cartridgeref10_ReadSeal X.cartridgeref1_NewReader
 rw[bd_s]
 simp only
 obtain ⟨q0,h0,e0⟩:=r_int b false
 rw[h0,bd_s]
 obtain ⟨q1,h1,e1⟩:=r_byte q0.1 q0.2
 simp only
 rw[h1,bd_s]
 obtain ⟨q2,h2,e2⟩:=r_byte q1.1 q1.2
 simp only
 rw[h2,bd_s]
 obtain ⟨q3,h3,e3⟩:=r_byte q2.1 q2.2
 simp only
 rw[h3,bd_s]
 simp only
 have hab:ab b false=some b:=rfl
 rw[hab] at e0
 rw[e0] at e1
 rw[e1] at e2
 rw[e2] at e3
 rw[e2,e1,e0,hab]
 obtain ⟨L,g1,g2⟩:=y_labels (inA (some b)).1 ((byA (inA (some b)).2).1.toNat:Int) ((byA (byA (inA (some b)).2).2).1.toNat:Int) ((byA (byA (byA (inA (some b)).2).2).2).1.toNat:Int) q3.1 q3.2
 rw[g1,bd_s]
 simp only
 unfold X.cartridgeref10_ReadSeal_e20
 rw[y_sbytes,bd_s]
 have hp:p7 b=((inA (some b)).1,(byA (inA (some b)).2).1,(byA (byA (inA (some b)).2).2).1,(byA (byA (byA (inA (some b)).2).2).2).1,(byA (byA (byA (inA (some b)).2).2).2).2):=rfl
 have hq:(⟨(inA (some b)).1,((byA (inA (some b)).2).1.toNat:Int),((byA (byA (inA (some b)).2).2).1.toNat:Int),((byA (byA (byA (inA (some b)).2).2).2).1.toNat:Int),L⟩:Seal_api)=⟨(p7 b).1,((p7 b).2.1.toNat:Int),((p7 b).2.2.1.toNat:Int),((p7 b).2.2.2.1.toNat:Int),L⟩:=by rw[hp]
 rw[hq]
 have back:∀s,okS b s→s=⟨(p7 b).1,((p7 b).2.1.toNat:Int),((p7 b).2.2.1.toNat:Int),((p7 b).2.2.2.1.toNat:Int),L⟩:=by
  intro s hs
  obtain ⟨k1,k2,k3⟩:=p7_seal hs
  obtain ⟨hR,_⟩:=hs
  obtain ⟨⟨a1,a2⟩,⟨a3,a4⟩,⟨a5,a6⟩,⟨b1,b2⟩,b3,hg⟩:=hR
  have hL:L=s.Labels:=g2 s.Labels (by
   have:(p7 b).2.2.2.2=some (flatL s.Labels):=by rw[k1]
   rw[hp] at this
   rw[e3];exact this) (by omega) (fun x hx=>by have:=hg.1 x hx;omega)
  rw[hL]
  exact k3
 generalize (⟨(p7 b).1,((p7 b).2.1.toNat:Int),((p7 b).2.2.1.toNat:Int),((p7 b).2.2.2.1.toNat:Int),L⟩:Seal_api)=z at back
 by_cases hR:RSl z
 ·rw[if_pos hR]
  by_cases hE:encS z=b
  ·have hlen:=encS_len z
   rw[if_neg (by simp[hE];rw[←hE];intro h0;rw[h0] at hlen;simp at hlen;omega)]
   exact ⟨_,rfl,.inl ⟨z,⟨hR,hE⟩,rfl⟩⟩
  ·rw[if_pos (by simp[hE])]
   refine ⟨_,rfl,.inr ⟨?_,rfl⟩⟩
   rintro ⟨s,hs⟩
   have:=back s hs
   subst this
   exact hE hs.2
 ·rw[if_neg hR]
  refine ⟨(zeroS,2),rfl,.inr ⟨?_,rfl⟩⟩
  rintro ⟨s,hs⟩
  have:=back s hs
  subst this
  exact hR hs.1
end Go.AX
namespace Go.AX
open Go.AM
set_option linter.unusedSimpArgs false
set_option linter.unusedVariables false
def bitC (x:UInt32):UInt32:=if (x&&&(1:UInt32))==(1:UInt32) then (shr32 x 1)^^^(2197175160:UInt32) else shr32 x 1
def bitsC:Nat→UInt32→UInt32
 |0,x=>x
 |n+1,x=>bitC (bitsC n x)
def bytC (x:UInt32) (b:UInt8):UInt32:=bitsC 8 (x^^^u32 (b.toNat:Int))
def crc (b:List UInt8):UInt32:=(b.foldl bytC (4294967295:UInt32))^^^(4294967295:UInt32)
theorem fold_succ {b:List UInt8} {i:Nat} (h:i<b.length) (x:UInt32):(b.take (i+1)).foldl bytC x=bytC ((b.take i).foldl bytC x) b[i]:=by
 rw[List.take_add_one,List.getElem?_eq_getElem h,List.foldl_append];rfl
theorem xor0:((0:UInt32)^^^(4294967295:UInt32))=(4294967295:UInt32):=by decide
theorem c_bits (x:UInt32):run X.castagnoli_More_s19 (x,(0:Int))=some (bitsC 8 x):=by
 refine run_G0 (n:=8) (fun i=>bitsC i x) (by omega) rfl (fun i hi=>?_) ?_
 ·show X.castagnoli_More_s19 (bitsC i x,(i:Int))=some (.inl (bitC (bitsC i x),_))
  unfold X.castagnoli_More_s19 bitC
  simp only[]
  rw[if_pos (by simp;omega),wr_succ (by omega)]
  split<;>rfl
 ·rfl
theorem c_crc {b:List UInt8} (hb:b.length≤1000000):X.castagnoli_Sum b=some (crc b):=by
 have hr:run (X.castagnoli_More_s7 b) ((4294967295:UInt32),(0:Int))=some (b.foldl bytC (4294967295:UInt32)):=by
  refine run_G0 (n:=b.length) (fun i=>(b.take i).foldl bytC (4294967295:UInt32)) (by omega) rfl (fun i hi=>?_) ?_
  ·show X.castagnoli_More_s7 b ((b.take i).foldl bytC (4294967295:UInt32),(i:Int))=some (.inl ((b.take (i+1)).foldl bytC (4294967295:UInt32),_))
   unfold X.castagnoli_More_s7
   simp only[]
   rw[if_pos (by simp;omega),getI_nat hi,bd_s,c_bits,bd_s]
   unfold X.castagnoli_More_e19
   rw[wr_succ (by omega),fold_succ hi]
   rfl
  ·unfold X.castagnoli_More_s7
   simp only[]
   rw[if_neg (by simp),List.take_length]
 unfold X.castagnoli_Sum X.castagnoli_More
 rw[xor0,hr]
 rfl
theorem y_bits (x:UInt32):run X.cartridgeref1_More_s18 (x,(0:Int))=some (bitsC 8 x):=by
 refine run_G0 (n:=8) (fun i=>bitsC i x) (by omega) rfl (fun i hi=>?_) ?_
 ·show X.cartridgeref1_More_s18 (bitsC i x,(i:Int))=some (.inl (bitC (bitsC i x),_))
  unfold X.cartridgeref1_More_s18 bitC X.cartridgeref1_More_j24
  simp only[]
  rw[if_pos (by simp;omega),wr_succ (by omega)]
  split<;>rfl
 ·rfl
theorem y_crc {b:List UInt8} (hb:b.length≤1000000):X.cartridgeref1_Crc b=some (crc b):=by
 have hr:run (X.cartridgeref1_More_s7 b) ((4294967295:UInt32),(0:Int))=some (b.foldl bytC (4294967295:UInt32)):=by
  refine run_G0 (n:=b.length) (fun i=>(b.take i).foldl bytC (4294967295:UInt32)) (by omega) rfl (fun i hi=>?_) ?_
  ·show X.cartridgeref1_More_s7 b ((b.take i).foldl bytC (4294967295:UInt32),(i:Int))=some (.inl ((b.take (i+1)).foldl bytC (4294967295:UInt32),_))
   unfold X.cartridgeref1_More_s7
   simp only[]
   rw[if_pos (by simp;omega),getI_nat hi,bd_s,y_bits,bd_s]
   unfold X.cartridgeref1_More_e18
   rw[wr_succ (by omega),fold_succ hi]
   rfl
  ·unfold X.cartridgeref1_More_s7
   simp only[]
   rw[if_neg (by simp),List.take_length]
 unfold X.cartridgeref1_Crc X.cartridgeref1_More
 rw[xor0,hr]
 rfl
def roomN (k:Int):Nat:=if k=6 then 79 else 64
def OKU (u:Unit_api):Prop:=(1≤u.Kind∧u.Kind≤6)∧(1≤u.Label∧u.Label≤2147483647)∧(0≤u.Number∧u.Number≤2147483647)
instance (u:Unit_api):Decidable (OKU u):=by unfold OKU;infer_instance
def bodyF (u:Unit_api):List UInt8:=(UInt8.ofNat u.Kind.toNat::(w4 u.Label.toNat++(w4 u.Number.toNat++(UInt8.ofNat (u.Load.length/256)::UInt8.ofNat u.Load.length::(u.Load++List.replicate (roomN u.Kind-u.Load.length) 0)))))
def frameL (u:Unit_api):List UInt8:=bodyF u++w4 (crc (bodyF u)).toNat
theorem room_le (k:Int):roomN k≤79:=by unfold roomN;split<;>omega
theorem body_len {u:Unit_api} (h:u.Load.length≤roomN u.Kind):(bodyF u).length=11+roomN u.Kind:=by
 unfold bodyF
 simp only[List.length_cons,List.length_append,w4_len,List.length_replicate]
 omega
theorem frame_len {u:Unit_api} (h:u.Load.length≤roomN u.Kind):(frameL u).length=15+roomN u.Kind:=by
 unfold frameL
 rw[List.length_append,body_len h,w4_len];omega
def zeroU:Unit_api:=⟨0,0,0,[]⟩
def putF (u:Unit_api):List UInt8×Int:=if OKU u then if u.Load.length≤roomN u.Kind then (frameL u,0) else ([],4) else ([],1)
theorem shr8F {n:Nat} (h:n≤1000000):u8 (shr64 (n:Int) ((8:UInt64).toNat:Int))=UInt8.ofNat (n/256):=by
 have e:shr64 (n:Int) ((8:UInt64).toNat:Int)=((n/256:Nat):Int):=by
  unfold shr64
  have:min (((8:UInt64).toNat:Nat):Int).toNat 64=8:=by decide
  rw[this]
  have h1:(n:Int).fdiv (2^8)=((n/256:Nat):Int):=by rw[Int.fdiv_eq_ediv_of_nonneg _ (by decide)];omega
  first
   |exact h1
   |(rw[h1];exact wr_eq (by omega) (by omega))
 rw[e,u8_m]
theorem y_put (u:Unit_api) (hl:u.Load.length≤100000):X.cartridgeref1_PutFrame u=some (putF u):=by
 have hj:X.cartridgeref1_PutFrame u=X.cartridgeref1_PutFrame_j4 u (roomN u.Kind:Nat):=by
  unfold X.cartridgeref1_PutFrame roomN
  by_cases h:u.Kind=6
  ·rw[if_pos (by simp[h]),if_pos h];rfl
  ·rw[if_neg (by simp[h]),if_neg h];rfl
 rw[hj]
 unfold X.cartridgeref1_PutFrame_j4 putF
 have hr:=room_le u.Kind
 by_cases h:OKU u
 ·obtain ⟨⟨a1,a2⟩,⟨a3,a4⟩,a5,a6⟩:=h
  rw[if_pos (show OKU u from ⟨⟨a1,a2⟩,⟨a3,a4⟩,a5,a6⟩),if_neg (by simp;omega)]
  by_cases hm:u.Load.length≤roomN u.Kind
  ·rw[if_neg (by simp;omega),if_pos hm,y_wbyte (by simp),bd_s,y_wint (by omega) (by omega) (by simp),bd_s,y_wint (by omega) (by omega) (by simp[w4_len]),bd_s]
   rw[need_is (by simp[w4_len]),bd_s,need_is (by simp[w4_len];omega),bd_s]
   have hw:wr (((roomN u.Kind:Nat):Int)-(u.Load.length:Int))=((roomN u.Kind-u.Load.length:Nat):Int):=by
    rw[wr_eq (by omega) (by omega)];omega
   have ha:u8 (and64 (u.Load.length:Int) (255:Int))=UInt8.ofNat u.Load.length:=by
    unfold and64 bitsI
    have hb:∀n:Nat,n<18446744073709551616→(BitVec.ofInt IntKind.i64.bits (n:Int)).toNat=n:=by
     intro n hn
     show (BitVec.ofInt 64 (n:Int)).toNat=n
     simp
     omega
    simp only
    rw[BitVec.toNat_and,hb _ (by omega),show (255:Int)=((255:Nat):Int) from rfl,hb _ (by omega)]
    have:u.Load.length&&&255=u.Load.length%256:=Nat.and_two_pow_sub_one_eq_mod _ 8
    rw[this]
    have h2:=wr_eq (x:=((u.Load.length%256:Nat):Int)) (by omega) (by omega)
    unfold wr at h2
    rw[h2,u8_m]
    apply UInt8.toNat_inj.1
    rw[UInt8.toNat_ofNat',UInt8.toNat_ofNat']
    omega
   rw[hw,need_is (by simp[w4_len];omega),bd_s,shr8F (by omega),ha,Int.toNat_natCast,u8_i (by omega)]
   have hbody:((((([]++[UInt8.ofNat u.Kind.toNat])++w4 u.Label.toNat)++w4 u.Number.toNat)++([UInt8.ofNat (u.Load.length/256),UInt8.ofNat u.Load.length]:List UInt8))++u.Load)++List.replicate (roomN u.Kind-u.Load.length) (0:UInt8)=bodyF u:=by
    unfold bodyF
    simp
   rw[hbody,y_crc (by rw[body_len hm];omega),bd_s,y_wint (by omega) (by have:=(crc (bodyF u)).toNat_lt;omega) (by rw[body_len hm];omega),bd_s,Int.toNat_natCast]
   rfl
  ·rw[if_pos (by simp;omega),if_neg hm]
 ·rw[if_neg h,if_pos ?_]
  unfold OKU at h
  simp
  omega
theorem c_check (u:Unit_api):X.frame_check u=some (if OKU u then if u.Load.length≤roomN u.Kind then 0 else 4 else 1):=by
 have hj:(1≤u.Kind∧u.Kind≤6)→X.frame_check_j8 u=some (if u.Load.length≤roomN u.Kind then 0 else 4):=by
  intro hk
  unfold X.frame_check_j8 X.frame_room roomN
  by_cases h:u.Kind=6
  ·rw[if_pos (by simp[h]),bd_s,if_pos h]
   by_cases hm:u.Load.length≤79
   ·rw[if_neg (by simp;omega),if_pos hm]
   ·rw[if_pos (by simp;omega),if_neg hm]
  ·rw[if_neg (by simp[h]),bd_s,if_neg h]
   by_cases hm:u.Load.length≤64
   ·rw[if_neg (by simp;omega),if_pos hm]
   ·rw[if_pos (by simp;omega),if_neg hm]
 unfold X.frame_check
 by_cases hb:(1≤u.Label∧u.Label≤2147483647)∧(0≤u.Number∧u.Number≤2147483647)
 ·rw[if_neg (by simp;omega)]
  by_cases hk:1≤u.Kind∧u.Kind≤6
  ·rw[if_pos (show OKU u from ⟨hk,hb⟩)]
   have:=hj hk
   rw[this]
   repeat' split
   all_goals first
    |rfl
    |(exfalso;rename_i h1 h2 h3 h4 h5 h6;simp at h1 h2 h3 h4 h5 h6;omega)
    |(exfalso;simp_all;omega)
  ·rw[if_neg (show ¬OKU u from fun h=>hk h.1)]
   rw[if_neg (by simp;omega),if_neg (by simp;omega),if_neg (by simp;omega),if_neg (by simp;omega),if_neg (by simp;omega),if_neg (by simp;omega)]
 ·rw[if_neg (show ¬OKU u from fun h=>hb h.2),if_pos (by simp;omega)]
end Go.AX
namespace Go.AX
open Go.AM
set_option linter.unusedSimpArgs false
set_option linter.unusedVariables false
theorem opt_t {α:Type} [Inhabited α] (o:Option α):optG true o=o:=by unfold optG;rw[if_pos rfl]
theorem opt_f {α:Type} [Inhabited α] (o:Option α):optG false o=some default:=by unfold optG;rw[if_neg (by decide)]
def p5 (b:List UInt8):Unit_api×Option (List UInt8):=
 let k:=byA (some b);let l:=inA k.2;let n:=inA l.2;let h:=byA n.2;let m:=byA h.2;let t:=tkA (h.1.toNat*256+m.1.toNat) m.2
 (⟨(k.1.toNat:Int),l.1,n.1,t.1⟩,t.2)
def getU (b:List UInt8):Option Unit_api:=if (p5 b).2.isSome=true∧OKU (p5 b).1∧(p5 b).1.Load.length≤roomN (p5 b).1.Kind∧frameL (p5 b).1=b then some (p5 b).1 else none
def getF (b:List UInt8):Unit_api×Int:=match getU b with|some u=>(u,0)|none=>(zeroU,2)
theorem smallN {n:Nat} (h:n<256):(UInt8.ofNat n).toNat=n:=by rw[UInt8.toNat_ofNat'];omega
theorem p5_frame {u:Unit_api} (h:OKU u) (hl:u.Load.length≤roomN u.Kind):p5 (frameL u)=(u,some (List.replicate (roomN u.Kind-u.Load.length) 0++w4 (crc (bodyF u)).toNat)):=by
 obtain ⟨⟨a1,a2⟩,⟨a3,a4⟩,a5,a6⟩:=h
 have hr:=room_le u.Kind
 have hf:frameL u=UInt8.ofNat u.Kind.toNat::(w4 u.Label.toNat++(w4 u.Number.toNat++(UInt8.ofNat (u.Load.length/256)::UInt8.ofNat u.Load.length::(u.Load++(List.replicate (roomN u.Kind-u.Load.length) 0++w4 (crc (bodyF u)).toNat))))):=by
  unfold frameL
  conv=>lhs;lhs;unfold bodyF
  simp[List.append_assoc]
 unfold p5
 rw[hf]
 simp only[by_app,in_app (show u.Label.toNat<4294967296 by omega),in_app (show u.Number.toNat<4294967296 by omega)]
 rw[smallN (n:=u.Load.length/256) (by omega),smallN (n:=u.Kind.toNat) (by omega),UInt8.toNat_ofNat']
 have e:u.Load.length/256*256+u.Load.length%2^8=u.Load.length:=by omega
 rw[e,tk_app]
 have e1:((u.Kind.toNat:Nat):Int)=u.Kind:=by omega
 have e2:((u.Label.toNat:Nat):Int)=u.Label:=by omega
 have e3:((u.Number.toNat:Nat):Int)=u.Number:=by omega
 rw[e1,e2,e3]
theorem get_frame {u:Unit_api} (h:OKU u) (hl:u.Load.length≤roomN u.Kind):getU (frameL u)=some u:=by
 unfold getU
 rw[p5_frame h hl,if_pos ⟨rfl,h,hl,rfl⟩]
theorem c_made {u:Unit_api} (h:OKU u) (hl:u.Load.length≤roomN u.Kind):X.frame_made u=some (frameL u):=by
 obtain ⟨⟨a1,a2⟩,⟨a3,a4⟩,a5,a6⟩:=h
 have hr:=room_le u.Kind
 have hrm:X.frame_room u.Kind=some ((roomN u.Kind:Nat):Int):=by
  unfold X.frame_room roomN
  by_cases h:u.Kind=6
  ·rw[if_pos (by simp[h]),if_pos h];rfl
  ·rw[if_neg (by simp[h]),if_neg h];rfl
 have hcp:cpy (List.replicate (roomN u.Kind) (0:UInt8)) u.Load=u.Load++List.replicate (roomN u.Kind-u.Load.length) 0:=by
  unfold cpy
  rw[List.length_replicate,List.take_of_length_le hl,List.drop_replicate]
 have hbo:∀b:List UInt8,b.length≤100000→X.code_Writer_Bytes_or b=some b:=fun b hb=>by
  unfold X.code_Writer_Bytes_or X.slices_Clone_Lbyte_byte_own_or
  have:nilU b (fun z6=>if z6=true then some ([]:List UInt8) else (need (b.length*1≤140737488355328)).bind fun u10=>some b)=some b:=by
   refine nilU_same (fun e=>?_) ?_
   ·rw[if_pos rfl,e]
   ·rw[if_neg (by decide),need_is (by omega),bd_s]
  rw[this,bd_s]
 have hbody:((((([]++[UInt8.ofNat u.Kind.toNat])++w4 u.Label.toNat)++w4 u.Number.toNat)++[UInt8.ofNat (u.Load.length/256)])++[UInt8.ofNat u.Load.length])++(u.Load++List.replicate (roomN u.Kind-u.Load.length) (0:UInt8))=bodyF u:=by
  unfold bodyF
  simp
 unfold X.frame_made
 rw[c_wbyte (by simp),bd_s,c_wint (by omega) (by omega) (by simp),bd_s,c_wint (by omega) (by omega) (by simp[w4_len]),bd_s,shr8F (by omega),c_wbyte (by simp[w4_len]),bd_s,u8_m,c_wbyte (by simp[w4_len]),bd_s,hrm,bd_s]
 rw[need_is (by omega),bd_s,Int.toNat_natCast,hcp,hbo _ (by simp[w4_len]),bd_s,u8_i (by omega)]
 rw[hbody,need_is (by simp[w4_len];omega),bd_s,c_crc (by rw[body_len hl];omega),bd_s,c_wint (by omega) (by have:=(crc (bodyF u)).toNat_lt;omega) (by simp),bd_s,Int.toNat_natCast,List.nil_append,c_bytes (by simp[w4_len]),bd_s]
 rw[need_is (by rw[body_len hl,w4_len];omega),bd_s]
 rfl
theorem c_raw (n:Nat) (s:Option (List UInt8)) (hs:∀t,s=some t→t.length≤100000):X.code_Reader_Raw (n:Int) (conC s).1 (conC s).2=some ((tkA n s).1,conC (tkA n s).2):=by
 unfold X.code_Reader_Raw
 rw[show max (0:Int) (n:Int)=(n:Int) by omega,c_take,bd_s]
 have hl:(tkA n s).1.length≤100000:=by
  cases s with
  |none=>simp[tkA_none]
  |some b=>
   have:=hs b rfl
   rw[tkA_some]
   split
   ·simp;omega
   ·simp
 have hc:X.slices_Clone_Lbyte_byte (tkA n s).1=some (tkA n s).1:=by
  unfold X.slices_Clone_Lbyte_byte
  refine nilU_same (fun e=>?_) ?_
  ·rw[if_pos rfl,e]
  ·rw[if_neg (by decide),need_is (by omega),bd_s]
 rw[hc,bd_s]
theorem by_le {s:Option (List UInt8)} {N:Nat} (h:∀t,s=some t→t.length≤N):∀t,(byA s).2=some t→t.length≤N:=by
 intro t ht
 cases s with
 |none=>cases ht
 |some b=>
  have:=h b rfl
  have:=by_inv ht
  have h2:=congrArg List.length this
  simp at h2
  omega
theorem in_le {s:Option (List UInt8)} {N:Nat} (h:∀t,s=some t→t.length≤N):∀t,(inA s).2=some t→t.length≤N:=by
 intro t ht
 cases s with
 |none=>cases ht
 |some b=>
  have:=h b rfl
  have:=in_inv ht
  have h2:=congrArg List.length this
  simp at h2
  omega
theorem c_get (b:List UInt8) (hb:b.length≤100000):X.frame_Get b=some (getF b):=by
 unfold X.frame_Get
 rw[c_new b hb,bd_s,c_byte,bd_s,c_int,bd_s,c_int,bd_s,c_byte,bd_s,c_byte,bd_s]
 dsimp only
 rw[or64_nat (by have:=(byA (inA (inA (byA (some b)).2).2).2).1.toNat_lt;omega) (byA (byA (inA (inA (byA (some b)).2).2).2).2).1.toNat_lt]
 have hlen:∀t,(byA (byA (inA (inA (byA (some b)).2).2).2).2).2=some t→t.length≤100000:=by_le (by_le (in_le (in_le (by_le (fun t e=>by injection e with e;rw[←e];exact hb)))))
 rw[c_raw _ _ hlen,bd_s]
 unfold X.code_Reader_Bad
 rw[bd_s,c_check]
 have hp:p5 b=(⟨((byA (some b)).1.toNat:Int),(inA (byA (some b)).2).1,(inA (inA (byA (some b)).2).2).1,(tkA ((byA (inA (inA (byA (some b)).2).2).2).1.toNat*256+(byA (byA (inA (inA (byA (some b)).2).2).2).2).1.toNat) (byA (byA (inA (inA (byA (some b)).2).2).2).2).2).1⟩,
  (tkA ((byA (inA (inA (byA (some b)).2).2).2).1.toNat*256+(byA (byA (inA (inA (byA (some b)).2).2).2).2).1.toNat) (byA (byA (inA (inA (byA (some b)).2).2).2).2).2).2):=rfl
 generalize hk:((byA (some b)).1.toNat:Int)=k at hp ⊢
 generalize hl:(inA (byA (some b)).2).1=l at hp ⊢
 generalize hn:(inA (inA (byA (some b)).2).2).1=n at hp ⊢
 generalize ht:tkA ((byA (inA (inA (byA (some b)).2).2).2).1.toNat*256+(byA (byA (inA (inA (byA (some b)).2).2).2).2).1.toNat) (byA (byA (inA (inA (byA (some b)).2).2).2).2).2=t at hp ⊢
 obtain ⟨d,s⟩:=t
 dsimp only at hp ⊢
 unfold getF getU
 rw[hp]
 simp only
 cases s with
 |none=>
  rw[if_neg (show ¬((none:Option (List UInt8)).isSome=true∧OKU ⟨k,l,n,d⟩∧d.length≤roomN k∧frameL ⟨k,l,n,d⟩=b) from fun h=>by cases h.1)]
  rfl
 |some q=>
  show ((optG (!false) _).bind _)=_
  rw[show (conC (some q)).2=false from rfl,Bool.not_false,opt_t,bd_s]
  by_cases h1:OKU ⟨k,l,n,d⟩
  ·by_cases h2:d.length≤roomN k
   ·rw[if_pos h1,if_pos h2,Bool.false_or,show ((0:Int) !=0)=false from rfl,Bool.not_false,opt_t,c_made h1 h2,bd_s,opt_t,x_equal (by omega),bd_s]
    by_cases h3:frameL ⟨k,l,n,d⟩=b
    ·rw[if_pos (show (some q).isSome=true∧OKU ⟨k,l,n,d⟩∧d.length≤roomN k∧frameL ⟨k,l,n,d⟩=b from ⟨rfl,h1,h2,h3⟩),if_neg (by rw[h3];simp)]
    ·rw[if_neg (show ¬((some q).isSome=true∧OKU ⟨k,l,n,d⟩∧d.length≤roomN k∧frameL ⟨k,l,n,d⟩=b) from fun h=>h3 h.2.2.2),if_pos (by simp;exact fun e=>h3 e.symm)]
     rfl
   ·rw[if_pos h1,if_neg h2,if_neg (show ¬((some q).isSome=true∧OKU ⟨k,l,n,d⟩∧d.length≤roomN k∧frameL ⟨k,l,n,d⟩=b) from fun h=>h2 h.2.2.1)]
    rfl
  ·rw[if_neg h1,if_neg (show ¬((some q).isSome=true∧OKU ⟨k,l,n,d⟩∧d.length≤roomN k∧frameL ⟨k,l,n,d⟩=b) from fun h=>h1 h.2.1)]
   rfl
end Go.AX
namespace Go.AX
open Go.AM
set_option linter.unusedSimpArgs false
set_option linter.unusedVariables false
theorem tk_le {n:Nat} {s:Option (List UInt8)} {N:Nat} (h:∀t,s=some t→t.length≤N):(tkA n s).1.length≤N:=by
 cases s with
 |none=>simp[tkA_none]
 |some b=>
  have:=h b rfl
  rw[tkA_some]
  split
  ·simp;omega
  ·simp
theorem y_get (b:List UInt8) (hb:b.length≤100000):X.cartridgeref1_GetFrame b=some (getF b):=by
 unfold X.cartridgeref1_GetFrame X.cartridgeref1_NewReader
 rw[bd_s]
 dsimp only
 obtain ⟨q1,e1,f1⟩:=r_byte b false
 rw[e1,bd_s]
 obtain ⟨q2,e2,f2⟩:=r_int q1.1 q1.2
 rw[e2,bd_s]
 obtain ⟨q3,e3,f3⟩:=r_int q2.1 q2.2
 rw[e3,bd_s]
 obtain ⟨q4,e4,f4⟩:=r_byte q3.1 q3.2
 rw[e4,bd_s]
 obtain ⟨q5,e5,f5⟩:=r_byte q4.1 q4.2
 rw[e5,bd_s]
 dsimp only
 rw[f4] at f5 ⊢
 rw[f3] at f5 ⊢
 rw[f2] at f5 ⊢
 rw[f1] at f5 ⊢
 rw[show ab b false=some b from rfl] at f5 ⊢
 clear e1 e2 e3 e4 e5 f1 f2 f3 f4
 unfold X.cartridgeref1_Reader_Bad
 rw[bd_s]
 have hlen:∀t,(byA (byA (inA (inA (byA (some b)).2).2).2).2).2=some t→t.length≤100000:=by_le (by_le (in_le (in_le (by_le (fun t e=>by injection e with e;rw[←e];exact hb)))))
 have hp:p5 b=(⟨((byA (some b)).1.toNat:Int),(inA (byA (some b)).2).1,(inA (inA (byA (some b)).2).2).1,(tkA ((byA (inA (inA (byA (some b)).2).2).2).1.toNat*256+(byA (byA (inA (inA (byA (some b)).2).2).2).2).1.toNat) (byA (byA (inA (inA (byA (some b)).2).2).2).2).2).1⟩,
  (tkA ((byA (inA (inA (byA (some b)).2).2).2).1.toNat*256+(byA (byA (inA (inA (byA (some b)).2).2).2).2).1.toNat) (byA (byA (inA (inA (byA (some b)).2).2).2).2).2).2):=rfl
 have hw:wr (wr ((256:Int)*((byA (inA (inA (byA (some b)).2).2).2).1.toNat:Int))+((byA (byA (inA (inA (byA (some b)).2).2).2).2).1.toNat:Int))=(((byA (inA (inA (byA (some b)).2).2).2).1.toNat*256+(byA (byA (inA (inA (byA (some b)).2).2).2).2).1.toNat:Nat):Int):=by
  have h1:=(byA (inA (inA (byA (some b)).2).2).2).1.toNat_lt
  have h2:=(byA (byA (inA (inA (byA (some b)).2).2).2).2).1.toNat_lt
  rw[wr_eq (x:=(256:Int)*_) (by omega) (by omega),wr_eq (by omega) (by omega)]
  omega
 rw[hw]
 generalize hk:((byA (some b)).1.toNat:Int)=k at hp ⊢
 generalize hl:(inA (byA (some b)).2).1=l at hp ⊢
 generalize hn:(inA (inA (byA (some b)).2).2).1=n at hp ⊢
 generalize hs:(byA (byA (inA (inA (byA (some b)).2).2).2).2).2=s at hp f5 hlen ⊢
 generalize hm:(byA (inA (inA (byA (some b)).2).2).2).1.toNat*256+(byA (byA (inA (inA (byA (some b)).2).2).2).2).1.toNat=m at hp ⊢
 obtain ⟨c,bad⟩:=q5
 dsimp only at f5 ⊢
 unfold getF getU
 rw[hp]
 dsimp only
 unfold X.cartridgeref1_Reader_Left
 cases bad with
 |true=>
  have hs:s=none:=f5.symm
  subst hs
  rw[Bool.not_true,opt_f,bd_s,if_pos (by rw[Bool.true_or]),tkA_none,if_neg (show ¬((none:Option (List UInt8)).isSome=true∧_) from fun h=>by cases h.1)]
  rfl
 |false=>
  have hs:s=some c:=f5.symm
  subst hs
  rw[Bool.not_false,opt_t,if_neg (by decide),bd_s,Bool.false_or]
  have hc:=hlen c rfl
  by_cases hm:m≤c.length
  ·obtain ⟨q,e1,e2⟩:=r_take m c false
   rw[if_neg (by simp;omega),e1,bd_s]
   dsimp only
   rw[show ab c false=some c from rfl]
   have hd:=tk_le (n:=m) (s:=some c) (N:=100000) hlen
   generalize ht:tkA m (some c)=t at hd ⊢
   have ht2:t.2.isSome=true:=by rw[←ht,tkA_some,if_pos hm];rfl
   obtain ⟨d,s2⟩:=t
   dsimp only at hd ht2 ⊢
   rw[need_is (by omega),bd_s,y_put _ hd,bd_s]
   unfold putF
   dsimp only
   by_cases h1:OKU ⟨k,l,n,d⟩
   ·by_cases h2:d.length≤roomN k
    ·rw[if_pos h1,if_pos h2]
     by_cases h3:frameL ⟨k,l,n,d⟩=b
     ·rw[if_pos (show s2.isSome=true∧OKU ⟨k,l,n,d⟩∧d.length≤roomN k∧frameL ⟨k,l,n,d⟩=b from ⟨ht2,h1,h2,h3⟩),if_neg (by rw[h3];simp)]
     ·rw[if_neg (show ¬(s2.isSome=true∧OKU ⟨k,l,n,d⟩∧d.length≤roomN k∧frameL ⟨k,l,n,d⟩=b) from fun h=>h3 h.2.2.2),if_pos (by simp;exact h3)]
      rfl
    ·rw[if_pos h1,if_neg h2,if_neg (show ¬(s2.isSome=true∧OKU ⟨k,l,n,d⟩∧d.length≤roomN k∧frameL ⟨k,l,n,d⟩=b) from fun h=>h2 h.2.2.1)]
     rfl
   ·rw[if_neg h1,if_neg (show ¬(s2.isSome=true∧OKU ⟨k,l,n,d⟩∧d.length≤roomN k∧frameL ⟨k,l,n,d⟩=b) from fun h=>h1 h.2.1)]
    rfl
  ·rw[if_pos (by simp;omega),tkA_some,if_neg hm,if_neg (show ¬((none:Option (List UInt8)).isSome=true∧_) from fun h=>by cases h.1)]
   rfl
def goodF (t:Tape_api) (n:Int):Unit_api×Bool:=
 if t.Lost=false∧0≤n∧n<t.Blocks.length then
  match getU (t.Blocks.getD n.toNat []) with
  |some u=>if u.Label=t.Label∧u.Number=n then (u,true) else (zeroU,false)
  |none=>(zeroU,false)
 else (zeroU,false)
theorem c_good (t:Tape_api) (n:Int) (hb:∀b∈t.Blocks,b.length≤100000):X.volume_Good t n=some (goodF t n):=by
 unfold X.volume_Good goodF
 by_cases h:t.Lost=false∧0≤n∧n<t.Blocks.length
 ·obtain ⟨h1,h2,h3⟩:=h
  obtain ⟨m,rfl⟩:∃m:Nat,n=(m:Int):=⟨n.toNat,by omega⟩
  have hm:m<t.Blocks.length:=by omega
  rw[if_neg (by rw[h1];simp;omega),if_pos ⟨h1,h2,h3⟩,getI_getD [] hm,bd_s,c_get _ (hb _ (by rw[List.getD_eq_getElem?_getD,List.getElem?_eq_getElem hm];exact List.getElem_mem hm)),bd_s,Int.toNat_natCast]
  unfold getF
  cases hu:getU (t.Blocks.getD m []) with
  |none=>rfl
  |some u=>
   dsimp only
   by_cases hc:u.Label=t.Label∧u.Number=(m:Int)
   ·rw[if_pos hc,if_neg (by simp[hc])]
   ·rw[if_neg hc,if_pos (by simp;omega)]
    rfl
 ·rw[if_neg h,if_pos (by simp;cases hL:t.Lost<;>simp_all<;>omega)]
  rfl
theorem y_good (t:Tape_api) (n:Int) (hb:∀b∈t.Blocks,b.length≤100000):X.cartridgeref10_Good t n=some (goodF t n):=by
 unfold X.cartridgeref10_Good goodF
 by_cases h:t.Lost=false∧0≤n∧n<t.Blocks.length
 ·obtain ⟨h1,h2,h3⟩:=h
  obtain ⟨m,rfl⟩:∃m:Nat,n=(m:Int):=⟨n.toNat,by omega⟩
  have hm:m<t.Blocks.length:=by omega
  rw[if_neg (by rw[h1];simp;omega),if_pos ⟨h1,h2,h3⟩,getI_getD [] hm,bd_s,y_get _ (hb _ (by rw[List.getD_eq_getElem?_getD,List.getElem?_eq_getElem hm];exact List.getElem_mem hm)),bd_s,Int.toNat_natCast]
  unfold getF
  cases hu:getU (t.Blocks.getD m []) with
  |none=>rfl
  |some u=>
   dsimp only
   by_cases hc:u.Label=t.Label∧u.Number=(m:Int)
   ·rw[if_pos hc,if_neg (by simp[hc])]
   ·rw[if_neg hc,if_pos (by simp;omega)]
    rfl
 ·rw[if_neg h,if_pos (by simp;cases hL:t.Lost<;>simp_all<;>omega)]
  rfl
end Go.AX
namespace Go.AX
open Go.AM
set_option linter.unusedSimpArgs false
set_option linter.unusedVariables false
def uD (i k:Nat):Unit_api:=⟨3,((i+1:Nat):Int),(k:Int),[UInt8.ofNat i,UInt8.ofNat k,7]⟩
def bD (i k:Nat):List UInt8:=frameL (uD i k)
def dT (nb:Nat→Nat) (i:Nat):Tape_api:=⟨((i+1:Nat):Int),20,tab (nb i) (bD i),false⟩
def blT (j:Nat):Tape_api:=⟨((100+j:Nat):Int),20,[],false⟩
theorem put_ok {u:Unit_api} (h:OKU u) (hl:u.Load.length≤roomN u.Kind):putF u=(frameL u,0):=by
 unfold putF
 rw[if_pos h,if_pos hl]
theorem uD_ok {i k:Nat} (hi:i≤1000) (hk:k≤1000):OKU (uD i k)∧(uD i k).Load.length≤roomN (uD i k).Kind:=by
 refine ⟨⟨⟨by simp[uD],by simp[uD]⟩,⟨by simp[uD];omega,by simp[uD];omega⟩,by simp[uD],by simp[uD];omega⟩,by simp[uD,roomN]⟩
theorem bD_len {i k:Nat}:(bD i k).length=79:=by
 unfold bD
 rw[frame_len (by simp[uD,roomN])]
 rfl
theorem laid_tape {sizes:List Int} {nb:Nat→Nat} (hs:∀i,i<sizes.length→wr ((1:Int)+and64 (sizes.getD i 0) 7)=((nb i:Nat):Int)) (hnb:∀i,nb i≤8) {i:Nat} (hi:i<sizes.length) (hi2:i≤100):
 run (X.cartridgelaw15_laid_or_s56 sizes (i:Int)) (((i+1:Nat):Int),(20:Int),([]:List (List UInt8)),false,(0:Int))=some (((i+1:Nat):Int),(20:Int),tab (nb i) (bD i),false):=by
 have h8:=hnb i
 refine run_is _ (fun s=>∃k:Nat,k≤nb i∧s=(((i+1:Nat):Int),(20:Int),tab k (bD i),false,(k:Int))) (fun s=>nb i-s.2.2.2.2.toNat) ⟨0,by omega,rfl⟩ (by simp;omega) ?_
 rintro s ⟨k,hk,rfl⟩
 unfold X.cartridgelaw15_laid_or_s56
 dsimp only
 rw[getI_getD 0 hi,bd_s,hs i hi]
 by_cases hlt:k<nb i
 ·left
  rw[if_pos (by simp;omega),wr_succ (by omega),u8_m,u8_m]
  have hp:X.cartridgeref1_PutFrame ⟨3,((i+1:Nat):Int),(k:Int),[UInt8.ofNat i,UInt8.ofNat k,7]⟩=some (bD i k,0):=by
   rw[y_put _ (by simp),put_ok (u:=⟨3,((i+1:Nat):Int),(k:Int),[UInt8.ofNat i,UInt8.ofNat k,7]⟩) (uD_ok (i:=i) (k:=k) (by omega) (by omega)).1 (uD_ok (i:=i) (k:=k) (by omega) (by omega)).2]
   rfl
  rw[hp,bd_s,need_is (by simp[tab];omega),bd_s,wr_succ (by omega)]
  exact ⟨_,rfl,⟨k+1,by omega,by rw[tab_succ]⟩,by dsimp only;omega⟩
 ·right
  have:k=nb i:=by omega
  rw[if_neg (by simp;omega),this]
theorem laid_data {sizes:List Int} {nb:Nat→Nat} (hs:∀i,i<sizes.length→wr ((1:Int)+and64 (sizes.getD i 0) 7)=((nb i:Nat):Int)) (hnb:∀i,nb i≤8) (hl:sizes.length≤100):
 run (X.cartridgelaw15_laid_or_s10 sizes) (([]:List Tape_api),(0:Int))=some (tab sizes.length (dT nb)):=by
 refine run_G0 (n:=sizes.length) (fun i=>tab i (dT nb)) (by omega) rfl (fun i hi=>?_) ?_
 ·show X.cartridgelaw15_laid_or_s10 sizes (tab i (dT nb),(i:Int))=some (.inl (tab (i+1) (dT nb),_))
  unfold X.cartridgelaw15_laid_or_s10
  dsimp only
  rw[if_pos (by simp;omega),wr_succ (by omega),laid_tape hs hnb hi (by omega),bd_s]
  dsimp only
  unfold X.cartridgelaw15_laid_or_e56
  rw[need_is (by simp[tab];omega),bd_s,wr_succ (by omega),tab_succ]
  rfl
 ·unfold X.cartridgelaw15_laid_or_s10
  dsimp only
  rw[if_neg (by simp)]
theorem laid_blank {P:Nat} (hp:P≤100):run (X.cartridgelaw15_laid_or_s22 (P:Int)) (([]:List Tape_api),(0:Int))=some (tab P blT):=by
 refine run_G0 (n:=P) (fun i=>tab i blT) (by omega) rfl (fun i hi=>?_) ?_
 ·show X.cartridgelaw15_laid_or_s22 (P:Int) (tab i blT,(i:Int))=some (.inl (tab (i+1) blT,_))
  unfold X.cartridgelaw15_laid_or_s22
  dsimp only
  rw[if_pos (by simp;omega),need_is (by simp[tab];omega),bd_s,wr_succ (by omega),tab_succ,wr_eq (by omega) (by omega),show (100:Int)+(i:Int)=((100+i:Nat):Int) by omega]
  rfl
 ·unfold X.cartridgelaw15_laid_or_s22
  dsimp only
  rw[if_neg (by simp)]
def mxN (nb:Nat→Nat):Nat→Nat
 |0=>0
 |i+1=>max (mxN nb i) (nb i)
theorem mx_ge (nb:Nat→Nat) {i:Nat}:∀{D:Nat},i<D→nb i≤mxN nb D
 |D+1,h=>by
  simp only[mxN]
  rcases Nat.lt_or_eq_of_le (Nat.le_of_lt_succ h) with h|rfl
  ·have:=mx_ge nb h;omega
  ·omega
theorem mx_le (nb:Nat→Nat) {M:Nat} (h:∀i,nb i≤M):∀D,mxN nb D≤M
 |0=>Nat.zero_le _
 |D+1=>by have:=mx_le nb h D;have:=h D;simp only[mxN];omega
theorem y_len {nb:Nat→Nat} (hnb:∀i,nb i≤8) {D:Nat} (hD:D≤100):X.cartridgeref10_StripeLen (tab D (dT nb))=some ((mxN nb D:Nat):Int):=by
 unfold X.cartridgeref10_StripeLen
 have hr:run (X.cartridgeref10_StripeLen_s6 (tab D (dT nb))) ((0:Int),(0:Int))=some ((mxN nb D:Nat):Int):=by
  refine run_G0 (n:=D) (fun i=>((mxN nb i:Nat):Int)) (by omega) rfl (fun i hi=>?_) ?_
  ·show X.cartridgeref10_StripeLen_s6 (tab D (dT nb)) (((mxN nb i:Nat):Int),(i:Int))=some (.inl (((mxN nb (i+1):Nat):Int),_))
   unfold X.cartridgeref10_StripeLen_s6 X.cartridgeref10_StripeLen_j13
   dsimp only
   rw[if_pos (by simp[tab];omega),getI_tab hi,bd_s]
   have hb:((dT nb i).Blocks.length:Int)=((nb i:Nat):Int):=by simp[dT,tab]
   rw[show (!(dT nb i).Lost)=true from rfl,opt_t,bd_s,hb,bd_s,hb,wr_succ (by omega)]
   by_cases h:mxN nb i<nb i
   ·rw[if_pos (by simp;omega)]
    have:mxN nb (i+1)=nb i:=by simp only[mxN];omega
    rw[this]
   ·rw[if_neg (by simp;omega)]
    have:mxN nb (i+1)=mxN nb i:=by simp only[mxN];omega
    rw[this]
  ·unfold X.cartridgeref10_StripeLen_s6
   dsimp only
   rw[if_neg (by simp[tab])]
 rw[hr]
 rfl
end Go.AX
namespace Go.AX
open Go.AM
open Gf
set_option linter.unusedSimpArgs false
set_option linter.unusedVariables false
theorem good_at {t:Tape_api} {n:Nat} {u:Unit_api} (hL:t.Lost=false) (hn:n<t.Blocks.length) (hb:t.Blocks.getD n []=frameL u) (hg:OKU u∧u.Load.length≤roomN u.Kind) (h1:u.Label=t.Label) (h2:u.Number=(n:Int)):goodF t (n:Int)=(u,true):=by
 unfold goodF
 rw[if_pos ⟨hL,by omega,by omega⟩,Int.toNat_natCast,hb,get_frame hg.1 hg.2]
 dsimp only
 rw[if_pos ⟨h1,h2⟩]
theorem dT_good {nb:Nat→Nat} (hnb:∀i,nb i≤8) {i k:Nat} (hi:i≤100) (hk:k<nb i):goodF (dT nb i) (k:Int)=(uD i k,true):=by
 have:=hnb i
 exact good_at rfl (by simp[dT,tab];omega) (by simp only[dT];rw[tab_getD,if_pos hk];rfl) (uD_ok (by omega) (by omega)) rfl rfl
theorem dT_blocks {nb:Nat→Nat} {i:Nat}:∀b∈(dT nb i).Blocks,b.length≤100000:=by
 intro b hb
 obtain ⟨k,_,rfl⟩:=mem_tab.1 hb
 rw[bD_len];omega
def labD (D:Nat):List Int:=tab D fun i=>((i+1:Nat):Int)
def labP (P:Nat):List Int:=tab P fun j=>((100+j:Nat):Int)
def labs2 (D P:Nat):List Int:=labD D++labP P
def sealJ (D P j:Nat):Seal_api:=⟨3,((D+j:Nat):Int),(D:Int),(P:Int),labs2 D P⟩
theorem sealJ_right {D P j:Nat} (h1:1≤D) (h2:D≤6) (h3:1≤P) (h4:P≤4) (hlt:j<P):RSl (sealJ D P j):=by
 have hl:(labs2 D P).length=D+P:=by simp[labs2,labD,labP,tab]
 unfold RSl sealJ
 dsimp only
 rw[hl]
 refine ⟨by omega,by omega,by omega,by omega,?_,?_⟩
 all_goals first
  |omega
  |skip
 refine ⟨fun x hx=>?_,?_⟩
 ·rcases List.mem_append.1 hx with hx|hx
  ·obtain ⟨i,hi,rfl⟩:=mem_tab.1 hx;omega
  ·obtain ⟨i,hi,rfl⟩:=mem_tab.1 hx;omega
 ·unfold labs2 labD labP tab
  rw[List.nodup_append]
  refine ⟨?_,?_,?_⟩
  ·show List.Pairwise (·≠·) _
   exact List.Pairwise.map _ (fun a b (hab:a≠b)=>by show ((a+1:Nat):Int)≠((b+1:Nat):Int);omega) List.nodup_range
  ·show List.Pairwise (·≠·) _
   exact List.Pairwise.map _ (fun a b (hab:a≠b)=>by show ((100+a:Nat):Int)≠((100+b:Nat):Int);omega) List.nodup_range
  ·intro a ha b hb hab
   obtain ⟨i,hi,rfl⟩:=List.mem_map.1 ha
   obtain ⟨j',hj',rfl⟩:=List.mem_map.1 hb
   have:=List.mem_range.1 hi
   omega
theorem mk_bad {nb:Nat→Nat} (hnb:∀i,nb i≤8) {D i:Nat} (hD:D≤100) (hi:i<D):run (X.cartridgeref10_Make_kp0_s180 (tab D (dT nb)) (i:Int)) (false,(0:Int))=some false:=by
 have h8:=hnb i
 refine run_G0 (n:=nb i) (fun _=>false) (by omega) rfl (fun k hk=>?_) ?_
 ·unfold X.cartridgeref10_Make_kp0_s180
  dsimp only
  rw[getI_tab hi,bd_s,if_pos (by simp[dT,tab];omega),bd_s,y_good _ _ dT_blocks,bd_s,dT_good hnb (by omega) hk,wr_succ (by omega)]
  rfl
 ·unfold X.cartridgeref10_Make_kp0_s180
  dsimp only
  rw[getI_tab hi,bd_s,if_neg (by simp[dT,tab])]
theorem mk_s14 {nb:Nat→Nat} (hnb:∀i,nb i≤8) {D:Nat} (hD:D≤100) (a b c d:Int):run (X.cartridgeref10_Make_kp0_s14 (tab D (dT nb))) (a,b,c,d,([]:List Int),false,false,(0:Int))=some (a,b,c,d,labD D,false,false):=by
 refine run_is _ (fun s=>∃i:Nat,i≤D∧s=(a,b,c,d,labD i,false,false,(i:Int))) (fun s=>D-s.2.2.2.2.2.2.2.toNat) ⟨0,by omega,rfl⟩ (by simp;omega) ?_
 rintro s ⟨i,hi,rfl⟩
 unfold X.cartridgeref10_Make_kp0_s14
 dsimp only
 by_cases hlt:i<D
 ·left
  rw[if_pos (by simp[tab];omega),getI_tab hlt,bd_s,need_is (by simp[labD,tab];omega),bd_s,Bool.not_false,opt_t,bd_s,mk_bad hnb hD hlt,bd_s]
  unfold X.cartridgeref10_Make_kp0_e180
  rw[wr_succ (by omega)]
  exact ⟨_,rfl,⟨i+1,by omega,by unfold labD;rw[tab_succ];rfl⟩,by dsimp only;omega⟩
 ·right
  have:i=D:=by omega
  rw[if_neg (by simp[tab];omega),this]
theorem mk_s38 {P:Nat} (hP:P≤100) (a b c d:Int) (l:List Int) (hl:l.length≤1000):run (X.cartridgeref10_Make_kp0_s38 (tab P blT)) (a,b,c,d,l,false,(0:Int))=some (a,b,c,d,l++labP P,false):=by
 refine run_is _ (fun s=>∃i:Nat,i≤P∧s=(a,b,c,d,l++labP i,false,(i:Int))) (fun s=>P-s.2.2.2.2.2.2.toNat) ⟨0,by omega,by simp[labP,tab]⟩ (by simp;omega) ?_
 rintro s ⟨i,hi,rfl⟩
 unfold X.cartridgeref10_Make_kp0_s38
 dsimp only
 by_cases hlt:i<P
 ·left
  rw[if_pos (by simp[tab];omega),getI_tab hlt,bd_s,need_is (by simp[labP,tab];omega),bd_s,Bool.not_false,opt_t,bd_s,wr_succ (by omega)]
  exact ⟨_,rfl,⟨i+1,by omega,by unfold labP;rw[tab_succ,List.append_assoc];rfl⟩,by dsimp only;omega⟩
 ·right
  have:i=P:=by omega
  rw[if_neg (by simp[tab];omega),this]
theorem mk_s64 {P:Nat} (hP:P≤100):run (X.cartridgeref10_Make_kp0_s64 (tab P blT)) (0:Int)=some (.inl ()):=by
 refine run_seE (a:=0) (n:=P) (fun _=>True) (Nat.zero_le _) (by omega) trivial (fun i _ hi _=> .inl ⟨?_,trivial⟩) (fun _=>?_)
 ·unfold X.cartridgeref10_Make_kp0_s64
  dsimp only
  rw[if_pos (by simp[tab];omega),getI_tab hi,bd_s,if_neg (by simp[blT]),wr_succ (by omega)]
 ·unfold X.cartridgeref10_Make_kp0_s64
  dsimp only
  rw[if_neg (by simp[tab])]
theorem mk_s72 {nb:Nat→Nat} (hnb:∀i,nb i≤8) {D P:Nat} (hD:D≤100) (hP:P≤100):run (X.cartridgeref10_Make_kp0_s72 (tab P blT) (tab D (dT nb))) (0:Int)=some (.inl ()):=by
 have hm:=mx_le nb hnb D
 refine run_seE (a:=0) (n:=P) (fun _=>True) (Nat.zero_le _) (by omega) trivial (fun i _ hi _=> .inl ⟨?_,trivial⟩) (fun _=>?_)
 ·unfold X.cartridgeref10_Make_kp0_s72
  dsimp only
  rw[if_pos (by simp[tab];omega),y_len hnb hD,bd_s,getI_tab hi,bd_s,if_neg (by rw[wr_eq (by omega) (by omega)];simp[blT];omega),wr_succ (by omega)]
 ·unfold X.cartridgeref10_Make_kp0_s72
  dsimp only
  rw[if_neg (by simp[tab])]
def blkR (nb:Nat→Nat) (n i:Nat):List UInt8:=if n<nb i then bD i n else List.replicate 79 0
def rowD (nb:Nat→Nat) (D n:Nat):List (List UInt8):=tab D (blkR nb n)
theorem blkR_len {nb:Nat→Nat} {n i:Nat}:(blkR nb n i).length=79:=by
 unfold blkR
 split
 ·exact bD_len
 ·simp
theorem rowD_wide {nb:Nat→Nat} {D n:Nat}:Wide (rowD nb D n) 79:=by
 intro r hr
 obtain ⟨i,_,rfl⟩:=mem_tab.1 hr
 exact blkR_len
theorem mk_row {nb:Nat→Nat} (hnb:∀i,nb i≤8) {D n:Nat} (hD:D≤100):X.cartridgeref10_Row_kp0 (n:Int) (tab D (dT nb))=some (rowD nb D n):=by
 unfold X.cartridgeref10_Row_kp0
 have hr:run (X.cartridgeref10_Row_kp0_s9 (tab D (dT nb)) (n:Int)) (([]:List (List UInt8)),(0:Int))=some (rowD nb D n):=by
  refine run_G0 (n:=D) (fun i=>tab i (blkR nb n)) (by omega) rfl (fun i hi=>?_) ?_
  ·show X.cartridgeref10_Row_kp0_s9 _ _ (tab i (blkR nb n),(i:Int))=some (.inl (tab (i+1) (blkR nb n),_))
   unfold X.cartridgeref10_Row_kp0_s9 X.cartridgeref10_Row_kp0_j20
   dsimp only
   have hL:(dT nb i).Lost=false:=rfl
   rw[if_pos (by simp[tab];omega),getI_tab hi,bd_s,hL,show decide ((n:Int)<0)=false by simp,Bool.or_false,Bool.not_false,opt_t,bd_s,wr_succ (by omega)]
   have hb:((dT nb i).Blocks.length:Int)=((nb i:Nat):Int):=by simp[dT,tab]
   rw[hb]
   by_cases h:n<nb i
   ·have hg:getI (dT nb i).Blocks (n:Int)=some (bD i n):=getI_tab h
    rw[if_neg (by simp;omega),bd_s,hg,bd_s,if_pos (by rw[bD_len];rfl),bd_s,hg,bd_s,need_is (by rw[bD_len];omega),bd_s,need_is (by simp[tab];omega),bd_s,tab_succ]
    unfold blkR
    rw[if_pos h]
   ·rw[if_pos (by simp;omega),need_is (by omega),bd_s,need_is (by simp[tab];omega),bd_s,tab_succ]
    unfold blkR
    rw[if_neg h]
    rfl
  ·unfold X.cartridgeref10_Row_kp0_s9
   dsimp only
   rw[if_neg (by simp[tab])]
   rfl
 rw[hr]
 rfl
end Go.AX
namespace Go.AX
open Go.AM
open Gf
set_option linter.unusedSimpArgs false
set_option linter.unusedVariables false
def parN (nb:Nat→Nat) (D P n:Nat):List (List UInt8):=reck (cau D P) (rowD nb D n) 79
theorem parN_len {nb:Nat→Nat} {D P n:Nat}:(parN nb D P n).length=P:=by unfold parN;rw[reck_len,cau_len]
theorem parN_row {nb:Nat→Nat} {D P n j:Nat} (hj:j<P):(row (parN nb D P n) j).length=79:=reck_wide _ (row_mem (by rw[reck_len,cau_len];exact hj))
theorem enc_row {nb:Nat→Nat} {D P n:Nat} (h1:1≤D) (h2:D≤6) (h3:1≤P) (h4:P≤4):X.cartridgeref1_Encode (rowD nb D n) (P:Int)=some (parN nb D P n,0):=by
 have hl:(rowD nb D n).length=D:=tab_len
 rw[x_refEncode _ _ (fun r hr=>by rw[rowD_wide r hr];omega) (by rw[hl];omega) (by omega)]
 unfold encG
 rw[if_pos ⟨by rw[hl];exact h1,by omega,by rw[hl];omega,alike_if rowD_wide⟩,if_neg (by omega),hl,Int.toNat_natCast,rowD_wide _ (row_mem (by rw[hl];omega))]
 rfl
def parJ (nb:Nat→Nat) (D P N j:Nat):List (List UInt8):=tab N fun n=>row (parN nb D P n) j
theorem mk_parity {nb:Nat→Nat} (hnb:∀i,nb i≤8) {D P:Nat} (h1:1≤D) (h2:D≤6) (h3:1≤P) (h4:P≤4):
 X.cartridgeref10_Parity_kp0 (P:Int) (tab D (dT nb))=some (tab P (parJ nb D P (mxN nb D)),0):=by
 have hm:=mx_le nb hnb D
 unfold X.cartridgeref10_Parity_kp0
 have hl:(tab D (dT nb)).length=D:=tab_len
 rw[hl,if_neg (by rw[wr_eq (by omega) (by omega)];simp;omega)]
 have r12:run (X.cartridgeref10_Parity_kp0_s12 (P:Int)) (([]:List (List (List UInt8))),(0:Int))=some (tab P (parJ nb D P 0)):=by
  refine run_G0 (n:=P) (fun i=>tab i (parJ nb D P 0)) (by omega) rfl (fun i hi=>?_) ?_
  ·show X.cartridgeref10_Parity_kp0_s12 _ (tab i (parJ nb D P 0),(i:Int))=some (.inl (tab (i+1) (parJ nb D P 0),_))
   unfold X.cartridgeref10_Parity_kp0_s12
   dsimp only
   rw[if_pos (by simp;omega),need_is (by simp[tab];omega),bd_s,wr_succ (by omega),tab_succ]
   rfl
  ·unfold X.cartridgeref10_Parity_kp0_s12
   dsimp only
   rw[if_neg (by simp)]
 rw[r12,bd_s]
 dsimp only
 unfold X.cartridgeref10_Parity_kp0_e12
 have r22:run (X.cartridgeref10_Parity_kp0_s22 (tab D (dT nb)) (P:Int)) (tab P (parJ nb D P 0),(0:Int))=some (.inl (tab P (parJ nb D P (mxN nb D)))):=by
  refine run_G0 (n:=mxN nb D) (fun n=>tab P (parJ nb D P n)) (by omega) rfl (fun n hn=>?_) ?_
  ·show X.cartridgeref10_Parity_kp0_s22 _ _ (tab P (parJ nb D P n),(n:Int))=some (.inl (tab P (parJ nb D P (n+1)),_))
   unfold X.cartridgeref10_Parity_kp0_s22
   dsimp only
   have hrl:(rowD nb D n).length=D:=tab_len
   rw[y_len hnb (by omega),bd_s,if_pos (by simp;omega),mk_row hnb (by omega),bd_s]
   have r39:run (X.cartridgeref10_Parity_kp0_s39 (rowD nb D n)) (0:Int)=some (.inl ()):=by
    refine run_seE (a:=0) (n:=D) (fun _=>True) (Nat.zero_le _) (by omega) trivial (fun i _ hi _=> .inl ⟨?_,trivial⟩) (fun _=>?_)
    ·unfold X.cartridgeref10_Parity_kp0_s39
     dsimp only
     have hg:getI (rowD nb D n) (i:Int)=some (blkR nb n i):=getI_tab hi
     rw[if_pos (by rw[hrl];simp;omega),hg,bd_s,blkR_len,if_neg (by decide),wr_succ (by omega)]
    ·unfold X.cartridgeref10_Parity_kp0_s39
     dsimp only
     rw[if_neg (by rw[hrl];simp)]
   rw[r39,bd_s]
   dsimp only
   unfold X.cartridgeref10_Parity_kp0_e39
   rw[enc_row h1 h2 h3 h4,bd_s,if_neg (by simp)]
   have r51:run (X.cartridgeref10_Parity_kp0_s51 (P:Int) (parN nb D P n,0)) (tab P (parJ nb D P n),(0:Int))=some (tab P (parJ nb D P (n+1))):=by
    refine run_G0 (n:=P) (fun t=>tab P fun j=>if j<t then parJ nb D P (n+1) j else parJ nb D P n j) (by omega) (by exact tab_congr fun j hj=>by rw[if_neg (by omega)]) (fun t ht=>?_) ?_
    ·unfold X.cartridgeref10_Parity_kp0_s51
     dsimp only
     have hg:getI (parN nb D P n) (t:Int)=some (row (parN nb D P n) t):=getI_getD [] (by rw[parN_len];exact ht)
     rw[if_pos (by simp;omega),getI_tab ht,if_neg (by omega),bd_s,hg,bd_s,need_is (by simp[parJ,tab];omega),bd_s,bd_s,Int.toNat_natCast,wr_succ (by omega)]
     congr 3
     rw[tab_set]
     refine tab_congr fun j hj=>?_
     by_cases hjt:j=t
     ·subst hjt
      rw[if_pos rfl,if_pos (by omega)]
      unfold parJ
      rw[tab_succ]
     ·rw[if_neg hjt]
      by_cases hlt:j<t
      ·rw[if_pos hlt,if_pos (by omega)]
      ·rw[if_neg hlt,if_neg (by omega)]
    ·unfold X.cartridgeref10_Parity_kp0_s51
     dsimp only
     rw[if_neg (by simp)]
     congr 2
     exact tab_congr fun j hj=>by rw[if_pos hj]
   rw[r51,bd_s]
   dsimp only
   unfold X.cartridgeref10_Parity_kp0_e51
   rw[wr_succ (by omega)]
  ·unfold X.cartridgeref10_Parity_kp0_s22
   dsimp only
   rw[y_len hnb (by omega),bd_s,if_neg (by simp)]
 rw[r22,bd_s]
 rfl
def uL (j:Nat):Unit_api:=⟨1,((100+j:Nat):Int),0,[80]⟩
def uP (nb:Nat→Nat) (D P j n:Nat):Unit_api:=⟨6,((100+j:Nat):Int),((n+1:Nat):Int),row (parN nb D P n) j⟩
def uS (D P N j:Nat):Unit_api:=⟨5,((100+j:Nat):Int),((N+1:Nat):Int),encS (sealJ D P j)⟩
def pB (nb:Nat→Nat) (D P N j:Nat):List (List UInt8):=(([frameL (uL j)]++tab N fun n=>frameL (uP nb D P j n))++[frameL (uS D P N j)])
def pT (nb:Nat→Nat) (D P j:Nat):Tape_api:=⟨((100+j:Nat):Int),20,pB nb D P (mxN nb D) j,false⟩
theorem uL_ok {j:Nat} (hj:j≤1000):OKU (uL j)∧(uL j).Load.length≤roomN (uL j).Kind:=
 ⟨⟨⟨by simp[uL],by simp[uL]⟩,⟨by simp[uL];omega,by simp[uL];omega⟩,by simp[uL],by simp[uL]⟩,by simp[uL,roomN]⟩
theorem uP_ok {nb:Nat→Nat} {D P j n:Nat} (hj:j<P) (hP:P≤1000) (hn:n≤1000):OKU (uP nb D P j n)∧(uP nb D P j n).Load.length≤roomN (uP nb D P j n).Kind:=
 ⟨⟨⟨by simp[uP],by simp[uP]⟩,⟨by simp[uP];omega,by simp[uP];omega⟩,by simp[uP];omega,by simp[uP];omega⟩,by
   have h:=parN_row (nb:=nb) (D:=D) (n:=n) hj
   show (row (parN nb D P n) j).length≤roomN 6
   rw[h]
   decide⟩
theorem encS_le {D P j:Nat} (h2:D≤6) (h4:P≤4):(encS (sealJ D P j)).length≤47:=by
 rw[encS_len]
 have:(sealJ D P j).Labels.length=D+P:=by simp[sealJ,labs2,labD,labP,tab]
 omega
theorem uS_ok {D P N j:Nat} (h2:D≤6) (h4:P≤4) (hj:j≤1000) (hN:N≤1000):OKU (uS D P N j)∧(uS D P N j).Load.length≤roomN (uS D P N j).Kind:=
 ⟨⟨⟨by simp[uS],by simp[uS]⟩,⟨by simp[uS];omega,by simp[uS];omega⟩,by simp[uS];omega,by simp[uS];omega⟩,by
   have:=encS_le (D:=D) (P:=P) (j:=j) h2 h4
   show (encS (sealJ D P j)).length≤roomN 5
   simp[roomN]
   omega⟩
theorem y_frame {u:Unit_api} (h:OKU u∧u.Load.length≤roomN u.Kind):X.cartridgeref10_frame u.Kind u.Label u.Number u.Load=some (frameL u):=by
 unfold X.cartridgeref10_frame
 have:=room_le u.Kind
 rw[y_put _ (by show u.Load.length≤100000;omega),put_ok (u:=⟨u.Kind,u.Label,u.Number,u.Load⟩) h.1 h.2,bd_s]
theorem mk_tapes {nb:Nat→Nat} (hnb:∀i,nb i≤8) {D P:Nat} (h1:1≤D) (h2:D≤6) (h3:1≤P) (h4:P≤4):
 run (X.cartridgeref10_Make_kp0_s87 (tab P blT) (tab P (parJ nb D P (mxN nb D)),0) (tab D (dT nb))) ((3:Int),(0:Int),(D:Int),(P:Int),labs2 D P,([]:List Tape_api),(0:Int))=some (tab P (pT nb D P)):=by
 have hm:=mx_le nb hnb D
 refine run_is _ (fun s=>∃(x:Int) (i:Nat),i≤P∧s=((3:Int),x,(D:Int),(P:Int),labs2 D P,tab i (pT nb D P),(i:Int))) (fun s=>P-s.2.2.2.2.2.2.toNat) ⟨0,0,by omega,rfl⟩ (by simp;omega) ?_
 rintro s ⟨x,i,hi,rfl⟩
 unfold X.cartridgeref10_Make_kp0_s87
 dsimp only
 by_cases hlt:i<P
 ·left
  have hfr:=y_frame (uL_ok (j:=i) (by omega))
  have hF:X.cartridgeref10_frame (1:Int) (blT i).Label (0:Int) [80]=some (frameL (uL i)):=hfr
  rw[if_pos (by simp[tab];omega),getI_tab hlt,bd_s,bd_s,hF,bd_s,need_is (by simp),bd_s]
  have r116:run (X.cartridgeref10_Make_kp0_s116 (tab P (parJ nb D P (mxN nb D)),0) (i:Int)) ((blT i).Label,(blT i).Cap,(([]:List (List UInt8))++[frameL (uL i)]),false,(0:Int))=some ((blT i).Label,(blT i).Cap,[frameL (uL i)]++tab (mxN nb D) (fun n=>frameL (uP nb D P i n)),false):=by
   refine run_is _ (fun s=>∃n:Nat,n≤mxN nb D∧s=((blT i).Label,(blT i).Cap,[frameL (uL i)]++tab n (fun n=>frameL (uP nb D P i n)),false,(n:Int))) (fun s=>mxN nb D-s.2.2.2.2.toNat) ⟨0,by omega,rfl⟩ (by simp;omega) ?_
   rintro s ⟨n,hn,rfl⟩
   unfold X.cartridgeref10_Make_kp0_s116
   dsimp only
   rw[getI_tab hlt,bd_s]
   have hpl:(parJ nb D P (mxN nb D) i).length=mxN nb D:=tab_len
   rw[hpl]
   by_cases hnl:n<mxN nb D
   ·left
    have hg:getI (parJ nb D P (mxN nb D) i) (n:Int)=some (row (parN nb D P n) i):=getI_tab hnl
    have hf2:=y_frame (uP_ok (nb:=nb) (D:=D) (P:=P) (j:=i) (n:=n) hlt (by omega) (by omega))
    have hF2:X.cartridgeref10_frame (6:Int) (blT i).Label ((n+1:Nat):Int) (row (parN nb D P n) i)=some (frameL (uP nb D P i n)):=hf2
    rw[if_pos (by simp;omega),bd_s,hg,bd_s,wr_succ (by omega),hF2,bd_s,need_is (by simp[tab];omega),bd_s]
    exact ⟨_,rfl,⟨n+1,by omega,by rw[tab_succ,List.append_assoc]⟩,by dsimp only;omega⟩
   ·right
    have:n=mxN nb D:=by omega
    rw[if_neg (by simp;omega),this]
  rw[r116,bd_s]
  dsimp only
  unfold X.cartridgeref10_Make_kp0_e116
  have hpl:(parJ nb D P (mxN nb D) i).length=mxN nb D:=tab_len
  have hdl:(tab D (dT nb)).length=D:=tab_len
  have hw:wr (((tab D (dT nb)).length:Int)+(i:Int))=((D+i:Nat):Int):=by rw[hdl,wr_eq (by omega) (by omega)];omega
  have hf3:=y_frame (uS_ok (D:=D) (P:=P) (N:=mxN nb D) (j:=i) h2 h4 (by omega) (by omega))
  have hF3:X.cartridgeref10_frame (5:Int) (blT i).Label ((mxN nb D+1:Nat):Int) (encS (sealJ D P i))=some (frameL (uS D P (mxN nb D) i)):=hf3
  have hsb:X.cartridgeref10_SealBytes ⟨3,((D+i:Nat):Int),(D:Int),(P:Int),labs2 D P⟩=some (encS (sealJ D P i)):=by
   have:=y_sbytes (sealJ D P i)
   rw[if_pos (sealJ_right h1 h2 h3 h4 hlt)] at this
   exact this
  rw[getI_tab hlt,bd_s,hw,hsb,bd_s,hpl,wr_succ (by omega),hF3,bd_s,need_is (by simp[tab];omega),bd_s,need_is (by simp[tab];omega),bd_s,wr_succ (by omega)]
  exact ⟨_,rfl,⟨((D+i:Nat):Int),i+1,by omega,by rw[tab_succ];rfl⟩,by dsimp only;omega⟩
 ·right
  have:i=P:=by omega
  rw[if_neg (by simp[tab];omega),this]
theorem mk_make {nb:Nat→Nat} (hnb:∀i,nb i≤8) (hnb1:∀i,1≤nb i) {D P:Nat} (h1:1≤D) (h2:D≤6) (h3:1≤P) (h4:P≤4):
 X.cartridgeref10_Make_kp0 (tab P blT) (3:Int) (tab D (dT nb))=some (tab P (pT nb D P),0):=by
 have hm:=mx_le nb hnb D
 have hge:=mx_ge nb (i:=0) (D:=D) (by omega)
 have h0:=hnb1 0
 unfold X.cartridgeref10_Make_kp0
 have hz:(((mxN nb D:Nat):Int)==0)=false:=by simp;omega
 have hdl:(tab D (dT nb)).length=D:=tab_len
 have hpl:(tab P blT).length=P:=tab_len
 rw[y_len hnb (by omega),bd_s,hz,hdl,hpl,mk_s14 hnb (by omega),bd_s]
 dsimp only
 unfold X.cartridgeref10_Make_kp0_e14
 rw[mk_s38 (by omega) _ _ _ _ _ (by simp[labD,tab];omega),bd_s]
 dsimp only
 unfold X.cartridgeref10_Make_kp0_e38
 have hr:RSl ⟨3,0,(D:Int),(P:Int),labD D++labP P⟩:=by
  have:=sealJ_right (D:=D) (P:=P) (j:=0) h1 h2 h3 h4 (by omega)
  refine ⟨this.1,this.2.1,this.2.2.1,?_,this.2.2.2.2⟩
  show (0:Int)≤0∧(0:Int)≤(D:Int)+(P:Int)-1
  omega
 rw[y_sright,bd_s,decide_eq_true hr,if_neg (by decide),mk_s64 (by omega),bd_s]
 dsimp only
 unfold X.cartridgeref10_Make_kp0_e64
 rw[mk_s72 hnb (by omega) (by omega),bd_s]
 dsimp only
 unfold X.cartridgeref10_Make_kp0_e72
 rw[hpl,mk_parity hnb h1 h2 h3 h4,bd_s,if_neg (by simp)]
 have:=mk_tapes hnb h1 h2 h3 h4
 unfold labs2 at this
 rw[this,bd_s]
 rfl
end Go.AX
namespace Go.AX
open Go.AM
open Gf
set_option linter.unusedSimpArgs false
set_option linter.unusedVariables false
theorem pB_len {nb:Nat→Nat} {D P N j:Nat}:(pB nb D P N j).length=N+2:=by simp[pB,tab]
theorem pB_atP {nb:Nat→Nat} {D P N j n:Nat} (hn:n<N):(pB nb D P N j).getD (n+1) []=frameL (uP nb D P j n):=by
 unfold pB
 rw[List.getD_eq_getElem?_getD,List.getElem?_append_left (by simp[tab];omega),List.getElem?_append_right (by simp),List.length_singleton,Nat.add_sub_cancel,tab_get? hn]
 rfl
theorem pB_atS {nb:Nat→Nat} {D P N j:Nat}:(pB nb D P N j).getD (N+1) []=frameL (uS D P N j):=by
 unfold pB
 have hl:([frameL (uL j)]++tab N fun n=>frameL (uP nb D P j n)).length=N+1:=by simp[tab]
 rw[List.getD_eq_getElem?_getD,List.getElem?_append_right (by omega),hl,Nat.sub_self]
 rfl
theorem pB_blocks {nb:Nat→Nat} {D P N j:Nat} (h2:D≤6) (h4:P≤4) (hj:j<P) (hN:N≤8):∀b∈pB nb D P N j,b.length≤94:=by
 have hF:∀u:Unit_api,u.Load.length≤roomN u.Kind→(frameL u).length≤94:=fun u h=>by rw[frame_len h];have:=room_le u.Kind;omega
 intro b hb
 unfold pB at hb
 rcases List.mem_append.1 hb with hb|hb
 ·rcases List.mem_append.1 hb with hb|hb
  ·rw[List.mem_singleton.1 hb];exact hF _ (uL_ok (by omega)).2
  ·obtain ⟨n,hn,rfl⟩:=mem_tab.1 hb
   exact hF _ (uP_ok hj (by omega) (by omega)).2
 ·rw[List.mem_singleton.1 hb];exact hF _ (uS_ok h2 h4 (by omega) (by omega)).2
def mT (nb:Nat→Nat) (D P i:Nat):Tape_api:=if i<D then dT nb i else pT nb D P (i-D)
def gT (nb:Nat→Nat) (D P:Nat) (f:Nat→Bool) (i:Nat):Tape_api:=⟨(mT nb D P i).Label,(mT nb D P i).Cap,(mT nb D P i).Blocks,f i⟩
def grp (nb:Nat→Nat) (D P:Nat) (f:Nat→Bool):List Tape_api:=tab (D+P) (gT nb D P f)
def labN (D i:Nat):Nat:=if i<D then i+1 else 100+(i-D)
theorem gT_label {nb:Nat→Nat} {D P:Nat} {f:Nat→Bool} {i:Nat}:(gT nb D P f i).Label=((labN D i:Nat):Int):=by
 unfold gT mT labN
 split<;>rfl
theorem gT_blocks {nb:Nat→Nat} {D P:Nat} {f:Nat→Bool} {i:Nat} (hnb:∀i,nb i≤8) (h2:D≤6) (h4:P≤4) (hi:i<D+P):∀b∈(gT nb D P f i).Blocks,b.length≤100000:=by
 have hm:=mx_le nb hnb D
 intro b hb
 have hb:b∈(mT nb D P i).Blocks:=hb
 unfold mT at hb
 split at hb
 ·exact dT_blocks b hb
 ·have:=pB_blocks h2 h4 (by omega) hm b hb;omega
theorem labN_inj {D i j:Nat} (h:D≤6) (he:labN D i=labN D j):i=j:=by
 unfold labN at he
 split at he<;>split at he<;>omega
theorem labs_at {D P i:Nat} (hi:i<D+P):getI (labs2 D P) (i:Int)=some ((labN D i:Nat):Int):=by
 have hl:(labs2 D P).length=D+P:=by simp[labs2,labD,labP,tab]
 rw[getI_getD 0 (by omega)]
 congr 1
 unfold labs2 labN
 rw[List.getD_eq_getElem?_getD]
 by_cases h:i<D
 ·rw[if_pos h,List.getElem?_append_left (by simp[labD,tab];exact h)]
  unfold labD
  rw[tab_get? h]
  rfl
 ·rw[if_neg h,List.getElem?_append_right (by simp[labD,tab];omega)]
  unfold labP
  rw[show (labD D).length=D by simp[labD,tab],tab_get? (by omega)]
  rfl
theorem g_lost {nb:Nat→Nat} {D P:Nat} {f:Nat→Bool} {i:Nat} {n:Int} (h:f i=true):goodF (gT nb D P f i) n=(zeroU,false):=by
 unfold goodF
 rw[if_neg (fun hh=>by have:=hh.1;rw[show (gT nb D P f i).Lost=f i from rfl,h] at this;cases this)]
theorem g_data {nb:Nat→Nat} {D P:Nat} {f:Nat→Bool} {i k:Nat} (hnb:∀i,nb i≤8) (hf:f i=false) (hD:D≤6) (hi:i<D) (hk:k<nb i):goodF (gT nb D P f i) (k:Int)=(uD i k,true):=by
 have h8:=hnb i
 have hb:(gT nb D P f i).Blocks=tab (nb i) (bD i):=by show (mT nb D P i).Blocks=_;unfold mT;rw[if_pos hi];rfl
 refine good_at hf (by rw[hb];simp[tab];exact hk) (by rw[hb,tab_getD,if_pos hk];rfl) (uD_ok (by omega) (by omega)) ?_ rfl
 rw[gT_label]
 unfold labN
 rw[if_pos hi]
 rfl
theorem g_blocksP {nb:Nat→Nat} {D P:Nat} {f:Nat→Bool} {j:Nat}:(gT nb D P f (D+j)).Blocks=pB nb D P (mxN nb D) j:=by
 show (mT nb D P (D+j)).Blocks=_
 unfold mT
 rw[if_neg (by omega),Nat.add_sub_cancel_left]
 rfl
theorem g_labelP {nb:Nat→Nat} {D P:Nat} {f:Nat→Bool} {j:Nat}:(gT nb D P f (D+j)).Label=((100+j:Nat):Int):=by
 rw[gT_label]
 unfold labN
 rw[if_neg (by omega),Nat.add_sub_cancel_left]
theorem g_par {nb:Nat→Nat} {D P:Nat} {f:Nat→Bool} {j n:Nat} (hnb:∀i,nb i≤8) (hf:f (D+j)=false) (hP:P≤4) (hj:j<P) (hn:n<mxN nb D):goodF (gT nb D P f (D+j)) ((n+1:Nat):Int)=(uP nb D P j n,true):=by
 have hm:=mx_le nb hnb D
 exact good_at hf (by rw[g_blocksP,pB_len];omega) (by rw[g_blocksP,pB_atP hn]) (uP_ok hj (by omega) (by omega)) (by rw[g_labelP];rfl) rfl
theorem g_seal {nb:Nat→Nat} {D P:Nat} {f:Nat→Bool} {j:Nat} (hnb:∀i,nb i≤8) (hf:f (D+j)=false) (hD:D≤6) (hP:P≤4) (hj:j<P):goodF (gT nb D P f (D+j)) ((mxN nb D+1:Nat):Int)=(uS D P (mxN nb D) j,true):=by
 have hm:=mx_le nb hnb D
 exact good_at hf (by rw[g_blocksP,pB_len];omega) (by rw[g_blocksP,pB_atS]) (uS_ok hD hP (by omega) (by omega)) (by rw[g_labelP];rfl) rfl
theorem c_sealed {nb:Nat→Nat} {D P:Nat} {f:Nat→Bool} {j:Nat} (hnb:∀i,nb i≤8) (h1:1≤D) (hD:D≤6) (h3:1≤P) (hP:P≤4) (hj:j<P):
 X.volume_Sealed (gT nb D P f (D+j))=some (if f (D+j)=true then (zeroS,false) else (sealJ D P j,true)):=by
 have hm:=mx_le nb hnb D
 unfold X.volume_Sealed
 have hw:wr (((gT nb D P f (D+j)).Blocks.length:Int)-1)=((mxN nb D+1:Nat):Int):=by rw[g_blocksP,pB_len,wr_eq (by omega) (by omega)];omega
 rw[hw,c_good _ _ (gT_blocks hnb hD hP (by omega)),bd_s]
 cases hf:f (D+j)
 ·rw[g_seal hnb hf hD hP hj,if_neg (show ¬(false=true) by decide)]
  obtain ⟨r,e1,e2⟩:=x_sread (encS (sealJ D P j)) (by have:=encS_le (D:=D) (P:=P) (j:=j) hD hP;omega)
  have e3:=Rd_enc (sealJ_right h1 hD h3 hP hj) e2
  rw[if_neg (by simp[uS])]
  show (X.record_ReadSeal (encS (sealJ D P j))).bind _=_
  rw[e1,bd_s,e3]
  rfl
 ·rw[g_lost hf,if_pos rfl,if_pos (by rfl)]
  rfl
theorem y_sealed {nb:Nat→Nat} {D P:Nat} {j:Nat} (hnb:∀i,nb i≤8) (h1:1≤D) (hD:D≤6) (h3:1≤P) (hP:P≤4) (hj:j<P):
 X.cartridgeref10_Sealed (pT nb D P j)=some (sealJ D P j,true):=by
 have hm:=mx_le nb hnb D
 have hp:pT nb D P j=gT nb D P (fun _=>false) (D+j):=by
  unfold gT mT
  rw[if_neg (by omega),Nat.add_sub_cancel_left]
  rfl
 rw[hp]
 unfold X.cartridgeref10_Sealed
 have hw:wr (((gT nb D P (fun _=>false) (D+j)).Blocks.length:Int)-1)=((mxN nb D+1:Nat):Int):=by rw[g_blocksP,pB_len,wr_eq (by omega) (by omega)];omega
 rw[hw,y_good _ _ (gT_blocks hnb hD hP (by omega)),bd_s,g_seal hnb rfl hD hP hj,if_neg (by simp[uS])]
 obtain ⟨r,e1,e2⟩:=y_sread (encS (sealJ D P j))
 have e3:=Rd_enc (sealJ_right h1 hD h3 hP hj) e2
 show (X.cartridgeref10_ReadSeal (encS (sealJ D P j))).bind _=_
 rw[e1,bd_s,e3]
 rfl
theorem laid_or {sizes:List Int} {nb:Nat→Nat} (hs:∀i,i<sizes.length→wr ((1:Int)+and64 (sizes.getD i 0) 7)=((nb i:Nat):Int)) (hnb:∀i,nb i≤8) (hnb1:∀i,1≤nb i) {D P:Nat} (hl:sizes.length=D) (h1:1≤D) (h2:D≤6) (h3:1≤P) (h4:P≤4):
 X.cartridgelaw15_laid_or sizes (P:Int)=some (grp nb D P (fun _=>false),sealJ D P 0,true):=by
 subst hl
 unfold X.cartridgelaw15_laid_or
 rw[laid_data hs hnb (by omega),bd_s]
 dsimp only
 unfold X.cartridgelaw15_laid_or_e10
 rw[laid_blank (by omega),bd_s]
 dsimp only
 unfold X.cartridgelaw15_laid_or_e22
 have hl:(tab P (pT nb sizes.length P)).length=P:=tab_len
 have hl2:(tab sizes.length (dT nb)).length=sizes.length:=tab_len
 rw[mk_make hnb hnb1 h1 h2 h3 h4,bd_s,if_neg (by rw[hl];simp;omega),show (0:Int)=((0:Nat):Int) from rfl,getI_tab (by omega),bd_s,y_sealed hnb h1 h2 h3 h4 (by omega),bd_s,need_is (by rw[hl,hl2];omega),bd_s]
 have hg:tab sizes.length (dT nb)++tab P (pT nb sizes.length P)=grp nb sizes.length P (fun _=>false):=by
  unfold grp
  have he:∀i,gT nb sizes.length P (fun _=>false) i=if i<sizes.length then dT nb i else pT nb sizes.length P (i-sizes.length):=by
   intro i
   unfold gT mT
   split<;>rfl
  refine list_ext_getD ⟨0,0,[],false⟩ (by simp[tab]) (fun i hi=>?_)
  rw[List.length_append,hl,hl2] at hi
  rw[tab_getD,if_pos hi,he,List.getD_eq_getElem?_getD]
  by_cases h:i<sizes.length
  ·rw[List.getElem?_append_left (by omega),if_pos h,tab_get? h];rfl
  ·rw[List.getElem?_append_right (by omega),if_neg h,hl2,tab_get? (by omega)];rfl
 rw[hg]
end Go.AX
namespace Go.AX
open Go.AM
open Gf
set_option linter.unusedSimpArgs false
set_option linter.unusedVariables false
theorem grp_len {nb:Nat→Nat} {D P:Nat} {f:Nat→Bool}:(grp nb D P f).length=D+P:=tab_len
theorem idx_tape {nb:Nat→Nat} {D P:Nat} {f:Nat→Bool} (hD:D≤6) (hP:P≤4) {i:Nat} (hi:i<D+P) (g:Tape_api→Option Bool) (hg:∀t,g t=some (t.Label==((labN D i:Nat):Int))):
 X.slices_IndexFunc_Lapi_Tape_api_Tape (grp nb D P f) g=some (i:Int):=by
 unfold X.slices_IndexFunc_Lapi_Tape_api_Tape
 have hr:run (X.slices_IndexFunc_Lapi_Tape_api_Tape_s6 (grp nb D P f) g) (0:Int)=some (.inr (i:Int)):=by
  refine run_seE (a:=0) (n:=D+P) (fun k=>k≤i) (Nat.zero_le _) (by omega) (Nat.zero_le _) (fun k _ hk hI=>?_) (fun hI=>by omega)
  unfold X.slices_IndexFunc_Lapi_Tape_api_Tape_s6
  dsimp only
  have hgk:getI (grp nb D P f) (k:Int)=some (gT nb D P f k):=getI_tab hk
  rw[if_pos (by rw[grp_len];simp;omega),hgk,bd_s,hg,bd_s,gT_label]
  rcases Nat.lt_or_eq_of_le hI with h|rfl
  ·left
   have hne:((((labN D k:Nat):Int))==((labN D i:Nat):Int))=false:=by
    rw[beq_eq_false_iff_ne]
    intro he
    have:=labN_inj hD (Int.ofNat_inj.1 he)
    omega
   rw[hne,if_neg (by decide),wr_succ (by omega)]
   exact ⟨rfl,h⟩
  ·right
   rw[beq_self_eq_true,if_pos rfl]
 rw[hr,bd_s]
theorem c_member {nb:Nat→Nat} {D P:Nat} {f:Nat→Bool} (hD:D≤6) (hP:P≤4) {i:Nat} (hi:i<D+P):X.mend_member (grp nb D P f) ((labN D i:Nat):Int)=some (gT nb D P f i):=by
 unfold X.mend_member
 have hg:getI (grp nb D P f) (i:Int)=some (gT nb D P f i):=getI_tab hi
 rw[idx_tape hD hP hi (fun a1=>X.mend_member_c1 a1 ((labN D i:Nat):Int)) (fun t=>rfl),bd_s,if_neg (by simp),hg,bd_s]
theorem labs2_len {D P:Nat}:(labs2 D P).length=D+P:=by simp[labs2,labD,labP,tab]
theorem idx_lab {D P:Nat} (hD:D≤6) (hP:P≤4) {i:Nat} (hi:i<D+P):X.slices_Index_Lint_int (labs2 D P) ((labN D i:Nat):Int)=some (i:Int):=by
 unfold X.slices_Index_Lint_int
 have hr:run (X.slices_Index_Lint_int_s6 (labs2 D P) ((labN D i:Nat):Int)) (0:Int)=some (.inr (i:Int)):=by
  refine run_seE (a:=0) (n:=D+P) (fun k=>k≤i) (Nat.zero_le _) (by omega) (Nat.zero_le _) (fun k _ hk hI=>?_) (fun hI=>by omega)
  unfold X.slices_Index_Lint_int_s6
  dsimp only
  rw[if_pos (by rw[labs2_len];simp;omega),labs_at hk,bd_s]
  rcases Nat.lt_or_eq_of_le hI with h|rfl
  ·left
   have hne:((((labN D i:Nat):Int))==((labN D k:Nat):Int))=false:=by
    rw[beq_eq_false_iff_ne]
    intro he
    have:=labN_inj hD (Int.ofNat_inj.1 he)
    omega
   rw[hne,if_neg (by decide),wr_succ (by omega)]
   exact ⟨rfl,h⟩
  ·right
   rw[beq_self_eq_true,if_pos rfl]
 rw[hr,bd_s]
theorem c_place {D P:Nat} (h1:1≤D) (hD:D≤6) (h3:1≤P) (hP:P≤4) {i:Nat} (hi:i<D):X.mend_place (sealJ D P 0) ((labN D i:Nat):Int)=some ((i:Int),true):=by
 unfold X.mend_place
 rw[x_sright,bd_s,decide_eq_true (sealJ_right h1 hD h3 hP (by omega)),if_neg (by decide)]
 show (X.slices_Index_Lint_int (labs2 D P) _).bind _=_
 rw[idx_lab hD hP (by omega),bd_s]
 have:(decide ((i:Int)≥0)&&decide ((i:Int)<(sealJ D P 0).Data))=true:=by
  show (decide ((i:Int)≥0)&&decide ((i:Int)<(D:Int)))=true
  simp
  omega
 rw[this]
theorem c_rows {nb:Nat→Nat} {D P:Nat} {f:Nat→Bool} (hnb:∀i,nb i≤8) (h1:1≤D) (hD:D≤6) (h3:1≤P) (hP:P≤4) {q:Nat} (hq:q<P) (hf:f (D+q)=false):
 X.mend_rows (grp nb D P f) (sealJ D P 0)=some (((mxN nb D:Nat):Int),true):=by
 have hm:=mx_le nb hnb D
 unfold X.mend_rows
 have hll:(sealJ D P 0).Labels.length=D+P:=labs2_len
 have hsl:slc (sealJ D P 0).Labels (sealJ D P 0).Data ((sealJ D P 0).Labels.length:Int)=labP P:=by
  rw[hll]
  show slc (labs2 D P) (D:Int) ((D+P:Nat):Int)=_
  rw[slc_nn]
  unfold labs2
  have:(labD D).length=D:=by simp[labD,tab]
  rw[List.drop_append_of_le_length (by omega),List.drop_eq_nil_of_le (by omega),List.nil_append,List.take_of_length_le (by simp[labP,tab])]
 have hpl:(labP P).length=P:=tab_len
 rw[need_is (by rw[hll];show (0:Int)≤(D:Int)∧(D:Int)≤((D+P:Nat):Int)∧_;omega),bd_s]
 have hr:run (X.mend_rows_s7 (sealJ D P 0) (grp nb D P f)) (0:Int)=some (.inr (((mxN nb D:Nat):Int),true)):=by
  refine run_seE (a:=0) (n:=P) (fun k=>k≤q) (Nat.zero_le _) (by omega) (Nat.zero_le _) (fun k _ hk hI=>?_) (fun hI=>by omega)
  unfold X.mend_rows_s7
  dsimp only
  have hgl:getI (labP P) (k:Int)=some ((labN D (D+k):Nat):Int):=by
   have:labN D (D+k)=100+k:=by unfold labN;rw[if_neg (by omega),Nat.add_sub_cancel_left]
   rw[this]
   exact getI_tab hk
  rw[hsl,hpl,if_pos (by simp;omega),hgl,bd_s,c_member hD hP (by omega),bd_s,c_sealed hnb h1 hD h3 hP hk,bd_s]
  cases hfk:f (D+k)
  ·right
   rw[if_neg (show ¬(false=true) by decide),if_pos rfl,g_blocksP,pB_len]
   have:wr (((mxN nb D+2:Nat):Int)-2)=((mxN nb D:Nat):Int):=by rw[wr_eq (by omega) (by omega)];omega
   rw[this]
   have h0:decide (((mxN nb D:Nat):Int)≥0)=true:=by simp
   rw[h0]
  ·left
   have hne:k≠q:=fun he=>by rw[he,hf] at hfk;cases hfk
   rw[if_pos rfl,if_neg (by decide),wr_succ (by omega)]
   exact ⟨rfl,by omega⟩
 rw[hr,bd_s]
def rwF (nb:Nat→Nat) (D P:Nat) (f:Nat→Bool) (n i:Nat):List UInt8:=if f i=true then [] else if i<D then blkR nb n i else row (parN nb D P n) (i-D)
theorem c_row {nb:Nat→Nat} {D P:Nat} {f:Nat→Bool} (hnb:∀i,nb i≤8) (h1:1≤D) (hD:D≤6) (h3:1≤P) (hP:P≤4) {n:Nat} (hn:n<mxN nb D):
 X.mend_row (grp nb D P f) (sealJ D P 0) (n:Int)=some (tab (D+P) (rwF nb D P f n)):=by
 have hm:=mx_le nb hnb D
 unfold X.mend_row
 have hll:(sealJ D P 0).Labels.length=D+P:=labs2_len
 have hr:run (X.mend_row_s9 (sealJ D P 0) (grp nb D P f) (n:Int)) (([]:List (List UInt8)),(0:Int))=some (tab (D+P) (rwF nb D P f n)):=by
  refine run_G0 (n:=D+P) (fun i=>tab i (rwF nb D P f n)) (by omega) rfl (fun i hi=>?_) ?_
  ·show X.mend_row_s9 _ _ _ (tab i (rwF nb D P f n),(i:Int))=some (.inl (tab (i+1) (rwF nb D P f n),_))
   unfold X.mend_row_s9
   dsimp only
   have hlab:getI (sealJ D P 0).Labels (i:Int)=some ((labN D i:Nat):Int):=labs_at hi
   rw[if_pos (by rw[hll];simp;omega),hlab,bd_s,c_member hD hP hi,bd_s]
   have hbl:=gT_blocks (f:=f) hnb hD hP hi
   by_cases h:i<D
   ·have h8:=hnb i
    rw[if_pos (by show decide ((i:Int)<(D:Int))=true;simp;omega)]
    have hd:X.mend_ofData (gT nb D P f i) (n:Int)=some (rwF nb D P f n i):=by
     have hbs:(gT nb D P f i).Blocks=tab (nb i) (bD i):=by show (mT nb D P i).Blocks=_;unfold mT;rw[if_pos h];rfl
     have hb2:((gT nb D P f i).Blocks.length:Int)=((nb i:Nat):Int):=by rw[hbs];simp[tab]
     have hL:(gT nb D P f i).Lost=f i:=rfl
     unfold X.mend_ofData rwF
     rw[hL,hb2]
     cases hfi:f i
     ·rw[if_neg (show ¬(false=true) by decide),if_pos h]
      unfold blkR
      by_cases hk:n<nb i
      ·have hg:getI (gT nb D P f i).Blocks (n:Int)=some (bD i n):=by rw[hbs];exact getI_tab hk
       rw[if_pos hk,if_neg (by simp;omega),c_good _ _ hbl,bd_s,g_data hnb hfi hD h hk,Bool.not_true,Bool.not_false,opt_t,hg,bd_s,bD_len,if_neg (by decide),bd_s]
      ·rw[if_neg hk,if_pos (by simp;omega),need_is (by omega),bd_s]
       rfl
     ·rw[if_pos rfl,if_neg (by simp),c_good _ _ hbl,bd_s,g_lost hfi,Bool.not_false,Bool.not_true,opt_f,bd_s,Bool.true_or,if_pos rfl]
    rw[hd,bd_s,need_is (by simp[tab];omega),bd_s,wr_succ (by omega),tab_succ]
   ·obtain ⟨j,rfl⟩:∃j,i=D+j:=⟨i-D,by omega⟩
    rw[if_neg (by show ¬(decide (((D+j:Nat):Int)<(D:Int))=true);simp;omega)]
    have hd:X.mend_ofParity (gT nb D P f (D+j)) (n:Int)=some (rwF nb D P f n (D+j)):=by
     unfold X.mend_ofParity rwF
     rw[wr_succ (by omega),c_good _ _ hbl,bd_s]
     cases hfi:f (D+j)
     ·rw[g_par hnb hfi hP (by omega) hn,if_neg (show ¬(false=true) by decide),if_neg h,Nat.add_sub_cancel_left]
      have hl:=parN_row (nb:=nb) (D:=D) (P:=P) (n:=n) (j:=j) (by omega)
      have hl2:(uP nb D P j n).Load.length=79:=hl
      rw[if_neg (by rw[hl2];simp[uP])]
      rfl
     ·rw[g_lost hfi,if_pos rfl,if_pos (by rfl)]
    rw[hd,bd_s,need_is (by simp[tab];omega),bd_s,wr_succ (by omega),tab_succ]
  ·unfold X.mend_row_s9
   dsimp only
   rw[if_neg (by rw[hll];simp)]
 rw[hr,bd_s]
 rfl
theorem c_decode {nb:Nat→Nat} {D P:Nat} {f:Nat→Bool} (h1:1≤D) (hD:D≤6) (h3:1≤P) (hP:P≤4) {n:Nat}:
 X.erasure_Decode (tab (D+P) (rwF nb D P f n)) (D:Int)=some (if cnt (D+P) (fun i=> !f i)=0 then ([],1) else if cnt (D+P) (fun i=> !f i)<D then ([],10) else (rowD nb D n,0)):=by
 have hrl:(rowD nb D n).length=D:=tab_len
 have hpl:(parN nb D P n).length=P:=parN_len
 have hh:(rowD nb D n++parN nb D P n).length=D+P:=by rw[List.length_append,hrl,hpl]
 have hrow1:∀i,i<D→row (rowD nb D n++parN nb D P n) i=blkR nb n i:=by
  intro i hi
  unfold row
  rw[List.getD_eq_getElem?_getD,List.getElem?_append_left (by omega)]
  unfold rowD
  rw[tab_get? hi]
  rfl
 have hrow2:∀i,D≤i→row (rowD nb D n++parN nb D P n) i=row (parN nb D P n) (i-D):=by
  intro i hi
  unfold row
  rw[List.getD_eq_getElem?_getD,List.getElem?_append_right (by omega),hrl,←List.getD_eq_getElem?_getD]
 have hleft:tab (D+P) (rwF nb D P f n)=left (rowD nb D n++parN nb D P n) (fun i=> !f i):=by
  unfold left
  rw[hh]
  refine tab_congr fun i hi=>?_
  show rwF nb D P f n i=if (!f i)=true then row (rowD nb D n++parN nb D P n) i else []
  unfold rwF
  cases hf:f i
  ·rw[if_neg (show ¬(false=true) by decide),if_pos (show (!false)=true from rfl)]
   by_cases h:i<D
   ·rw[if_pos h,hrow1 i h]
   ·rw[if_neg h,hrow2 i (by omega)]
  ·rfl
 have hw:Wide (rowD nb D n++parN nb D P n) 79:=by
  intro r hr
  rcases List.mem_append.1 hr with hr|hr
  ·exact rowD_wide r hr
  ·exact reck_wide r hr
 have hd:=dec_back (l:=rowD nb D n) (h0:=rowD nb D n++parN nb D P n) (ps:=fun i=> !f i) (w:=79) (n:=D+P) (by omega) hh (by omega) (by omega) hw (by omega) rowD_wide (fun i c hi hc=>by
  rw[hrl]
  by_cases h:i<D
  ·rw[hrow1 i h,row_gen1 h]
   refine Eq.symm (Eq.trans (S_congr (g:=fun j=>if j=i then e (row (rowD nb D n) j) c else 0) fun j hj=>?_) (by rw[S_one,if_pos h];congr 1;exact row_tab h))
   rw[e_unit hj]
   by_cases hji:j=i
   ·rw[if_pos hji,if_pos hji,one_gm]
   ·rw[if_neg hji,if_neg hji,zero_gm]
  ·rw[hrow2 i (by omega),row_gen2 (by omega),show D+P-D=P by omega]
   unfold parN
   rw[e_reck (by rw[cau_len];omega) hc,hrl])
 have hlen:(tab (D+P) (rwF nb D P f n)).length=D+P:=tab_len
 rw[x_Decode _ _ (by rw[hlen];omega) (fun r hr=>by
  obtain ⟨i,hi,rfl⟩:=mem_tab.1 hr
  unfold rwF
  split
  ·simp
  ·split
   ·rw[blkR_len];omega
   ·rw[parN_row (by omega)];omega),hleft]
 rw[hrl] at hd
 rw[hd]
end Go.AX
namespace Go.AX
open Go.AM
open Gf
set_option linter.unusedSimpArgs false
set_option linter.unusedVariables false
theorem c_clone {b:List UInt8} (hb:b.length≤100000):X.slices_Clone_Lbyte_byte b=some b:=x_Clone b (by omega)
theorem c_block {nb:Nat→Nat} {D P:Nat} {f:Nat→Bool} (hnb:∀i,nb i≤8) (h1:1≤D) (hD:D≤6) (h3:1≤P) (hP:P≤4) {q:Nat} (hq:q<P) (hf:f (D+q)=false) (hc0:cnt (D+P) (fun i=> !f i)≠0) {i n:Nat} (hi:i<D) (hn:n<mxN nb D):
 X.mend_Block (grp nb D P f) (sealJ D P 0) ((labN D i:Nat):Int) (n:Int)=some (if cnt (D+P) (fun i=> !f i)<D then ([],10) else (blkR nb n i,0)):=by
 have hm:=mx_le nb hnb D
 unfold X.mend_Block
 rw[c_place h1 hD h3 hP hi,bd_s,if_neg (by simp),c_rows hnb h1 hD h3 hP hq hf,bd_s,if_neg (by simp),if_neg (by simp;omega),c_row hnb h1 hD h3 hP hn,bd_s]
 show (X.erasure_Decode _ (D:Int)).bind _=_
 rw[c_decode h1 hD h3 hP,bd_s,if_neg hc0]
 by_cases hc:cnt (D+P) (fun i=> !f i)<D
 ·rw[if_pos hc,if_pos hc,if_pos (by decide)]
 ·have hg:getI (rowD nb D n) (i:Int)=some (blkR nb n i):=getI_tab hi
  rw[if_neg hc,if_neg hc,if_neg (by simp),hg,bd_s,c_clone (by rw[blkR_len];omega),bd_s]
theorem c_empty (b:List UInt8) (hb:b.length≤1000000):X.mend_empty b=some (b.all (·==0)):=by
 unfold X.mend_empty X.slices_ContainsFunc_Lbyte_byte X.slices_IndexFunc_Lbyte_byte
 obtain ⟨r,h1,h2⟩:=run_se (f:=X.slices_IndexFunc_Lbyte_byte_s6 b (fun a1=>X.mend_empty_c1 a1)) (a:=0) (n:=b.length)
  (fun r=>(match r with| .inl _=>b.all (·==0)=true| .inr x=>0≤x∧b.all (·==0)=false))
  (fun k=>(b.take k).all (·==0)=true) (Nat.zero_le _) (by omega) rfl (fun k _ hk hI=>by
    unfold X.slices_IndexFunc_Lbyte_byte_s6 X.mend_empty_c1
    dsimp only
    rw[if_pos (by simp;omega),getI_nat hk,bd_s,bd_s]
    by_cases h0:b[k]=0
    ·left
     rw[if_neg (by simp[h0]),wr_succ (by omega)]
     refine ⟨rfl,?_⟩
     rw[List.take_add_one,List.getElem?_eq_getElem hk,List.all_append,hI]
     simp[h0]
    ·right
     rw[if_pos (by simp[h0])]
     refine ⟨_,rfl,by omega,?_⟩
     rw[List.all_eq_false]
     exact ⟨_,List.getElem_mem hk,by simp[h0]⟩) (fun hI=>by
    unfold X.slices_IndexFunc_Lbyte_byte_s6
    dsimp only
    rw[if_neg (by simp)]
    refine ⟨_,rfl,?_⟩
    rw[List.take_length] at hI
    exact hI)
 rw[show ((0:Nat):Int)=0 from rfl] at h1
 rw[h1,bd_s]
 cases r with
 |inl u=>
  dsimp only at h2 ⊢
  unfold X.slices_IndexFunc_Lbyte_byte_e6
  rw[bd_s,bd_s,h2]
  rfl
 |inr x=>
  dsimp only at h2 ⊢
  rw[bd_s,bd_s,h2.2]
  have:decide (x≥0)=true:=by simp;exact h2.1
  rw[this]
  rfl
theorem c_trim (a c:Int) (d:Bool) (l:List (List UInt8)) (hl:l.length≤100000) (hb:∀b∈l,b.length≤100000):∃l',run X.mend_Tape_s49 (a,c,l,d)=some (a,c,l',d)∧∃m,m≤l.length∧l'=l.take m∧(∀k,m≤k→k<l.length→(l.getD k []).all (·==0)=true)∧(m=0∨(l.getD (m-1) []).all (·==0)=false):=by
 obtain ⟨r,h1,h2⟩:=run_inv (f:=X.mend_Tape_s49) (fun s=>∃m,m≤l.length∧s=(a,c,l.take m,d)∧∀k,m≤k→k<l.length→(l.getD k []).all (·==0)=true)
  (fun r=>∃m,m≤l.length∧r=(a,c,l.take m,d)∧(∀k,m≤k→k<l.length→(l.getD k []).all (·==0)=true)∧(m=0∨(l.getD (m-1) []).all (·==0)=false))
  (fun s=>s.2.2.1.length) (s:=(a,c,l,d)) ⟨l.length,Nat.le_refl _,by rw[List.take_length],fun k h1 h2=>by omega⟩ (by dsimp only;omega) (by
    rintro s ⟨m,hm,rfl,hz⟩
    unfold X.mend_Tape_s49
    dsimp only
    have hlm:(l.take m).length=m:=by rw[List.length_take];omega
    rw[hlm]
    by_cases h0:0<m
    ·have hd:decide ((m:Int)>0)=true:=by simp;omega
     have hw:wr ((m:Int)-1)=((m-1:Nat):Int):=by rw[wr_eq (by omega) (by omega)];omega
     have hg:getI (l.take m) ((m-1:Nat):Int)=some (l.getD (m-1) []):=by
      rw[getI_getD [] (by omega)]
      congr 1
      rw[List.getD_eq_getElem?_getD,List.getD_eq_getElem?_getD,List.getElem?_take,if_pos (by omega)]
     have hbl:(l.getD (m-1) []).length≤100000:=hb _ (by rw[List.getD_eq_getElem?_getD,List.getElem?_eq_getElem (by omega)];exact List.getElem_mem _)
     rw[hd,opt_t,hw,hg,bd_s,opt_t,c_empty _ (by omega),bd_s,Bool.true_and]
     cases he:(l.getD (m-1) []).all (·==0)
     ·right
      rw[if_neg (by decide)]
      exact ⟨_,rfl,m,hm,rfl,hz,.inr he⟩
     ·left
      rw[if_pos rfl,need_is (by omega),bd_s,slc_0n,List.take_take,Nat.min_eq_left (by omega)]
      refine ⟨_,rfl,⟨m-1,by omega,rfl,fun k k1 k2=>?_⟩,by simp only[List.length_take];omega⟩
      rcases Nat.lt_or_eq_of_le k1 with h|rfl
      ·exact hz k (by omega) k2
      ·exact he
    ·right
     have hm0:m=0:=by omega
     subst hm0
     rw[show decide (((0:Nat):Int)>0)=false from rfl,opt_f,bd_s,opt_f,bd_s,Bool.false_and,if_neg (by decide)]
     exact ⟨_,rfl,0,hm,rfl,hz,.inl rfl⟩)
 obtain ⟨m,hm,rfl,hz,he⟩:=h2
 exact ⟨_,h1,m,hm,rfl,hz,he⟩
theorem c_tape_err {nb:Nat→Nat} {D P:Nat} {f:Nat→Bool} (hnb:∀i,nb i≤8) (hnb1:∀i,1≤nb i) (h1:1≤D) (hD:D≤6) (h3:1≤P) (hP:P≤4) {q:Nat} (hq:q<P) (hf:f (D+q)=false) (hc0:cnt (D+P) (fun i=> !f i)≠0) {i:Nat} (hi:i<D):
 ∃t,X.mend_Tape (grp nb D P f) (sealJ D P 0) ((labN D i:Nat):Int)=some (t,if cnt (D+P) (fun i=> !f i)<D then 10 else 0):=by
 have hm:=mx_le nb hnb D
 have hge:=mx_ge nb (i:=0) (D:=D) (by omega)
 have h0:=hnb1 0
 unfold X.mend_Tape
 have hg:getI (grp nb D P f) (i:Int)=some (gT nb D P f i):=getI_tab (by omega)
 rw[c_place h1 hD h3 hP hi,bd_s,if_neg (by simp),c_rows hnb h1 hD h3 hP hq hf,bd_s,if_neg (by simp),idx_tape hD hP (by omega) (fun a1=>X.mend_Tape_c1 a1 ((labN D i:Nat):Int)) (fun t=>rfl),bd_s,if_pos (by simp),hg,bd_s]
 unfold X.mend_Tape_j22
 have hB:=fun n hn=>c_block (n:=n) hnb h1 hD h3 hP hq hf hc0 hi hn
 by_cases hc:cnt (D+P) (fun i=> !f i)<D
 ·have hr:run (X.mend_Tape_s30 (((mxN nb D:Nat):Int),true) (grp nb D P f) (sealJ D P 0) ((labN D i:Nat):Int)) (((labN D i:Nat):Int),(gT nb D P f i).Cap,([]:List (List UInt8)),false,(0:Int))=some (.inr (⟨0,0,[],false⟩,10)):=by
   refine run_few 1 (by omega) ?_
   simp only[iter]
   unfold X.mend_Tape_s30
   dsimp only
   have hb0:=hB 0 (by omega)
   rw[if_pos hc] at hb0
   rw[if_pos (by simp;omega),show (0:Int)=((0:Nat):Int) from rfl,hb0,bd_s,if_pos (by decide)]
  rw[hr,bd_s,if_pos hc]
  exact ⟨_,rfl⟩
 ·have hr:run (X.mend_Tape_s30 (((mxN nb D:Nat):Int),true) (grp nb D P f) (sealJ D P 0) ((labN D i:Nat):Int)) (((labN D i:Nat):Int),(gT nb D P f i).Cap,([]:List (List UInt8)),false,(0:Int))=some (.inl (((labN D i:Nat):Int),(gT nb D P f i).Cap,tab (mxN nb D) (fun n=>blkR nb n i),false)):=by
   refine run_is _ (fun s=>∃n:Nat,n≤mxN nb D∧s=(((labN D i:Nat):Int),(gT nb D P f i).Cap,tab n (fun n=>blkR nb n i),false,(n:Int))) (fun s=>mxN nb D-s.2.2.2.2.toNat) ⟨0,by omega,rfl⟩ (by simp;omega) ?_
   rintro s ⟨n,hn,rfl⟩
   unfold X.mend_Tape_s30
   dsimp only
   by_cases hlt:n<mxN nb D
   ·left
    have hbn:=hB n hlt
    rw[if_neg hc] at hbn
    rw[if_pos (by simp;omega),hbn,bd_s,if_neg (by simp),need_is (by simp[tab];omega),bd_s,wr_succ (by omega)]
    exact ⟨_,rfl,⟨n+1,by omega,by rw[tab_succ]⟩,by dsimp only;omega⟩
   ·right
    have:n=mxN nb D:=by omega
    rw[if_neg (by simp;omega),this]
  rw[hr,bd_s,if_neg hc]
  dsimp only
  unfold X.mend_Tape_e30
  obtain ⟨l',e1,_⟩:=c_trim ((labN D i:Nat):Int) (gT nb D P f i).Cap false (tab (mxN nb D) (fun n=>blkR nb n i)) (by simp[tab];omega) (fun b hb=>by
   obtain ⟨n,_,rfl⟩:=mem_tab.1 hb
   rw[blkR_len];omega)
  rw[e1,bd_s]
  exact ⟨_,rfl⟩
theorem cnt_lost {D P lost:Nat} (hl:lost≤D+P):∀n,n≤D+P→cnt n (fun i=> !decide (i<lost))=n-lost
 |0,_=>by simp[cnt]
 |n+1,h=>by
  rw[cnt_succ,cnt_lost hl n (by omega)]
  by_cases hn:n<lost
  ·rw[if_neg (by simp;omega)];omega
  ·rw[if_pos (by simp;omega)];omega
set_option maxRecDepth 100000 in
theorem alive15:X.cartridgelaw15_alive=some true:=by decide+kernel
theorem mend_many (data parity lost:Int):X.cartridgelaw15_MendMany data parity lost=some true:=by
 unfold X.cartridgelaw15_MendMany
 rw[alive15,bd_s]
 split
 ·rfl
 rename_i hc
 simp only[Bool.not_true,Bool.false_or,Bool.or_eq_true,decide_eq_true_eq] at hc
 obtain ⟨D,rfl⟩:∃D:Nat,data=(D:Int):=⟨data.toNat,by omega⟩
 obtain ⟨P,rfl⟩:∃P:Nat,parity=(P:Int):=⟨parity.toNat,by omega⟩
 obtain ⟨L,rfl⟩:∃L:Nat,lost=(L:Int):=⟨lost.toNat,by omega⟩
 have h1:1≤D:=by omega
 have hD:D≤6:=by omega
 have h3:1≤P:=by omega
 have hP:P≤4:=by omega
 have hL:L≤D:=by omega
 clear hc
 have hl:=laid_or (sizes:=List.replicate D (0:Int)) (nb:=fun _=>1) (D:=D) (P:=P) (fun i hi=>by
  have:(List.replicate D (0:Int)).getD i 0=0:=by
   rw[List.getD_eq_getElem?_getD,List.getElem?_replicate]
   split<;>rfl
  rw[this]
  decide) (fun _=>by omega) (fun _=>by omega) (by simp) h1 hD h3 hP
 rw[need_is (by omega),bd_s,Int.toNat_natCast,hl,bd_s,if_neg (by simp)]
 have hr:run (X.cartridgelaw15_MendMany_s20 (L:Int)) (grp (fun _=>1) D P (fun _=>false),(0:Int))=some (grp (fun _=>1) D P (fun i=>decide (i<L))):=by
  refine run_G0 (n:=L) (fun k=>grp (fun _=>1) D P (fun i=>decide (i<k))) (by omega) (by simp) (fun k hk=>?_) ?_
  ·unfold X.cartridgelaw15_MendMany_s20
   dsimp only
   have hg:getI (grp (fun _=>1) D P (fun i=>decide (i<k))) (k:Int)=some (gT (fun _=>1) D P (fun i=>decide (i<k)) k):=getI_tab (by omega)
   rw[if_pos (by simp;omega),hg,bd_s,Int.toNat_natCast,wr_succ (by omega)]
   congr 3
   unfold grp
   rw[tab_set]
   refine tab_congr fun j hj=>?_
   by_cases hjk:j=k
   ·subst hjk
    rw[if_pos rfl]
    unfold gT
    dsimp only
    have:decide (j<j+1)=true:=by simp
    rw[this]
   ·rw[if_neg hjk]
    unfold gT
    dsimp only
    have:decide (j<k)=decide (j<k+1):=by
     rw[decide_eq_decide];omega
    rw[this]
  ·unfold X.cartridgelaw15_MendMany_s20
   dsimp only
   rw[if_neg (by simp)]
 rw[hr,bd_s]
 dsimp only
 unfold X.cartridgelaw15_MendMany_e20
 have hcn:=cnt_lost (D:=D) (P:=P) (lost:=L) (by omega) (D+P) (Nat.le_refl _)
 have hf:(fun i=>decide (i<L)) (D+0)=false:=by simp;omega
 have hc0:cnt (D+P) (fun i=> !(fun i=>decide (i<L)) i)≠0:=by
  show cnt (D+P) (fun i=> !decide (i<L))≠0
  rw[hcn];omega
 have hm1:mxN (fun _=>1) D=1:=by
  have:=mx_ge (fun _=>1) (i:=0) (D:=D) (by omega)
  have:=mx_le (fun _=>1) (M:=1) (fun _=>by omega) D
  omega
 have hb:=c_block (nb:=fun _=>1) (f:=fun i=>decide (i<L)) (q:=0) (i:=0) (n:=0) (fun _=>by omega) h1 hD h3 hP (by omega) hf hc0 (by omega) (by rw[hm1];omega)
 have hlab0:((labN D 0:Nat):Int)=1:=by unfold labN;rw[if_pos (by omega)];rfl
 rw[hlab0,show ((0:Nat):Int)=0 from rfl] at hb
 obtain ⟨t,ht⟩:=c_tape_err (nb:=fun _=>1) (f:=fun i=>decide (i<L)) (q:=0) (i:=D-1) (fun _=>by omega) (fun _=>by omega) h1 hD h3 hP (by omega) hf hc0 (by omega)
 have hlabD:((labN D (D-1):Nat):Int)=(D:Int):=by unfold labN;rw[if_pos (by omega)];omega
 rw[hlabD] at ht
 have hcn:cnt (D+P) (fun i=> !(fun i=>decide (i<L)) i)=D+P-L:=hcn
 rw[hcn] at hb ht
 rw[hb,bd_s,ht,bd_s]
 unfold X.cartridgelaw15_num
 by_cases hle:L≤P
 ·rw[if_pos (by simp;omega),if_neg (by omega),if_neg (by omega)]
  rfl
 ·rw[if_neg (by simp;omega),if_pos (by omega),if_pos (by omega)]
  rfl
end Go.AX
