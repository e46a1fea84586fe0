import Derived.Test.YtndjbcnpgggddaaXFn
import Derived.Test.YtndjbcnpgggddaaLibC
import Derived.Laws.RangeAny
import Derived.Laws.RangeString
set_option linter.unusedVariables false
set_option linter.unusedSimpArgs false
namespace Go.AX
theorem iter_more {σ ρ:Type} {f:σ→Option (σ ⊕ ρ)}:∀{n:Nat} {s:σ} {r:ρ} (k:Nat),iter f n s=some r→iter f (n+k) s=some r
 |0,_,_,_,h=>by simp[iter] at h
 |n+1,s,r,k,h=>by
  rw[Nat.add_right_comm]
  simp only[iter] at h ⊢
  cases hs:f s with
  |none=>rw[hs] at h;cases h
  |some q=>
   rw[hs] at h
   cases q with
   |inl s'=>exact iter_more k h
   |inr r'=>exact h
theorem run_few {σ ρ:Type} {f:σ→Option (σ ⊕ ρ)} {s:σ} {r:ρ} (n:Nat) (hn:n≤1000000) (h:iter f n s=some r):run f s=some r:=by
 unfold run
 rw[FUEL_eq,show (4611686018427387904:Nat)=n+(4611686018427387904-n) from by omega]
 exact iter_more _ h
theorem run_ix {σ ρ:Type} {f:σ×Int→Option ((σ×Int) ⊕ ρ)} {s0:σ} {a n:Nat} (I:Nat→σ→Prop) (R:ρ→Prop) (han:a≤n) (hn:n≤4000000000000000000) (h0:I a s0)
 (step:∀i s,a≤i→i<n→I i s→(∃s',f (s,(i:Int))=some (.inl (s',((i+1:Nat):Int)))∧I (i+1) s')∨∃r,f (s,(i:Int))=some (.inr r)∧R r)
 (fin:∀s,I n s→∃r,f (s,(n:Int))=some (.inr r)∧R r):∃r,run f (s0,(a:Int))=some r∧R r:=by
 refine run_inv (fun p=>∃i:Nat,p.2=(i:Int)∧a≤i∧i≤n∧I i p.1) R (fun p=>n-p.2.toNat) ⟨a,rfl,Nat.le_refl _,han,h0⟩ (by simp only;omega) ?_
 rintro ⟨s,x⟩ ⟨i,rfl,hai,hin,hI⟩
 rcases Nat.lt_or_ge i n with hlt|hge
 ·rcases step i s hai hlt hI with ⟨s',h1,h2⟩|h
  ·exact .inl ⟨_,h1,⟨i+1,rfl,by omega,by omega,h2⟩,by simp only;omega⟩
  ·exact .inr h
 ·have:i=n:=by omega
  subst this
  exact .inr (fin s hI)
theorem run_G {σ ρ:Type} {f:σ×Int→Option ((σ×Int) ⊕ ρ)} (G:Nat→σ) {s0:σ} {a n:Nat} {r:ρ} (han:a≤n) (hn:n≤4000000000000000000) (h0:s0=G a)
 (step:∀i,a≤i→i<n→f (G i,(i:Int))=some (.inl (G (i+1),((i+1:Nat):Int)))) (fin:f (G n,(n:Int))=some (.inr r)):run f (s0,(a:Int))=some r:=by
 obtain ⟨r',h1,h2⟩:=run_ix (f:=f) (s0:=s0) (a:=a) (n:=n) (fun i s=>s=G i) (fun x=>x=r) han hn h0 (fun i s hi hlt e=> .inl ⟨_,by rw[e];exact step i hi hlt,rfl⟩) (fun s e=>⟨r,by rw[e];exact fin,rfl⟩)
 rw[h1,h2]
theorem run_G0 {σ ρ:Type} {f:σ×Int→Option ((σ×Int) ⊕ ρ)} (G:Nat→σ) {s0:σ} {n:Nat} {r:ρ} (hn:n≤4000000000000000000) (h0:s0=G 0)
 (step:∀i,i<n→f (G i,(i:Int))=some (.inl (G (i+1),((i+1:Nat):Int)))) (fin:f (G n,(n:Int))=some (.inr r)):run f (s0,(0:Int))=some r:=
 run_G (a:=0) G (Nat.zero_le _) hn h0 (fun i _ h=>step i h) fin
theorem run_ix0 {σ ρ:Type} {f:σ×Int→Option ((σ×Int) ⊕ ρ)} {s0:σ} {n:Nat} (I:Nat→σ→Prop) (R:ρ→Prop) (hn:n≤4000000000000000000) (h0:I 0 s0)
 (step:∀i s,i<n→I i s→(∃s',f (s,(i:Int))=some (.inl (s',((i+1:Nat):Int)))∧I (i+1) s')∨∃r,f (s,(i:Int))=some (.inr r)∧R r)
 (fin:∀s,I n s→∃r,f (s,(n:Int))=some (.inr r)∧R r):∃r,run f (s0,(0:Int))=some r∧R r:=
 run_ix (a:=0) I R (Nat.zero_le _) hn h0 (fun i s _ h k=>step i s h k) fin
theorem run_se {ρ:Type} {f:Int→Option (Int ⊕ ρ)} {a n:Nat} (R:ρ→Prop) (I:Nat→Prop) (han:a≤n) (hn:n≤4000000000000000000) (h0:I a)
 (step:∀i,a≤i→i<n→I i→(f (i:Int)=some (.inl ((i+1:Nat):Int))∧I (i+1))∨∃r,f (i:Int)=some (.inr r)∧R r)
 (fin:I n→∃r,f (n:Int)=some (.inr r)∧R r):∃r,run f (a:Int)=some r∧R r:=by
 refine run_inv (fun x=>∃i:Nat,x=(i:Int)∧a≤i∧i≤n∧I i) R (fun x=>n-x.toNat) ⟨a,rfl,Nat.le_refl _,han,h0⟩ (by omega) ?_
 rintro x ⟨i,rfl,hai,hin,hI⟩
 rcases Nat.lt_or_ge i n with hlt|hge
 ·rcases step i hai hlt hI with ⟨h1,h2⟩|h
  ·exact .inl ⟨_,h1,⟨i+1,rfl,by omega,by omega,h2⟩,by omega⟩
  ·exact .inr h
 ·have:i=n:=by omega
  subst this
  exact .inr (fin hI)
theorem run_seE {ρ:Type} {f:Int→Option (Int ⊕ ρ)} {a n:Nat} {r:ρ} (I:Nat→Prop) (han:a≤n) (hn:n≤4000000000000000000) (h0:I a)
 (step:∀i,a≤i→i<n→I i→(f (i:Int)=some (.inl ((i+1:Nat):Int))∧I (i+1))∨f (i:Int)=some (.inr r))
 (fin:I n→f (n:Int)=some (.inr r)):run f (a:Int)=some r:=by
 obtain ⟨r',h1,h2⟩:=run_se (f:=f) (fun x=>x=r) I han hn h0 (fun i h1 h2 h3=>(step i h1 h2 h3).imp id fun h=>⟨r,h,rfl⟩) (fun h=>⟨r,fin h,rfl⟩)
 rw[h1,h2]
theorem run_ixE {σ ρ:Type} {f:σ×Int→Option ((σ×Int) ⊕ ρ)} {s0:σ} {n:Nat} {r:ρ} (I:Nat→σ→Prop) (hn:n≤4000000000000000000) (h0:I 0 s0)
 (step:∀i s,i<n→I i s→(∃s',f (s,(i:Int))=some (.inl (s',((i+1:Nat):Int)))∧I (i+1) s')∨f (s,(i:Int))=some (.inr r))
 (fin:∀s,I n s→f (s,(n:Int))=some (.inr r)):run f (s0,(0:Int))=some r:=by
 obtain ⟨r',h1,h2⟩:=run_ix0 (f:=f) (s0:=s0) I (fun x=>x=r) hn h0 (fun i s h1 h2=>(step i s h1 h2).imp id fun h=>⟨r,h,rfl⟩) (fun s h=>⟨r,fin s h,rfl⟩)
 rw[h1,h2]
def tab {α:Type} (n:Nat) (g:Nat→α):List α:=(List.range n).map g
section
variable {α:Type} {n:Nat} {g g':Nat→α}
@[simp] theorem tab_len:(tab n g).length=n:=by simp[tab]
theorem tab_get {i:Nat} (h:i<(tab n g).length):(tab n g)[i]=g i:=by simp[tab]
theorem tab_get? {i:Nat} (h:i<n):(tab n g)[i]? =some (g i):=by simp[tab,h]
theorem tab_congr (h:∀i,i<n→g i=g' i):tab n g=tab n g':=by
 unfold tab
 exact List.map_congr_left fun i hi=>h i (List.mem_range.1 hi)
theorem tab_set {i:Nat} {y:α}:(tab n g).set i y=tab n (fun j=>if j=i then y else g j):=by
 apply List.ext_getElem (by simp)
 intro j h1 h2
 rw[List.getElem_set,tab_get (by simpa using h2),tab_get h2]
 by_cases hij:i=j
 ·rw[if_pos hij,if_pos hij.symm]
 ·rw[if_neg hij,if_neg fun e=>hij e.symm]
theorem tab_rep {z:α}:List.replicate n z=tab n (fun _=>z):=by
 apply List.ext_getElem?
 intro j
 by_cases hj:j<n<;>simp[tab,hj]
theorem getI_tab {i:Nat} (h:i<n):getI (tab n g) (i:Int)=some (g i):=by rw[getI_nat (by simpa using h),tab_get]
theorem tab_succ:tab (n+1) g=tab n g++[g n]:=by simp[tab,List.range_succ]
theorem tab_all (z:α) (xs:List α):xs=tab xs.length (fun j=>xs.getD j z):=by
 apply List.ext_getElem?
 intro j
 by_cases hj:j<xs.length
 ·rw[tab_get? hj,List.getElem?_eq_getElem hj];simp[List.getD_eq_getElem?_getD,hj]
 ·rw[List.getElem?_eq_none (by omega),List.getElem?_eq_none (by simp;omega)]
theorem tab_getD {i:Nat} {z:α}:(tab n g).getD i z=if i<n then g i else z:=by
 by_cases h:i<n
 ·simp[tab,h,List.getD_eq_getElem?_getD]
 ·rw[if_neg h,List.getD_eq_getElem?_getD,List.getElem?_eq_none (by simp;omega)];rfl
theorem mem_tab {x:α}:x∈tab n g↔∃i,i<n∧g i=x:=by simp[tab]
theorem getI_getD {xs:List α} (z:α) {i:Nat} (h:i<xs.length):getI xs (i:Int)=some (xs.getD i z):=by
 rw[getI_nat h];simp[List.getD_eq_getElem?_getD,h]
theorem set_getD {xs:List α} {z:α} {i j:Nat} {y:α} (h:i<xs.length):(xs.set i y).getD j z=if j=i then y else xs.getD j z:=by
 simp only[List.getD_eq_getElem?_getD,List.getElem?_set]
 by_cases e:i=j
 ·subst e;simp[h]
 ·rw[if_neg e,if_neg fun h:j=i=>e h.symm]
theorem list_ext_getD (z:α) {xs ys:List α} (hl:xs.length=ys.length) (h:∀i,i<xs.length→xs.getD i z=ys.getD i z):xs=ys:=by
 rw[tab_all z xs,tab_all z ys,←hl]
 exact tab_congr h
end
end Go.AX
namespace Go.AX
namespace Gf
def all8 (p:UInt8→Bool):Bool:=(List.range 256).all fun n=>p (UInt8.ofNat n)
theorem all8_ok {p:UInt8→Bool} (h:all8 p=true) (a:UInt8):p a=true:=by
 unfold all8 at h
 rw[List.all_eq_true] at h
 have:=h a.toNat (List.mem_range.2 a.toNat_lt)
 simpa using this
theorem all8_eq {f g:UInt8→UInt8} (h:all8 (fun a=>f a==g a)=true) (a:UInt8):f a=g a:=by simpa using all8_ok h a
def xt (a:UInt8):UInt8:=if (a&&&128 !=0)=true then (a<<<1)^^^29 else a<<<1
def bit (a:UInt8) (i:Nat):Bool:=(a>>>UInt8.ofNat i)&&&1==1
def sel (c:Bool) (v:UInt8):UInt8:=if c then v else 0
def gmN:Nat→UInt8→UInt8→UInt8
 |0,_,_=>0
 |n+1,a,b=>sel (b&&&1==1) a^^^gmN n (xt a) (b>>>1)
def gm (a b:UInt8):UInt8:=gmN 8 a b
def Add (f:UInt8→UInt8):Prop:=∀x y,f (x^^^y)=f x^^^f y
theorem Add.zero {f:UInt8→UInt8} (h:Add f):f 0=0:=by
 have:=h 0 0
 simpa using this
theorem x4 (a b c d:UInt8):(a^^^b)^^^(c^^^d)=(a^^^c)^^^(b^^^d):=by
 rw[UInt8.xor_assoc,UInt8.xor_assoc,←UInt8.xor_assoc b c d,←UInt8.xor_assoc c b d,UInt8.xor_comm b c]
theorem Add.comp {f g:UInt8→UInt8} (h:Add f) (k:Add g):Add (fun x=>f (g x)):=fun x y=>by
 show f (g (x^^^y))=_
 rw[k x y,h]
theorem Add.xor {f g:UInt8→UInt8} (h:Add f) (k:Add g):Add (fun x=>f x^^^g x):=fun x y=>by
 show f (x^^^y)^^^g (x^^^y)=_
 rw[h x y,k x y,x4]
theorem Add.sel {f:UInt8→UInt8} (h:Add f) (c:Bool) (x:UInt8):f (sel c x)=Gf.sel c (f x):=by cases c<;>simp[Gf.sel,h.zero]
theorem Add.shr:Add (fun x=>x>>>1):=fun _ _=>UInt8.shiftRight_xor
theorem and_xor (x y z:UInt8):(x^^^y)&&&z=(x&&&z)^^^(y&&&z):=by
 rw[←UInt8.toBitVec_inj]
 ext i
 simp[Bool.and_xor_distrib_right]
theorem and1:∀a:UInt8,(a&&&1=0)∨(a&&&1=1):=fun a=>by
 have:=all8_ok (p:=fun a=>(a&&&1==0)||(a&&&1==1)) (by decide+kernel) a
 simpa using this
theorem low_xor (x y:UInt8):((x^^^y)&&&1==1)=((x&&&1==1) ^^ (y&&&1==1)):=by
 rw[and_xor]
 rcases and1 x with h|h<;>rcases and1 y with k|k<;>rw[h,k]<;>decide
theorem sel_xor (a b:Bool) (v:UInt8):sel (a ^^ b) v=sel a v^^^sel b v:=by cases a<;>cases b<;>simp[sel]
theorem sel_add (c:Bool):Add (sel c):=fun x y=>by cases c<;>simp[sel]
def xt' (a:UInt8):UInt8:=(a<<<1)^^^((a>>>7)^^^((a>>>7)<<<2)^^^((a>>>7)<<<3)^^^((a>>>7)<<<4))
theorem xt_eq:∀a,xt a=xt' a:=all8_eq (by decide+kernel)
theorem Add.xt:Add xt:=by
 have h7:Add (fun x=>x>>>7):=fun _ _=>UInt8.shiftRight_xor
 have hl:∀n:UInt8,Add (fun x=>x<<<n):=fun _ _ _=>UInt8.shiftLeft_xor
 have:Add xt':=Add.xor (f:=fun a=>a<<<1) (hl 1) (Add.xor (Add.xor (Add.xor h7 ((hl 2).comp h7)) ((hl 3).comp h7)) ((hl 4).comp h7))
 intro x y
 rw[xt_eq,xt_eq,xt_eq]
 exact this x y
theorem gmN_l:∀n b,Add (fun a=>gmN n a b)
 |0,b=>fun x y=>by simp[gmN]
 |n+1,b=>Add.xor (f:=fun a=>sel (b&&&1==1) a) (sel_add _) ((gmN_l n (b>>>1)).comp Add.xt)
theorem gmN_r:∀n a,Add (fun b=>gmN n a b)
 |0,a=>fun x y=>by simp[gmN]
 |n+1,a=>by
  refine Add.xor (f:=fun b=>sel (b&&&1==1) a) (fun x y=>?_) (Add.comp (f:=fun b=>gmN n (Gf.xt a) b) (gmN_r n (Gf.xt a)) Add.shr)
  show sel ((x^^^y)&&&1==1) a=_
  rw[low_xor,sel_xor]
theorem gm_l (b:UInt8):Add (fun a=>gm a b):=gmN_l 8 b
theorem gm_r (a:UInt8):Add (fun b=>gm a b):=gmN_r 8 a
theorem bits (a:UInt8):a=sel (bit a 0) 1^^^sel (bit a 1) 2^^^sel (bit a 2) 4^^^sel (bit a 3) 8^^^sel (bit a 4) 16^^^sel (bit a 5) 32^^^sel (bit a 6) 64^^^sel (bit a 7) 128:=
 all8_eq (f:=fun a=>a) (g:=fun a=>sel (bit a 0) 1^^^sel (bit a 1) 2^^^sel (bit a 2) 4^^^sel (bit a 3) 8^^^sel (bit a 4) 16^^^sel (bit a 5) 32^^^sel (bit a 6) 64^^^sel (bit a 7) 128) (by decide+kernel) a
theorem Add.eq {f g:UInt8→UInt8} (h:Add f) (k:Add g) (e:([1,2,4,8,16,32,64,128]:List UInt8).all (fun x=>f x==g x)=true) (a:UInt8):f a=g a:=by
 simp only[List.all_cons,List.all_nil,Bool.and_eq_true,beq_iff_eq,Bool.and_true] at e
 obtain ⟨e0,e1,e2,e3,e4,e5,e6,e7⟩:=e
 rw[bits a]
 simp only[h _ _,k _ _,Add.sel h,Add.sel k,e0,e1,e2,e3,e4,e5,e6,e7]
def p2:List UInt8:=[1,2,4,8,16,32,64,128]
theorem gm_zero (a:UInt8):gm a 0=0:=(gm_r a).zero
def inv (a:UInt8):UInt8:=
 let a2:=gm a a;let a4:=gm a2 a2;let a8:=gm a4 a4;let a16:=gm a8 a8;let a32:=gm a16 a16;let a64:=gm a32 a32;let a128:=gm a64 a64
 gm (gm (gm (gm (gm (gm (gm 1 a2) a4) a8) a16) a32) a64) a128
end Gf
end Go.AX
namespace Go.AX
open Go.AM
open Gf
theorem shr8_1 (a:UInt8):shr8 a 1=a>>>1:=all8_eq (f:=fun a=>shr8 a 1) (g:=fun a=>a>>>1) (by decide+kernel) a
theorem shl8_1 (a:UInt8):shl8 a 1=a<<<1:=all8_eq (f:=fun a=>shl8 a 1) (g:=fun a=>a<<<1) (by decide+kernel) a
theorem gm_step (a b:UInt8):gm a b=sel (b&&&1==1) a^^^gm (xt a) (b>>>1):=by
 have l2:∀b:UInt8,Gf.Add (fun a=>sel (b&&&1==1) a^^^gm (xt a) (b>>>1)):=fun b=>Gf.Add.xor (f:=fun a=>sel (b&&&1==1) a) (sel_add _) (Gf.Add.comp (f:=fun v=>gm v (b>>>1)) (gm_l _) Gf.Add.xt)
 have r2:∀a:UInt8,Gf.Add (fun b=>sel (b&&&1==1) a^^^gm (xt a) (b>>>1)):=fun a=>by
  refine Gf.Add.xor (f:=fun b=>sel (b&&&1==1) a) (fun x y=>?_) (Gf.Add.comp (f:=fun v=>gm (xt a) v) (gm_r _) Gf.Add.shr)
  show sel ((x^^^y)&&&1==1) a=_
  rw[low_xor,sel_xor]
 refine Gf.Add.eq (f:=fun a=>gm a b) (g:=fun a=>sel (b&&&1==1) a^^^gm (xt a) (b>>>1)) (gm_l b) (l2 b) ?_ a
 have h:p2.all (fun x=>p2.all fun y=>gm x y==sel (y&&&1==1) x^^^gm (xt x) (y>>>1))=true:=by decide+kernel
 rw[List.all_eq_true] at h
 rw[List.all_eq_true]
 intro x hx
 have:=Gf.Add.eq (f:=fun b=>gm x b) (g:=fun b=>sel (b&&&1==1) x^^^gm (xt x) (b>>>1)) (gm_r x) (r2 x) (h x hx) b
 simpa using this
theorem x_Mul (a b:UInt8):X.gf_Mul a b=some (gm a b):=by
 unfold X.gf_Mul
 have key:run X.gf_Mul_s6 (a,b,(0:UInt8))=some (gm a b):=by
  refine run_is (gm a b) (fun s=>s.2.2^^^gm s.1 s.2.1=gm a b) (fun s=>s.2.1.toNat) (by simp) (by have:=b.toNat_lt;simp only;omega) ?_
  rintro ⟨a',b',o⟩ hI
  simp only at hI
  unfold X.gf_Mul_s6
  simp only
  by_cases hb:b'=0
  ·right
   subst hb
   rw[gm_zero,UInt8.xor_zero] at hI
   simp[hI]
  ·left
   rw[if_pos (by simpa using hb)]
   have hlt:(b'>>>1).toNat<b'.toNat:=by
    have:=all8_ok (p:=fun b=>b==0||decide ((b>>>1).toNat<b.toNat)) (by decide+kernel) b'
    simpa[hb] using this
   have hx:∀o',X.gf_Mul_j17 a' b' o'=some (.inl (xt a',b'>>>1,o')):=by
    intro o'
    unfold X.gf_Mul_j17 X.gf_Mul_j14 xt
    rw[shl8_1,shr8_1]
    split<;>rfl
   refine ⟨(xt a',b'>>>1,sel (b'&&&1==1) a'^^^o),?_,?_,hlt⟩
   ·cases hc:(b'&&&(1:UInt8))==(1:UInt8) with
    |true=>rw[if_pos rfl,hx];simp[sel,UInt8.xor_comm]
    |false=>rw[if_neg (by simp),hx];simp[sel]
   ·rw[gm_step a' b'] at hI
    rw[←hI,UInt8.xor_comm _ o,UInt8.xor_assoc]
 rw[key];rfl
theorem x_Add (a b:UInt8):X.gf_Add a b=some (a^^^b):=rfl
theorem x_power (a:UInt8):X.gf_power a 254=some (inv a):=by
 unfold X.gf_power
 have key:run X.gf_power_s6 (a,(254:Int),(1:UInt8))=some (inv a):=by
  refine run_few 9 (by omega) ?_
  have e1:shr64 254 1=127:=by decide+kernel
  have e2:shr64 127 1=63:=by decide+kernel
  have e3:shr64 63 1=31:=by decide+kernel
  have e4:shr64 31 1=15:=by decide+kernel
  have e5:shr64 15 1=7:=by decide+kernel
  have e6:shr64 7 1=3:=by decide+kernel
  have e7:shr64 3 1=1:=by decide+kernel
  have e8:shr64 1 1=0:=by decide+kernel
  have f1:and64 254 1=0:=by decide+kernel
  have f2:and64 127 1=1:=by decide+kernel
  have f3:and64 63 1=1:=by decide+kernel
  have f4:and64 31 1=1:=by decide+kernel
  have f5:and64 15 1=1:=by decide+kernel
  have f6:and64 7 1=1:=by decide+kernel
  have f7:and64 3 1=1:=by decide+kernel
  have f8:and64 1 1=1:=by decide+kernel
  simp[iter,X.gf_power_s6,X.gf_power_j15,x_Mul,e1,e2,e3,e4,e5,e6,e7,e8,f1,f2,f3,f4,f5,f6,f7,f8,inv]
 rw[key];rfl
theorem x_Inv (a:UInt8):X.gf_Inv a=some (inv a):=by unfold X.gf_Inv;rw[x_power];rfl
end Go.AX
namespace Go.AX
namespace Gf
def S:Nat→(Nat→UInt8)→UInt8
 |0,_=>0
 |n+1,f=>S n f^^^f n
theorem S_congr {f g:Nat→UInt8}:∀{n:Nat},(∀i,i<n→f i=g i)→S n f=S n g
 |0,_=>rfl
 |n+1,h=>by
  show S n f^^^f n=S n g^^^g n
  rw[S_congr fun i hi=>h i (by omega),h n (by omega)]
def e (r:List UInt8) (j:Nat):UInt8:=r.getD j 0
def row (l:List (List UInt8)) (i:Nat):List UInt8:=l.getD i []
def add (a b:List UInt8):List UInt8:=tab a.length (fun j=>e a j^^^e b j)
theorem e_tab {n j:Nat} {g:Nat→UInt8} (h:j<n):e (tab n g) j=g j:=by unfold e;rw[tab_getD,if_pos h]
theorem getI_e {r:List UInt8} {j:Nat} (h:j<r.length):getI r (j:Int)=some (e r j):=getI_getD 0 h
theorem getI_row {l:List (List UInt8)} {j:Nat} (h:j<l.length):getI l (j:Int)=some (row l j):=getI_getD [] h
theorem row_mem {l:List (List UInt8)} {j:Nat} (h:j<l.length):row l j∈l:=by
 unfold row
 rw[List.getD_eq_getElem?_getD,List.getElem?_eq_getElem h]
 exact List.getElem_mem h
theorem mem_row {l:List (List UInt8)} {r:List UInt8} (h:r∈l):∃j,j<l.length∧row l j=r:=by
 obtain ⟨j,hj,rfl⟩:=List.getElem_of_mem h
 exact ⟨j,hj,by unfold row;rw[List.getD_eq_getElem?_getD,List.getElem?_eq_getElem hj];rfl⟩
def Wide (l:List (List UInt8)) (w:Nat):Prop:=∀r∈l,r.length=w
end Gf
end Go.AX
namespace Go.AX
open Go.AM
open Gf
theorem wr_nat {a:Nat} (h:a≤4000000000000000000):wr (a:Int)=(a:Int):=wr_eq (by omega) (by omega)
theorem wr_add {a b:Nat} (h:a+b≤4000000000000000000):wr ((a:Int)+(b:Int))=((a+b:Nat):Int):=by rw[wr_eq (by omega) (by omega)];omega
theorem wr_inc {a:Nat} (h:a≤4000000000000000000):wr ((a:Int)+(1:Int))=((a+1:Nat):Int):=wr_succ (by omega)
theorem bind_s {α β:Type} (a:α) (f:α→Option β):(some a).bind f=f a:=rfl
theorem rep_tab (n:Nat):List.replicate ((n:Int)).toNat (0:UInt8)=tab n (fun _=>0):=by rw[Int.toNat_natCast,tab_rep]
def app (m:List (List UInt8)) (v:List UInt8):List UInt8:=tab m.length (fun i=>S (row m i).length (fun j=>gm (e (row m i) j) (e v j)))
theorem x_apply {m:List (List UInt8)} {v:List UInt8} (hm:m.length≤200000000000000) (hv:v.length≤200000000000000) (hr:∀r∈m,r.length≤v.length):X.matrix_apply m v=some (app m v):=by
 unfold X.matrix_apply
 rw[need_is (by omega),bind_s,rep_tab]
 have key:run (X.matrix_apply_s9 m v) (tab m.length (fun _=>0),(0:Int))=some (app m v):=by
  refine run_G0 (fun i=>tab m.length (fun j=>if j<i then S (row m j).length (fun k=>gm (e (row m j) k) (e v k)) else 0)) (n:=m.length) (by omega) (tab_congr fun i _=>by rw[if_neg (by omega)]) (fun i hi=>?_) ?_
  ·unfold X.matrix_apply_s9
   simp only
   have hw:=hr _ (row_mem hi)
   rw[if_pos (by simpa using hi),getI_row hi,bind_s]
   have inner:run (X.matrix_apply_s22 (row m i) (i:Int) v) (tab m.length (fun j=>if j<i then S (row m j).length (fun k=>gm (e (row m j) k) (e v k)) else 0),(0:Int))=
    some (tab m.length (fun j=>if j<i+1 then S (row m j).length (fun k=>gm (e (row m j) k) (e v k)) else 0)):=by
    refine run_G0 (fun c=>tab m.length (fun j=>if j<i then S (row m j).length (fun k=>gm (e (row m j) k) (e v k)) else if j=i then S c (fun k=>gm (e (row m i) k) (e v k)) else 0)) (n:=(row m i).length) (by omega)
     (tab_congr fun j _=>?_) (fun c hc=>?_) ?_
    ·by_cases h:j<i
     ·rw[if_pos h,if_pos h]
     ·rw[if_neg h,if_neg h];split<;>rfl
    ·unfold X.matrix_apply_s22
     simp only
     rw[if_pos (by simpa using hc),getI_e hc,bind_s,getI_tab hi,bind_s,getI_e (by omega:c<v.length),bind_s,x_Mul,bind_s,x_Add,bind_s,bind_s,wr_inc (by omega),Int.toNat_natCast,tab_set]
     refine congrArg (fun t=>some (Sum.inl (t,_))) (tab_congr fun j _=>?_)
     by_cases h:j=i
     ·subst h
      simp only[Nat.lt_irrefl,if_true,if_false];rfl
     ·rw[if_neg h,if_neg h,if_neg h]
    ·unfold X.matrix_apply_s22
     simp only
     rw[if_neg (by simp)]
     refine congrArg (fun t=>some (Sum.inr t)) (tab_congr fun j _=>?_)
     by_cases h:j<i
     ·rw[if_pos h,if_pos (by omega)]
     ·rw[if_neg h]
      by_cases h2:j=i
      ·subst h2;rw[if_pos rfl,if_pos (by omega)]
      ·rw[if_neg h2,if_neg (by omega)]
   rw[inner,bind_s]
   unfold X.matrix_apply_e22
   rw[wr_inc (by omega)]
  ·unfold X.matrix_apply_s9
   simp only
   rw[if_neg (by simp)]
   exact congrArg (fun t=>some (Sum.inr t)) (tab_congr fun j hj=>by rw[if_pos hj])
 rw[key];rfl
def ixOf:Option Nat→Int
 |some i=>i
 |none=> -1
theorem x_IndexFunc {s:List (List UInt8)} {p:List UInt8→Option Bool} (q:List UInt8→Bool) (hp:∀a∈s,p a=some (q a)) (hs:s.length≤4000000000000000000):X.slices_IndexFunc_LLbyte_Lbyte s p=some (ixOf (s.findIdx? q)):=by
 unfold X.slices_IndexFunc_LLbyte_Lbyte
 have key:run (X.slices_IndexFunc_LLbyte_Lbyte_s6 s p) (0:Int)=some (match s.findIdx? q with|some i=> .inr (i:Int)|none=> .inl ()):=by
  refine run_seE (a:=0) (n:=s.length) (fun n=>∀j (hj:j<s.length),j<n→q s[j]=false) (Nat.zero_le _) hs
   (fun j _ h=>absurd h (by omega)) (fun n _ h hq=>?_) (fun hq=>?_)
  ·unfold X.slices_IndexFunc_LLbyte_Lbyte_s6
   simp only
   rw[if_pos (by simpa using h),getI_nat h,bind_s,hp _ (List.getElem_mem h),bind_s]
   cases hc:q s[n] with
   |true=>
    right
    rw[if_pos rfl]
    have:s.findIdx? q=some n:=by
     rw[List.findIdx?_eq_some_iff_getElem]
     exact ⟨h,hc,fun j hj=>by simp[hq j (by omega) hj]⟩
    rw[this]
   |false=>
    left
    rw[if_neg (by simp),wr_inc (by omega)]
    refine ⟨rfl,fun j hj h=>?_⟩
    rcases Nat.lt_succ_iff_lt_or_eq.1 h with h|rfl
    ·exact hq j hj h
    ·exact hc
  ·unfold X.slices_IndexFunc_LLbyte_Lbyte_s6
   simp only
   rw[if_neg (by simp)]
   have:s.findIdx? q=none:=by
    rw[List.findIdx?_eq_none_iff]
    intro x hx
    obtain ⟨j,hj,rfl⟩:=List.getElem_of_mem hx
    exact hq j hj hj
   rw[this]
 rw[key]
 cases s.findIdx? q<;>rfl
theorem ixOf_ge {s:List (List UInt8)} {q:List UInt8→Bool}:decide (ixOf (s.findIdx? q)≥(0:Int))=s.any q:=by
 cases h:s.findIdx? q with
 |none=>
  rw[List.findIdx?_eq_none_iff] at h
  have:s.any q=false:=by rw[List.any_eq_false];intro x hx;simp[h x hx]
  rw[this];rfl
 |some i=>
  rw[List.findIdx?_eq_some_iff_getElem] at h
  obtain ⟨h1,h2,_⟩:=h
  have:s.any q=true:=by rw[List.any_eq_true];exact ⟨_,List.getElem_mem h1,h2⟩
  rw[this]
  exact decide_eq_true (by show (0:Int)≤(i:Int);omega)
def rightB (m:List (List UInt8)):Bool:=decide (1≤m.length)&&decide (m.length≤255)&&decide (1≤(row m 0).length)&&decide ((row m 0).length≤255)&&m.all (fun r=>r.length==(row m 0).length)
theorem right_of {m:List (List UInt8)} (h:rightB m=true):1≤m.length∧m.length≤255∧1≤(row m 0).length∧(row m 0).length≤255∧Wide m (row m 0).length:=by
 unfold rightB at h
 simp only[Bool.and_eq_true,decide_eq_true_eq,List.all_eq_true,beq_iff_eq] at h
 obtain ⟨⟨⟨⟨h1,h2⟩,h3⟩,h4⟩,h5⟩:=h
 exact ⟨h1,h2,h3,h4,h5⟩
theorem right_if {m:List (List UInt8)} {w:Nat} (h1:1≤m.length) (h2:m.length≤255) (h3:1≤w) (h4:w≤255) (h5:Wide m w):rightB m=true:=by
 have h0:(row m 0).length=w:=h5 _ (row_mem (by omega))
 unfold rightB
 rw[h0]
 simp only[Bool.and_eq_true,decide_eq_true_eq,List.all_eq_true,beq_iff_eq]
 exact ⟨⟨⟨⟨h1,h2⟩,h3⟩,h4⟩,h5⟩
theorem right_pre {m:List (List UInt8)} {f:Option Bool} {b:Bool} (hf:1≤m.length→m.length≤255→1≤(row m 0).length→(row m 0).length≤255→f=some b) (hb:b=m.all (fun r=>r.length==(row m 0).length)):
 (((optG (!(((decide ((m.length:Int)<(1:Int)))||(decide ((m.length:Int)>(255:Int)))))) (getI m (0:Int)))).bind fun e5=>
 ((optG (!((((decide ((m.length:Int)<(1:Int)))||(decide ((m.length:Int)>(255:Int))))||(decide ((e5.length:Int)<(1:Int)))))) (getI m (0:Int)))).bind fun e6=>
 if ((((decide ((m.length:Int)<(1:Int)))||(decide ((m.length:Int)>(255:Int))))||(decide ((e5.length:Int)<(1:Int))))||(decide ((e6.length:Int)>(255:Int)))) then
  some false
 else f)=some (rightB m):=by
 unfold rightB
 by_cases h1:1≤m.length
 ·have g:getI m (0:Int)=some (row m 0):=getI_row (j:=0) (by omega)
  rw[g]
  by_cases h2:m.length≤255
  ·have e1:decide ((m.length:Int)<1)=false:=by simp;omega
   have e2:decide ((m.length:Int)>255)=false:=by simp;omega
   rw[e1,e2]
   simp only[Bool.or_false,Bool.not_false,optG_true,bind_s,Bool.false_or]
   by_cases h3:1≤(row m 0).length
   ·have e3:decide (((row m 0).length:Int)<1)=false:=by simp;omega
    rw[e3]
    simp only[Bool.not_false,optG_true,bind_s,Bool.false_or]
    by_cases h4:(row m 0).length≤255
    ·have e4:decide (((row m 0).length:Int)>255)=false:=by simp;omega
     rw[e4,if_neg (by simp),hf h1 h2 h3 h4,hb]
     simp[h1,h2,h3,h4]
    ·have e4:decide (((row m 0).length:Int)>255)=true:=by simp;omega
     rw[e4,if_pos rfl]
     simp[h4]
   ·have e3:decide (((row m 0).length:Int)<1)=true:=by simp;omega
    rw[e3]
    simp[h3]
  ·have e2:decide ((m.length:Int)>255)=true:=by simp;omega
   rw[e2]
   simp[h2]
 ·have e1:decide ((m.length:Int)<1)=true:=by simp;omega
  rw[e1]
  simp[h1]
theorem x_Right (m:List (List UInt8)):X.matrix_Right m=some (rightB m):=by
 unfold X.matrix_Right
 refine right_pre (b:= !(m.any fun r=>(r.length:Int) !=((row m 0).length:Int))) (fun h1 h2 h3 h4=>?_) ?_
 ·unfold X.slices_ContainsFunc_LLbyte_Lbyte
  rw[x_IndexFunc (fun r=>(r.length:Int) !=((row m 0).length:Int)) (fun a _=>?_) (by omega),bind_s,bind_s,ixOf_ge]
  unfold X.matrix_Right_c1
  rw[show getI m (0:Int)=some (row m 0) from getI_row (j:=0) (by omega),bind_s]
 ·rw[List.not_any_eq_all_not]
  congr 1
  funext r
  simp only[bne,Bool.not_not]
  rw[Bool.eq_iff_iff]
  simp only[beq_iff_eq]
  omega
end Go.AX
namespace Go.AX
open Go.AM
open Gf
end Go.AX
namespace Go.AX
open Go.AM
open Gf
end Go.AX
namespace Go.AX
open Go.AM
theorem x_Clone (s:List UInt8) (h:s.length≤100000000000000):X.slices_Clone_Lbyte_byte s=some s:=by
 unfold X.slices_Clone_Lbyte_byte
 refine nilU_same (fun h=>by rw[h];rfl) ?_
 simp only[Bool.false_eq_true,if_false]
 rw[need_is (by omega)];rfl
end Go.AX
namespace Go.AX
open Go.AM
open Gf
def appG (m:List (List UInt8)) (v:List UInt8):List UInt8×Int:=if rightB m&&(v.length==(row m 0).length) then (app m v,0) else ([],1)
theorem x_Apply (m:List (List UInt8)) (v:List UInt8):X.matrix_Apply m v=some (appG m v):=by
 unfold X.matrix_Apply appG
 rw[x_Right,bind_s]
 cases hr:rightB m with
 |false=>simp
 |true=>
  obtain ⟨h1,h2,h3,h4,h5⟩:=right_of hr
  rw[show getI m (0:Int)=some (row m 0) from getI_row (j:=0) (by omega)]
  simp only[Bool.not_true,Bool.not_false,optG_true,bind_s,Bool.false_or,Bool.true_and]
  by_cases hv:v.length=(row m 0).length
  ·rw[if_neg (by simp only[bne_iff_ne,ne_eq];omega),if_pos (by simpa using hv),x_apply (by omega) (by omega) (fun r hr=>by rw[h5 r hr];omega),bind_s]
  ·rw[if_pos (by simp only[bne_iff_ne,ne_eq];omega),if_neg (by simpa using hv)]
end Go.AX
namespace Go.AX
open Go.AM
open Gf
namespace Gf
end Gf
end Go.AX
namespace Go.AX
open Go.AM
open Gf
namespace Gf
end Gf
def bt (n:Nat):UInt8:=UInt8.ofNat n
theorem u8_bt (n:Nat):u8 (n:Int)=bt n:=by
 unfold u8 bt
 rw[←UInt8.toNat_inj,UInt8.toNat_ofNat',UInt8.toNat_ofNat']
 omega
def cau (data parity:Nat):List (List UInt8):=tab parity (fun i=>tab data (fun k=>inv (bt i^^^bt (parity+k))))
def cauG (data parity:Int):List (List UInt8)×Int:=if 1≤data∧1≤parity∧data+parity≤255 then (cau data.toNat parity.toNat,0) else ([],1)
theorem x_Cauchy (data parity:Int) (hd: -9223372036854775808≤data∧data≤9223372036854775807) (hp: -9223372036854775808≤parity∧parity≤9223372036854775807):X.matrix_Cauchy data parity=some (cauG data parity):=by
 unfold X.matrix_Cauchy cauG
 by_cases h:1≤data∧1≤parity∧data+parity≤255
 ·rw[if_pos h,if_neg (by
   rw[wr_eq (by omega) (by omega)]
   simp only[Bool.or_eq_true,decide_eq_true_eq];omega)]
  obtain ⟨n,rfl⟩:=Int.eq_ofNat_of_zero_le (by omega:0≤data)
  obtain ⟨p,rfl⟩:=Int.eq_ofNat_of_zero_le (by omega:0≤parity)
  have key:run (X.matrix_Cauchy_s11 (p:Int) (n:Int)) (([]:List (List UInt8)),(0:Int))=some (cau n p):=by
   refine run_G0 (fun i=>tab i (fun i=>tab n (fun k=>inv (bt i^^^bt (p+k))))) (n:=p) (by omega) rfl (fun i hi=>?_) ?_
   ·unfold X.matrix_Cauchy_s11
    simp only
    have inner:run (X.matrix_Cauchy_s26 (n:Int) (i:Int) (p:Int)) (([]:List UInt8),(0:Int))=some (tab n (fun k=>inv (bt i^^^bt (p+k)))):=by
     refine run_G0 (fun c=>tab c (fun k=>inv (bt i^^^bt (p+k)))) (n:=n) (by omega) rfl (fun c hc=>?_) ?_
     ·unfold X.matrix_Cauchy_s26
      simp only
      rw[if_pos (by simpa using hc),wr_add (by omega),u8_bt,u8_bt,x_Add,bind_s,x_Inv,bind_s,need_is (by simp;omega),bind_s,wr_inc (by omega),tab_succ]
     ·unfold X.matrix_Cauchy_s26
      simp only
      rw[if_neg (by simp)]
    rw[if_pos (by simpa using hi),inner,bind_s]
    unfold X.matrix_Cauchy_e26
    rw[need_is (by simp;omega),bind_s,wr_inc (by omega),tab_succ]
   ·unfold X.matrix_Cauchy_s11
    simp only
    rw[if_neg (by simp)];rfl
  show (run (X.matrix_Cauchy_s11 (p:Int) (n:Int)) (([]:List (List UInt8)),(0:Int))).bind _=_
  rw[key];rfl
 ·rw[if_neg h]
  split
  ·rfl
  ·rename_i hc
   exfalso
   simp only[Bool.or_eq_true,decide_eq_true_eq,not_or] at hc
   obtain ⟨⟨⟨c1,c2⟩,c3⟩,c4⟩:=hc
   rw[wr_eq (by omega) (by omega)] at c4
   omega
end Go.AX
namespace Go.AX
open Go.AM
open Gf
def reck (m l:List (List UInt8)) (w:Nat):List (List UInt8):=tab m.length (fun i=>tab w (fun c=>S l.length (fun k=>gm (e (row m i) k) (e (row l k) c))))
theorem x_reckon {m l:List (List UInt8)} {w:Nat} (hr:rightB m=true) (hm:(row m 0).length=l.length) (hw:Wide l w) (hw2:w≤1000000):X.erasure_reckon m l=some (reck m l w):=by
 obtain ⟨a1,a2,a3,a4,a5⟩:=right_of hr
 have hl0:(row l 0).length=w:=hw _ (row_mem (by omega))
 unfold X.erasure_reckon
 rw[need_is (by omega),bind_s,show getI l (0:Int)=some (row l 0) from getI_row (j:=0) (by omega),bind_s,Int.toNat_natCast]
 have key:run (X.erasure_reckon_s10 (row l 0) l m) (List.replicate m.length ([]:List UInt8),(0:Int))=some (reck m l w):=by
  refine run_G0 (fun c=>reck m l c) (n:=w) (by omega) (by rw[tab_rep];rfl) (fun c hc=>?_) ?_
  ·unfold X.erasure_reckon_s10
   simp only
   have k1:run (X.erasure_reckon_s25 l (c:Int)) (([]:List UInt8),(0:Int))=some (tab l.length (fun k=>e (row l k) c)):=by
    refine run_G0 (fun i=>tab i (fun k=>e (row l k) c)) (n:=l.length) (by omega) rfl (fun i hi=>?_) ?_
    ·unfold X.erasure_reckon_s25
     simp only
     rw[if_pos (by simpa using hi),getI_row hi,bind_s,getI_e (by rw[hw _ (row_mem hi)];exact hc),bind_s,need_is (by simp;omega),bind_s,wr_inc (by omega),tab_succ]
    ·unfold X.erasure_reckon_s25
     simp only
     rw[if_neg (by simp)]
   rw[if_pos (by simp only[decide_eq_true_eq];omega),k1,bind_s]
   show X.erasure_reckon_e25 m (reck m l c) (c:Int) (tab l.length (fun k=>e (row l k) c))=_
   unfold X.erasure_reckon_e25
   have hap:appG m (tab l.length (fun k=>e (row l k) c))=(tab m.length (fun i=>S l.length (fun k=>gm (e (row m i) k) (e (row l k) c))),0):=by
    unfold appG
    rw[hr,if_pos (by simp[hm])]
    refine congrArg (fun t=>(t,(0:Int))) ?_
    unfold app
    refine tab_congr fun i hi=>?_
    rw[a5 _ (row_mem hi),hm]
    exact S_congr fun k hk=>by rw[e_tab hk]
   rw[x_Apply,bind_s,hap]
   have k2:run (X.erasure_reckon_s36 (tab m.length (fun i=>S l.length (fun k=>gm (e (row m i) k) (e (row l k) c))),((0:Nat):Int))) (reck m l c,(0:Int))=some (reck m l (c+1)):=by
    refine run_G0 (fun t=>tab m.length (fun i=>tab (if i<t then c+1 else c) (fun c=>S l.length (fun k=>gm (e (row m i) k) (e (row l k) c))))) (n:=m.length) (by omega) (tab_congr fun i _=>by rw[if_neg (by omega)]) (fun t ht=>?_) ?_
    ·unfold X.erasure_reckon_s36
     simp only
     rw[if_pos (by simpa using ht),getI_tab ht,bind_s,getI_tab ht,bind_s,if_neg (by omega),need_is (by simp;omega),bind_s,bind_s,wr_inc (by omega),Int.toNat_natCast,tab_set]
     refine congrArg (fun t=>some (Sum.inl (t,_))) (tab_congr fun i _=>?_)
     by_cases h:i=t
     ·subst h
      rw[if_pos rfl,if_pos (by omega),tab_succ]
     ·rw[if_neg h]
      by_cases h2:i<t
      ·rw[if_pos h2,if_pos (by omega)]
      ·rw[if_neg h2,if_neg (by omega)]
    ·unfold X.erasure_reckon_s36
     simp only
     rw[if_neg (by simp)]
     exact congrArg (fun t=>some (Sum.inr t)) (tab_congr fun i hi=>by rw[if_pos hi])
   show (run (X.erasure_reckon_s36 (tab m.length (fun i=>S l.length (fun k=>gm (e (row m i) k) (e (row l k) c))),((0:Nat):Int))) (reck m l c,(0:Int))).bind _=_
   rw[k2,bind_s]
   show X.erasure_reckon_e36 (c:Int) _=_
   unfold X.erasure_reckon_e36
   rw[wr_inc (by omega)]
  ·unfold X.erasure_reckon_s10
   simp only
   rw[if_neg (by simp only[decide_eq_true_eq];omega)]
 rw[key];rfl
theorem reck_len {m l:List (List UInt8)} {w:Nat}:(reck m l w).length=m.length:=tab_len
theorem reck_wide {m l:List (List UInt8)} {w:Nat}:Wide (reck m l w) w:=by
 intro r hr
 obtain ⟨i,_,rfl⟩:=mem_tab.1 hr
 exact tab_len
def alikeB (l:List (List UInt8)):Bool:=l.all (fun r=>r.length==(row l 0).length)
theorem alike_of {l:List (List UInt8)} (h:alikeB l=true):Wide l (row l 0).length:=by
 unfold alikeB at h
 simp only[List.all_eq_true,beq_iff_eq] at h
 exact h
theorem alike_if {l:List (List UInt8)} {w:Nat} (h:Wide l w):alikeB l=true:=by
 unfold alikeB
 simp only[List.all_eq_true,beq_iff_eq]
 intro r hr
 obtain ⟨j,hj,_⟩:=mem_row hr
 rw[h r hr,h _ (row_mem (show 0<l.length by omega))]
theorem x_alike {l:List (List UInt8)} (hl:l.length≤1000000000):X.erasure_alike l=some (alikeB l):=by
 unfold X.erasure_alike X.slices_ContainsFunc_LLbyte_Lbyte
 rw[x_IndexFunc (fun r=>(r.length:Int) !=((row l 0).length:Int)) (fun a ha=>?_) (by omega),bind_s,bind_s,ixOf_ge]
 ·unfold alikeB
  rw[List.not_any_eq_all_not]
  congr 2
  funext r
  simp only[bne,Bool.not_not]
  rw[Bool.eq_iff_iff]
  simp only[beq_iff_eq]
  omega
 ·unfold X.erasure_alike_c1
  obtain ⟨j,hj,_⟩:=mem_row ha
  rw[show getI l (0:Int)=some (row l 0) from getI_row (j:=0) (by omega),bind_s]
theorem cau_len {n p:Nat}:(cau n p).length=p:=tab_len
theorem cau_wide {n p:Nat}:Wide (cau n p) n:=by
 intro r hr
 obtain ⟨i,_,rfl⟩:=mem_tab.1 hr
 exact tab_len
theorem cau_right {n p:Nat} (h1:1≤n) (h2:1≤p) (h3:n+p≤255):rightB (cau n p)=true:=right_if (by rw[cau_len];omega) (by rw[cau_len];omega) h1 (by omega) cau_wide
def encG (l:List (List UInt8)) (p:Int):List (List UInt8)×Int:=
 if 1≤l.length∧0≤p∧l.length+p≤255∧alikeB l=true then (if p=0 then ([],0) else (reck (cau l.length p.toNat) l (row l 0).length,0)) else ([],1)
theorem x_Encode (l:List (List UInt8)) (p:Int) (hl:∀r∈l,r.length≤1000000) (hp: -9223372036854775808≤p∧p≤9223372036854775807):X.erasure_Encode l p=some (encG l p):=by
 unfold X.erasure_Encode
 by_cases h:1≤l.length∧l.length≤255∧0≤p∧l.length+p≤255
 ·obtain ⟨h1,h2,h3,h4⟩:=h
  have e1:wr (255-(l.length:Int))=255-l.length:=wr_eq (by omega) (by omega)
  have b1:decide ((l.length:Int)<1)=false:=by simp;omega
  have b2:decide ((l.length:Int)>255)=false:=by simp;omega
  have b3:decide (p<0)=false:=by simp;omega
  have b4:decide (p>255-(l.length:Int))=false:=by simp;omega
  rw[e1,b1,b2,b3,b4]
  simp only[Bool.or_false,Bool.not_false,optG_true,Bool.false_or]
  rw[x_alike (by omega),bind_s]
  cases ha:alikeB l with
  |false=>
   have hE:encG l p=([],1):=if_neg (by rw[ha];simp)
   rw[hE];rfl
  |true=>
   simp only[Bool.not_true,Bool.false_eq_true,if_false]
   have hE:encG l p=(if p=0 then ([],0) else (reck (cau l.length p.toNat) l (row l 0).length,0)):=if_pos ⟨h1,h3,h4,ha⟩
   rw[hE]
   by_cases hp0:p=0
   ·have:(p==0)=true:=by simpa using hp0
    rw[this,if_pos hp0];rfl
   ·have:(p==0)=false:=by simpa using hp0
    rw[this,if_neg hp0,if_neg (by simp),x_Cauchy _ _ (by omega) (by omega),bind_s]
    have hC:cauG (l.length:Int) p=(cau l.length p.toNat,0):=if_pos ⟨by omega,by omega,by omega⟩
    rw[hC]
    simp only[bne_self_eq_false,Bool.false_eq_true,if_false]
    have hw:=alike_of ha
    rw[x_reckon (cau_right h1 (by omega) (by omega)) (by rw[cau_wide _ (row_mem (by rw[cau_len];omega))]) hw (hl _ (row_mem (by omega))),bind_s]
 ·have hE:encG l p=([],1):=if_neg (fun hh=>h ⟨hh.1,by omega,hh.2.1,hh.2.2.1⟩)
  rw[hE]
  have hc:((((decide ((l.length:Int)<(1:Int)))||(decide ((l.length:Int)>(255:Int))))||(decide (p<(0:Int))))||(decide (p>(wr ((255:Int)-(l.length:Int))))))=true:=by
   simp only[Bool.or_eq_true,decide_eq_true_eq]
   by_cases h2:l.length≤255
   ·rw[wr_eq (by omega) (by omega)];omega
   ·left;left;right;omega
  rw[hc]
  simp
end Go.AX
namespace Go.AX
open Go.AM
open Gf
def tp (l:List Tape_api) (i:Nat):Tape_api:=l.getD i ⟨0,0,[],false⟩
theorem getI_tp {l:List Tape_api} {i:Nat} (h:i<l.length):getI l (i:Int)=some (tp l i):=getI_getD _ h
theorem tp_mem {l:List Tape_api} {i:Nat} (h:i<l.length):tp l i∈l:=by
 unfold tp
 rw[List.getD_eq_getElem?_getD,List.getElem?_eq_getElem h]
 exact List.getElem_mem h
def Small (l:List Tape_api):Prop:=l.length≤14∧∀t∈l,t.Blocks.length≤90∧∀r∈t.Blocks,r.length≤300
def ln (l:List Tape_api):Nat→Nat
 |0=>0
 |i+1=>if (tp l i).Lost=true then ln l i else max (ln l i) (tp l i).Blocks.length
theorem ln_succ (l:List Tape_api) (i:Nat):ln l (i+1)=if (tp l i).Lost=true then ln l i else max (ln l i) (tp l i).Blocks.length:=rfl
theorem ln_le {l:List Tape_api} (hs:Small l):∀i,i≤l.length→ln l i≤90
 |0,_=>by simp[ln]
 |i+1,h=>by
  have ih:=ln_le hs i (by omega)
  have:=(hs.2 _ (tp_mem (show i<l.length by omega))).1
  rw[ln_succ]
  split<;>omega
theorem x_Len {l:List Tape_api} (hs:Small l):X.stripe_Len l=some ((ln l l.length:Nat):Int):=by
 unfold X.stripe_Len
 have key:run (X.stripe_Len_s6 l) ((0:Int),(0:Int))=some ((ln l l.length:Nat):Int):=by
  refine run_G0 (fun i=>((ln l i:Nat):Int)) (n:=l.length) (by have:=hs.1;omega) rfl (fun i hi=>?_) ?_
  ·unfold X.stripe_Len_s6
   simp only
   have:=hs.1
   rw[if_pos (by simpa using hi),getI_tp hi,bind_s,wr_inc (by omega),ln_succ]
   cases hL:(tp l i).Lost with
   |true=>rfl
   |false=>
    simp only[Bool.not_false,if_true,Bool.false_eq_true,if_false]
    refine congrArg (fun t=>some (Sum.inl (t,_))) ?_
    omega
  ·unfold X.stripe_Len_s6
   simp only
   rw[if_neg (by simp)]
 rw[key];rfl
def zeros:List UInt8:=List.replicate 79 0
def cell (t:Tape_api) (n:Int):List UInt8:=if t.Lost=true∨n<0∨n≥t.Blocks.length then zeros else if (row t.Blocks n.toNat).length=79 then row t.Blocks n.toNat else []
def rowS (l:List Tape_api) (n:Int):List (List UInt8):=tab l.length (fun i=>cell (tp l i) n)
theorem cell_len {t:Tape_api} {n:Int}:(cell t n).length=79∨cell t n=[]:=by
 unfold cell
 split
 ·left;exact List.length_replicate ..
 ·split
  ·left;assumption
  ·right;rfl
theorem cell_neg {t:Tape_api} {n:Int} (h:n<0):cell t n=zeros:=if_pos (.inr (.inl h))
theorem cell_row {t:Tape_api} {n:Int} (h:¬(t.Lost=true∨n<0∨n≥t.Blocks.length)):cell t n=if (row t.Blocks n.toNat).length=79 then row t.Blocks n.toNat else []:=if_neg h
theorem getI_n {l:List (List UInt8)} {n:Int} (h0:0≤n) (h:n<l.length):getI l n=some (row l n.toNat):=by
 obtain ⟨k,rfl⟩:=Int.eq_ofNat_of_zero_le h0
 rw[Int.toNat_natCast]
 exact getI_row (by omega)
theorem x_cell (t:Tape_api) (n:Int):X.stripe_cell t n=some (cell t n):=by
 unfold X.stripe_cell cell
 by_cases h:t.Lost=true∨n<0∨n≥t.Blocks.length
 ·rw[if_pos h,if_pos (by
   simp only[Bool.or_eq_true,decide_eq_true_eq]
   rcases h with h|h|h
   ·exact .inl (.inl h)
   ·exact .inl (.inr h)
   ·exact .inr h),need_is (by omega),bind_s];rfl
 ·have h1:t.Lost=false:=by cases hh:t.Lost with
   |true=>exact absurd (.inl hh) h
   |false=>rfl
  rw[if_neg h,h1,if_neg (by simp only[Bool.false_or,Bool.or_eq_true,decide_eq_true_eq];omega),getI_n (by omega) (by omega),bind_s]
  by_cases h2:(row t.Blocks n.toNat).length=79
  ·rw[if_neg (by simp[h2]),bind_s,x_Clone _ (by omega),bind_s,if_pos h2]
  ·rw[if_pos (by simp only[bne_iff_ne,ne_eq];omega),if_neg h2]
theorem x_Row {l:List Tape_api} {n:Int} (hs:l.length≤1000):X.stripe_Row l n=some (rowS l n):=by
 unfold X.stripe_Row
 have key:run (X.stripe_Row_s8 l n) (([]:List (List UInt8)),(0:Int))=some (rowS l n):=by
  refine run_G0 (fun i=>tab i (fun i=>cell (tp l i) n)) (n:=l.length) (by omega) rfl (fun i hi=>?_) ?_
  ·unfold X.stripe_Row_s8
   simp only
   rw[if_pos (by simpa using hi),getI_tp hi,bind_s,x_cell,bind_s,need_is (by simp;omega),bind_s,wr_inc (by omega),tab_succ]
  ·unfold X.stripe_Row_s8
   simp only
   rw[if_neg (by simp)];rfl
 rw[key];rfl
theorem rowS_len {l:List Tape_api} {n:Int}:(rowS l n).length=l.length:=tab_len
def bad (l:List Tape_api) (n:Nat):Bool:=(rowS l (n:Int)).any (fun r=>r.length==0)
theorem rowS_le {l:List Tape_api} {n:Int}:∀r∈rowS l n,r.length≤1000000:=fun r hr=>by
 obtain ⟨i,_,rfl⟩:=mem_tab.1 hr
 rcases cell_len (t:=tp l i) (n:=n) with h|h
 ·omega
 ·rw[h];simp
theorem good_wide {l:List Tape_api} {n:Nat} (h:bad l n=false):Wide (rowS l (n:Int)) 79:=by
 intro r hr
 unfold bad at h
 rw[List.any_eq_false] at h
 have h1:=h r hr
 obtain ⟨i,_,rfl⟩:=mem_tab.1 hr
 rcases cell_len (t:=tp l i) (n:=(n:Int)) with h2|h2
 ·exact h2
 ·rw[h2] at h1;simp at h1
def parS (l:List Tape_api) (p n:Nat):List (List (List UInt8)):=tab p (fun j=>tab n (fun c=>row (encG (rowS l (c:Int)) (p:Int)).1 j))
def parG (l:List Tape_api) (p:Int):List (List (List UInt8))×Int:=
 if 1≤l.length∧0≤p∧l.length+p≤255 then (if (List.range (ln l l.length)).any (bad l)=true then ([],1) else (parS l p.toNat (ln l l.length),0)) else ([],1)
theorem enc_good {l:List Tape_api} {p n:Nat} (h1:1≤l.length) (h2:l.length+p≤255) (h:bad l n=false):(encG (rowS l (n:Int)) (p:Int)).2=0∧(encG (rowS l (n:Int)) (p:Int)).1.length=p:=by
 have hE:encG (rowS l (n:Int)) (p:Int)=(if (p:Int)=0 then ([],0) else (reck (cau (rowS l (n:Int)).length ((p:Int)).toNat) (rowS l (n:Int)) (row (rowS l (n:Int)) 0).length,0)):=if_pos ⟨by rw[rowS_len];exact h1,by omega,by rw[rowS_len];omega,alike_if (good_wide h)⟩
 rw[hE]
 by_cases hp:p=0
 ·subst hp;exact ⟨rfl,rfl⟩
 ·rw[if_neg (by omega)]
  exact ⟨rfl,by rw[reck_len,cau_len,Int.toNat_natCast]⟩
theorem parS_step {l:List Tape_api} {p n t:Nat} (ht:t<p) (f:Nat→Nat) (hf:f t=n):
 (tab p (fun j=>tab (f j) (fun c=>row (encG (rowS l (c:Int)) (p:Int)).1 j))).set t (tab n (fun c=>row (encG (rowS l (c:Int)) (p:Int)).1 t)++[row (encG (rowS l (n:Int)) (p:Int)).1 t])=
   tab p (fun j=>tab (if j=t then n+1 else f j) (fun c=>row (encG (rowS l (c:Int)) (p:Int)).1 j)):=by
 rw[tab_set]
 refine tab_congr fun j _=>?_
 by_cases h:j=t
 ·subst h
  rw[if_pos rfl,if_pos rfl,tab_succ]
 ·rw[if_neg h,if_neg h]
theorem x_Par {l:List Tape_api} {p:Int} (hs:Small l) (hp: -9223372036854775808≤p∧p≤9223372036854775807):X.stripe_Parity l p=some (parG l p):=by
 have hs1:=hs.1
 have hln:=ln_le hs l.length (Nat.le_refl _)
 unfold X.stripe_Parity
 rw[x_Row (by omega),bind_s,x_Encode _ _ rowS_le hp,bind_s]
 have hneg:alikeB (rowS l (-1))=true:=alike_if (w:=79) fun r hr=>by
  obtain ⟨i,_,rfl⟩:=mem_tab.1 hr
  rw[cell_neg (by omega)]
  exact List.length_replicate ..
 by_cases h:1≤l.length∧0≤p∧l.length+p≤255
 ·obtain ⟨h1,h2,h3⟩:=h
  have hE:encG (rowS l (-1)) p=(if p=0 then ([],0) else (reck (cau (rowS l (-1)).length p.toNat) (rowS l (-1)) (row (rowS l (-1)) 0).length,0)):=if_pos ⟨by rw[rowS_len];exact h1,h2,by rw[rowS_len];exact h3,hneg⟩
  have hE2:(encG (rowS l (-1)) p).2=0:=by rw[hE];split<;>rfl
  have hP:parG l p=(if (List.range (ln l l.length)).any (bad l)=true then ([],1) else (parS l p.toNat (ln l l.length),0)):=if_pos ⟨h1,h2,h3⟩
  rw[hE2,hP]
  obtain ⟨k,rfl⟩:=Int.eq_ofNat_of_zero_le h2
  simp only[bne_self_eq_false,Bool.false_eq_true,if_false]
  rw[need_is (by omega),bind_s,x_Len hs,bind_s,Int.toNat_natCast]
  have key:run (X.stripe_Parity_s16 ((ln l l.length:Nat):Int) l (k:Int)) (List.replicate k ([]:List (List UInt8)),(0:Int))=some (if (List.range (ln l l.length)).any (bad l)=true then .inr ([],1) else .inl (parS l k (ln l l.length))):=by
   refine run_ixE (fun i s=>s=parS l k i∧∀j,j<i→bad l j=false) (n:=ln l l.length) (by omega) ⟨by rw[tab_rep];rfl,fun j hj=>by omega⟩ (fun i s hi hI=>?_) (fun s hI=>?_)
   ·obtain ⟨rfl,hI⟩:=hI
    unfold X.stripe_Parity_s16
    simp only
    rw[if_pos (by simpa using hi),x_Row (by omega),bind_s]
    unfold X.slices_ContainsFunc_LLbyte_Lbyte
    rw[x_IndexFunc (fun r=>r.length==0) (fun a _=>by
     unfold X.stripe_Parity_c1
     refine congrArg some ?_
     rw[Bool.eq_iff_iff]
     simp) (by rw[rowS_len];omega),bind_s,bind_s,ixOf_ge]
    rw[show ((rowS l (i:Int)).any fun r=>r.length==0)=bad l i from rfl]
    cases hb:bad l i with
    |true=>
     right
     rw[if_pos rfl]
     have:(List.range (ln l l.length)).any (bad l)=true:=by
      rw[List.any_eq_true]
      exact ⟨i,List.mem_range.2 hi,hb⟩
     rw[if_pos this]
    |false=>
     left
     obtain ⟨g1,g2⟩:=enc_good (p:=k) h1 (by omega) hb
     rw[if_neg (by simp),x_Encode _ _ rowS_le (by omega),bind_s,g1]
     simp only[bne_self_eq_false,Bool.false_eq_true,if_false]
     have inner:run (X.stripe_Parity_s39 (encG (rowS l (i:Int)) (k:Int))) (parS l k i,(0:Int))=some (parS l k (i+1)):=by
      refine run_G0 (fun t=>tab k (fun j=>tab (if j<t then i+1 else i) (fun c=>row (encG (rowS l (c:Int)) (k:Int)).1 j))) (n:=k) (by omega) (tab_congr fun j _=>by rw[if_neg (by omega)]) (fun t ht=>?_) ?_
      ·unfold X.stripe_Parity_s39
       simp only
       rw[if_pos (by simp only[decide_eq_true_eq];omega),getI_row (by omega),bind_s,getI_tab ht,bind_s,if_neg (by omega),need_is (by simp;omega),bind_s,bind_s,wr_inc (by omega),Int.toNat_natCast,parS_step ht (fun j=>if j<t then i+1 else i) (if_neg (by omega))]
       refine congrArg (fun t=>some (Sum.inl (t,_))) (tab_congr fun j _=>?_)
       by_cases hjt:j=t
       ·rw[if_pos hjt,if_pos (by omega)]
       ·rw[if_neg hjt]
        by_cases h2:j<t
        ·rw[if_pos h2,if_pos (by omega)]
        ·rw[if_neg h2,if_neg (by omega)]
      ·unfold X.stripe_Parity_s39
       simp only
       rw[if_neg (by simp only[decide_eq_true_eq];omega)]
       exact congrArg (fun t=>some (Sum.inr t)) (tab_congr fun j hj=>by rw[if_pos hj])
     rw[inner,bind_s]
     refine ⟨parS l k (i+1),?_,rfl,fun j hj=>?_⟩
     ·show X.stripe_Parity_e39 (i:Int) _=_
      unfold X.stripe_Parity_e39
      rw[wr_inc (by omega)]
     ·rcases Nat.lt_succ_iff_lt_or_eq.1 hj with h|rfl
      ·exact hI j h
      ·exact hb
   ·obtain ⟨rfl,hI⟩:=hI
    unfold X.stripe_Parity_s16
    simp only
    rw[if_neg (by simp)]
    have:¬(List.range (ln l l.length)).any (bad l)=true:=by
     rw[Bool.not_eq_true,List.any_eq_false]
     intro j hj
     rw[hI j (List.mem_range.1 hj)];simp
    rw[if_neg this]
  rw[key,bind_s]
  cases (List.range (ln l l.length)).any (bad l)<;>rfl
 ·have hE:encG (rowS l (-1)) p=([],1):=if_neg (fun hh=>h ⟨by have:=hh.1;rw[rowS_len] at this;exact this,hh.2.1,by have:=hh.2.2.1;rw[rowS_len] at this;exact this⟩)
  have hP:parG l p=([],1):=if_neg h
  rw[hE,hP];rfl
end Go.AX
namespace Go.AX
end Go.AX
namespace Go.AX
open Go.AM
set_option linter.unusedSimpArgs false
theorem bd_s {α β:Type} (a:α) (f:α→Option β):(some a).bind f=f a:=rfl
end Go.AX
namespace Go.AX
open Go.AM
set_option linter.unusedSimpArgs false
def w4 (n:Nat):List UInt8:=[UInt8.ofNat (n/16777216),UInt8.ofNat (n/65536),UInt8.ofNat (n/256),UInt8.ofNat n]
def beN (l:List UInt8):Nat:=l.foldl (fun n c=>n*256+c.toNat) 0
@[simp] theorem w4_len (n:Nat):(w4 n).length=4:=rfl
theorem be_w4 {n:Nat} (h:n<4294967296):beN (w4 n)=n:=by
 simp only[w4,beN,List.foldl_cons,List.foldl_nil,UInt8.toNat_ofNat']
 omega
theorem four {l:List UInt8} (h:l.length=4):∃a b c d,l=[a,b,c,d]:=by
 match l,h with
 |[a,b,c,d],_=>exact ⟨a,b,c,d,rfl⟩
theorem w4_be {l:List UInt8} (h:l.length=4):w4 (beN l)=l:=by
 obtain ⟨a,b,c,d,rfl⟩:=four h
 have ha:=a.toNat_lt
 have hb:=b.toNat_lt
 have hc:=c.toNat_lt
 have hd:=d.toNat_lt
 have e:beN [a,b,c,d]=((a.toNat*256+b.toNat)*256+c.toNat)*256+d.toNat:=by simp[beN]
 have o:∀(x:UInt8) (m:Nat),m%256=x.toNat→UInt8.ofNat m=x:=fun x m hm=>by
  apply UInt8.toNat_inj.1
  rw[UInt8.toNat_ofNat',←hm]
 rw[e]
 unfold w4
 rw[o a _ (by omega),o b _ (by omega),o c _ (by omega),o d _ (by omega)]
theorem be_succ {l:List UInt8} {i:Nat} (h:i<l.length):beN (l.take (i+1))=beN (l.take i)*256+(l[i]).toNat:=by
 rw[List.take_succ_eq_append_getElem h]
 unfold beN
 rw[List.foldl_append];rfl
theorem be_pow:∀(i:Nat) (l:List UInt8),i≤l.length→beN (l.take i)<256^i
 |0,l,_=>by simp[beN]
 |i+1,l,h=>by
  rw[be_succ (by omega),Nat.pow_succ]
  have h1:=be_pow i l (by omega)
  have h2:=(l[i]'(by omega)).toNat_lt
  have h3:(beN (l.take i)+1)*256≤256^i*256:=Nat.mul_le_mul_right _ h1
  omega
theorem or_add {n c:Nat} (h:c<256):n*256|||c=n*256+c:=by
 have:=Nat.shiftLeft_add_eq_or_of_lt (i:=8) (b:=c) (by omega) n
 rw[Nat.shiftLeft_eq] at this
 exact this.symm
def tkA (n:Nat):Option (List UInt8)→List UInt8×Option (List UInt8)
 |none=>([],none)
 |some b=>if n≤b.length then (b.take n,some (b.drop n)) else ([],none)
theorem tkA_none (n:Nat):tkA n none=([],none):=rfl
theorem tkA_some (n:Nat) (b:List UInt8):tkA n (some b)=if n≤b.length then (b.take n,some (b.drop n)) else ([],none):=rfl
def byA (s:Option (List UInt8)):UInt8×Option (List UInt8):=((tkA 1 s).1.headD 0,(tkA 1 s).2)
def inA (s:Option (List UInt8)):Int×Option (List UInt8):=(((beN (tkA 4 s).1:Nat):Int),(tkA 4 s).2)
theorem tk_len (n:Nat) (s:Option (List UInt8)):(tkA n s).1.length=0∨(tkA n s).1.length=n:=by
 cases s with
 |none=>exact .inl rfl
 |some b=>
  rw[tkA_some]
  by_cases h:n≤b.length
  ·rw[if_pos h];right;simp;omega
  ·rw[if_neg h];exact .inl rfl
theorem tk_app {a X:List UInt8}:tkA a.length (some (a++X))=(a,some X):=by
 rw[tkA_some,if_pos (by simp)]
 simp
theorem by_app {c:UInt8} {X:List UInt8}:byA (some (c::X))=(c,some X):=by
 have:tkA 1 (some (c::X))=([c],some X):=tk_app (a:=[c]) (X:=X)
 unfold byA
 rw[this];rfl
theorem in_app {n:Nat} {X:List UInt8} (h:n<4294967296):inA (some (w4 n++X))=((n:Int),some X):=by
 have:tkA 4 (some (w4 n++X))=(w4 n,some X):=tk_app (a:=w4 n) (X:=X)
 unfold inA
 rw[this,be_w4 h]
end Go.AX
namespace Go.AX
open Go.AM
set_option linter.unusedSimpArgs false
def conC:Option (List UInt8)→List UInt8×Bool
 |none=>([],true)
 |some b=>(b,false)
theorem c_take (n:Nat) (s:Option (List UInt8)):X.code_Reader_take (n:Int) (conC s).1 (conC s).2=some ((tkA n s).1,conC (tkA n s).2):=by
 cases s with
 |none=>rfl
 |some b=>
  show X.code_Reader_take (n:Int) b false=_
  unfold X.code_Reader_take
  rw[if_neg (by simp)]
  by_cases h:n≤b.length
  ·rw[if_neg (by simp;omega),need_is (by omega),bd_s,need_is (by omega),bd_s,tkA_some,if_pos h]
   have h1:slc b (0:Int) (n:Int)=b.take n:=by simp[slc]
   have h2:slc b (n:Int) (b.length:Int)=b.drop n:=by
    unfold slc
    rw[Int.toNat_natCast,List.take_of_length_le (by simp)]
   rw[h1,h2]
   rfl
  ·rw[if_pos (by simp;omega),tkA_some,if_neg h]
   rfl
theorem c_byte (s:Option (List UInt8)):X.code_Reader_Byte (conC s).1 (conC s).2=some ((byA s).1,conC (byA s).2):=by
 unfold X.code_Reader_Byte
 have:=c_take 1 s
 rw[show (1:Int)=((1:Nat):Int) from rfl,this,bd_s]
 unfold byA
 cases h:(tkA 1 s).1 with
 |nil=>rfl
 |cons c l=>
  rw[if_neg (by simp;omega)]
  rfl
theorem c_int (s:Option (List UInt8)):X.code_Reader_Int (conC s).1 (conC s).2=some ((inA s).1,conC (inA s).2):=by
 unfold X.code_Reader_Int
 have:=c_take 4 s
 rw[show (4:Int)=((4:Nat):Int) from rfl,this,bd_s]
 have hl:(tkA 4 s).1.length≤4:=by rcases tk_len 4 s with h|h<;>omega
 generalize hx:(tkA 4 s).1=x at hl
 obtain ⟨n,h1,h2⟩:=run_ix0 (f:=X.code_Reader_Int_s10 (x,conC (tkA 4 s).2)) (s0:=(0:UInt32)) (n:=x.length) (fun i n=>n.toNat=beN (x.take i)) (fun n=>n.toNat=beN x) (by omega) rfl
  (fun i n hi hI=>by
    left
    unfold X.code_Reader_Int_s10
    simp only
    rw[if_pos (by simpa using hi),getI_nat hi,bd_s,wr_succ (by omega)]
    refine ⟨_,rfl,?_⟩
    have hp:=be_pow i x (by omega)
    have hi3:i≤3:=by omega
    have hq:256^i≤256^3:=Nat.pow_le_pow_right (by omega) hi3
    have hc:=(x[i]).toNat_lt
    rw[be_succ hi,UInt32.toNat_or]
    have e1:(shl32 n 8).toNat=beN (x.take i)*256:=by
     unfold shl32
     rw[UInt32.toNat_ofNat',hI]
     omega
    have e2:(u32 ((x[i]).toNat:Int)).toNat=(x[i]).toNat:=by
     unfold u32
     rw[UInt32.toNat_ofNat']
     omega
    rw[e1,e2,or_add hc])
  (fun n hI=>by
    unfold X.code_Reader_Int_s10
    simp only
    rw[if_neg (by simp)]
    exact ⟨_,rfl,by simpa using hI⟩)
 rw[h1,bd_s]
 unfold X.code_Reader_Int_e10 inA
 rw[hx]
 simp only[h2]
theorem c_new (b:List UInt8) (h:b.length≤100000):X.code_NewReader b=some (conC (some b)):=by
 unfold X.code_NewReader X.slices_Clone_Lbyte_byte
 rw[nilU_same (r:=b) (fun e=>by subst e;rfl) (by simp only[Bool.false_eq_true,if_false];rw[need_is (by omega),bd_s]),bd_s]
 rfl
end Go.AX
namespace Go.AX
open Go.AM
set_option linter.unusedSimpArgs false
theorem optG_b (g a:Bool):optG g (some a)=some (g&&a):=by cases g<;>rfl
theorem u8_m (m:Nat):u8 (m:Int)=UInt8.ofNat m:=by
 apply UInt8.toNat_inj.1
 unfold u8
 rw[UInt8.toNat_ofNat',UInt8.toNat_ofNat']
 omega
theorem c_wint {n:Int} {b:List UInt8} (h0:0≤n) (h1:n<4294967296) (hb:b.length≤100000):X.code_Writer_Int n b=some (b++w4 n.toNat):=by
 unfold X.code_Writer_Int
 rw[need_is (by simp only[List.length_cons,List.length_nil];omega),bd_s]
 have e:(u32 n).toNat=n.toNat:=by
  unfold u32
  rw[UInt32.toNat_ofNat']
  omega
 have s:∀k,(shr32 (u32 n) k).toNat=n.toNat/2^k:=fun k=>by
  unfold shr32
  rw[UInt32.toNat_ofNat',e]
  exact Nat.mod_eq_of_lt (Nat.lt_of_le_of_lt (Nat.div_le_self _ _) (by omega))
 rw[s,s,s,e]
 simp only[u8_m]
 rfl
theorem c_wbyte {c:UInt8} {b:List UInt8} (hb:b.length≤100000):X.code_Writer_Byte c b=some (b++[c]):=by
 unfold X.code_Writer_Byte
 rw[need_is (by simp only[List.length_cons,List.length_nil];omega),bd_s]
theorem c_bytes {b:List UInt8} (hb:b.length≤100000):X.code_Writer_Bytes b=some b:=by
 unfold X.code_Writer_Bytes X.slices_Clone_Lbyte_byte_own
 rw[nilU_same (r:=b) (fun e=>by subst e;rfl) (by simp only[Bool.false_eq_true,if_false];rw[need_is (by omega),bd_s]),bd_s]
theorem x_equal {a b:List UInt8} (ha:a.length≤1000000):X.slices_Equal_Lbyte_byte a b=some (a==b):=by
 unfold X.slices_Equal_Lbyte_byte
 by_cases hl:a.length=b.length
 ·rw[if_neg (by simp[hl])]
  obtain ⟨o,h1,h2⟩:=run_se (f:=X.slices_Equal_Lbyte_byte_s9 a b) (a:=0) (n:=a.length) (fun o=>(o= .inl ()∧a=b)∨(o= .inr false∧a≠b)) (fun i=>a.take i=b.take i) (Nat.zero_le _) (by omega) (by simp)
   (fun i _ hi hI=>by
     unfold X.slices_Equal_Lbyte_byte_s9
     simp only
     rw[if_pos (by simpa using hi),getI_nat hi,bd_s,getI_nat (by omega),bd_s]
     by_cases e:a[i]=b[i]'(by omega)
     ·left
      rw[if_neg (by simp[e]),wr_succ (by omega)]
      exact ⟨rfl,by rw[List.take_succ_eq_append_getElem hi,List.take_succ_eq_append_getElem (by omega),hI,e]⟩
     ·right
      rw[if_pos (by simp[e])]
      exact ⟨_,rfl,.inr ⟨rfl,fun h=>e (by subst h;rfl)⟩⟩)
   (fun hI=>by
     unfold X.slices_Equal_Lbyte_byte_s9
     simp only
     rw[if_neg (by simp)]
     refine ⟨_,rfl,.inl ⟨rfl,?_⟩⟩
     rw[List.take_length,hl,List.take_length] at hI
     exact hI)
  have h1':run (X.slices_Equal_Lbyte_byte_s9 a b) (0:Int)=some o:=h1
  rw[h1',bd_s]
  rcases h2 with ⟨rfl,rfl⟩|⟨rfl,h3⟩
  ·simp only[beq_self_eq_true];rfl
  ·simp only[beq_eq_false_iff_ne.2 h3]
 ·rw[if_pos (by simp;omega),beq_eq_false_iff_ne.2 (fun e=>hl (by rw[e]))]
end Go.AX
namespace Go.AX
open Go.AM
set_option linter.unusedSimpArgs false
def goodL (L:List Int):Prop:=(∀x∈L,1≤x∧x≤2147483647)∧L.Nodup
instance (L:List Int):Decidable (goodL L):=by unfold goodL;infer_instance
def RSl (s:Seal_api):Prop:=(1≤s.Number∧s.Number≤1073741824)∧(1≤s.Data∧s.Data≤14)∧(1≤s.Parity∧s.Parity≤14-s.Data)∧(0≤s.Index∧s.Index≤s.Data+s.Parity-1)∧(s.Labels.length:Int)=s.Data+s.Parity∧goodL s.Labels
instance (s:Seal_api):Decidable (RSl s):=by unfold RSl;infer_instance
theorem good_succ {L:List Int} {i:Nat} (hi:i<L.length) (h:goodL (L.take i)) (h1:1≤L[i]∧L[i]≤2147483647) (h2:L[i]∉L.take i):goodL (L.take (i+1)):=by
 rw[List.take_succ_eq_append_getElem hi]
 refine ⟨fun x hx=>?_,?_⟩
 ·rcases List.mem_append.1 hx with hx|hx
  ·exact h.1 x hx
  ·simp at hx;subst hx;exact h1
 ·rw[List.nodup_append]
  refine ⟨h.2,by simp,fun a ha b hb e=>?_⟩
  simp at hb
  subst hb;subst e
  exact h2 ha
theorem bad_elem {L:List Int} {i:Nat} (hi:i<L.length) (h:¬(1≤L[i]∧L[i]≤2147483647)):¬goodL L:=fun hg=>h (hg.1 _ (List.getElem_mem hi))
theorem bad_twice {L:List Int} {i:Nat} (hi:i<L.length) (h:L[i]∈L.take i):¬goodL L:=fun hg=>by
 have h1:(L.take (i+1)).Nodup:=List.Nodup.sublist (List.take_sublist _ _) hg.2
 rw[List.take_succ_eq_append_getElem hi,List.nodup_append] at h1
 exact h1.2.2 _ h _ (by simp) rfl
theorem contains_is {L:List Int} {v:Int} (hL:L.length≤100000):X.slices_Contains_Lint_int L v=some (decide (v∈L)):=by
 unfold X.slices_Contains_Lint_int X.slices_Index_Lint_int
 obtain ⟨o,h1,h2⟩:=run_se (f:=X.slices_Index_Lint_int_s6 L v) (a:=0) (n:=L.length) (fun o=>(o= .inl ()∧v∉L)∨(∃k:Nat,o= .inr (k:Int)∧v∈L)) (fun i=>v∉L.take i) (Nat.zero_le _) (by omega) (by simp)
  (fun i _ hi hI=>by
    unfold X.slices_Index_Lint_int_s6
    simp only
    rw[if_pos (by simpa using hi),getI_nat hi,bd_s]
    by_cases e:v=L[i]
    ·right
     rw[if_pos (by simp[e])]
     exact ⟨_,rfl,.inr ⟨i,rfl,by rw[e];exact List.getElem_mem hi⟩⟩
    ·left
     rw[if_neg (by simp[e]),wr_succ (by omega)]
     refine ⟨rfl,?_⟩
     rw[List.take_succ_eq_append_getElem hi,List.mem_append]
     rintro (h|h)
     ·exact hI h
     ·simp at h;exact e h)
  (fun hI=>by
    unfold X.slices_Index_Lint_int_s6
    simp only
    rw[if_neg (by simp)]
    exact ⟨_,rfl,.inl ⟨rfl,by simpa using hI⟩⟩)
 have h1':run (X.slices_Index_Lint_int_s6 L v) (0:Int)=some o:=h1
 rw[h1',bd_s]
 rcases h2 with ⟨rfl,h3⟩|⟨k,rfl,h3⟩
 ·rw[decide_eq_false h3];rfl
 ·rw[decide_eq_true h3]
  show some (decide ((k:Int)≥0))=_
  rw[decide_eq_true (by omega)]
theorem x_sright (s:Seal_api):X.record_RightSeal s=some (decide (RSl s)):=by
 unfold X.record_RightSeal
 simp only[X.record_within,optG_b,bd_s]
 by_cases h1:(1≤s.Number∧s.Number≤1073741824)∧(1≤s.Data∧s.Data≤14)∧(1≤s.Parity∧s.Parity≤14-s.Data)
 ·obtain ⟨⟨a1,a2⟩,⟨a3,a4⟩,a5,a6⟩:=h1
  have w1:wr ((14:Int)-s.Data)=14-s.Data:=wr_eq (by omega) (by omega)
  have w2:wr (s.Data+s.Parity)=s.Data+s.Parity:=wr_eq (by omega) (by omega)
  have w3:wr (s.Data+s.Parity-(1:Int))=s.Data+s.Parity-1:=wr_eq (by omega) (by omega)
  rw[w1,w2,w3,if_neg (by simp[a1,a2,a3,a4,a5,a6])]
  by_cases h2:(0≤s.Index∧s.Index≤s.Data+s.Parity-1)∧(s.Labels.length:Int)=s.Data+s.Parity
  ·obtain ⟨⟨b1,b2⟩,b3⟩:=h2
   rw[if_neg (by simp[b1,b2,b3])]
   have hlen:s.Labels.length≤14:=by omega
   obtain ⟨o,h1,h2⟩:=run_se (f:=X.record_RightSeal_s16 s) (a:=0) (n:=s.Labels.length) (fun o=>(o= .inl ()∧goodL s.Labels)∨(o= .inr false∧¬goodL s.Labels)) (fun i=>goodL (s.Labels.take i)) (Nat.zero_le _) (by omega) (by simp[goodL])
    (fun i _ hi hI=>by
      unfold X.record_RightSeal_s16 X.record_within
      simp only
      rw[if_pos (by simpa using hi),getI_nat hi,bd_s,bd_s]
      by_cases hr:1≤s.Labels[i]∧s.Labels[i]≤2147483647
      ·have hd:(decide (s.Labels[i]≥(1:Int))&&decide (s.Labels[i]≤(2147483647:Int)))=true:=by simp[hr.1,hr.2]
       rw[hd,Bool.not_true,Bool.not_false,optG_true,need_is (by omega),bd_s,optG_true]
       have hs:slc s.Labels (0:Int) (i:Int)=s.Labels.take i:=by simp[slc]
       rw[hs,contains_is (by simp;omega),bd_s]
       by_cases hm:s.Labels[i]∈s.Labels.take i
       ·right
        rw[decide_eq_true hm,if_pos (by simp)]
        exact ⟨_,rfl,.inr ⟨rfl,bad_twice hi hm⟩⟩
       ·left
        rw[decide_eq_false hm,if_neg (by simp),wr_succ (by omega)]
        exact ⟨rfl,good_succ hi hI hr hm⟩
      ·right
       have hd:(decide (s.Labels[i]≥(1:Int))&&decide (s.Labels[i]≤(2147483647:Int)))=false:=by simp;omega
       rw[hd,Bool.not_false,Bool.not_true,optG_false,bd_s,optG_false,bd_s,if_pos (by simp)]
       exact ⟨_,rfl,.inr ⟨rfl,bad_elem hi hr⟩⟩)
    (fun hI=>by
      unfold X.record_RightSeal_s16
      simp only
      rw[if_neg (by simp)]
      exact ⟨_,rfl,.inl ⟨rfl,by simpa using hI⟩⟩)
   have h1':run (X.record_RightSeal_s16 s) (0:Int)=some o:=h1
   rw[h1',bd_s]
   rcases h2 with ⟨rfl,h3⟩|⟨rfl,h3⟩
   ·rw[decide_eq_true (show RSl s from ⟨⟨a1,a2⟩,⟨a3,a4⟩,⟨a5,a6⟩,⟨b1,b2⟩,b3,h3⟩)];rfl
   ·rw[decide_eq_false (show ¬RSl s from fun hR=>h3 hR.2.2.2.2.2)]
  ·rw[decide_eq_false (show ¬RSl s from fun hR=>h2 ⟨hR.2.2.2.1,hR.2.2.2.2.1⟩),if_pos ?_]
   simp
   omega
 ·rw[decide_eq_false (show ¬RSl s from fun hR=>h1 ⟨hR.1,hR.2.1,hR.2.2.1⟩),if_pos ?_]
  by_cases hD:1≤s.Data∧s.Data≤14
  ·rw[wr_eq (by omega) (by omega)]
   simp
   omega
  ·simp
   omega
def flatL (L:List Int):List UInt8:=L.flatMap fun n=>w4 n.toNat
theorem flatL_len (L:List Int):(flatL L).length=4*L.length:=by
 unfold flatL
 rw[List.length_flatMap]
 simp only[w4_len]
 rw[List.map_const',List.sum_replicate_nat]
 omega
def encS (s:Seal_api):List UInt8:=w4 s.Number.toNat++(UInt8.ofNat s.Index.toNat::UInt8.ofNat s.Data.toNat::UInt8.ofNat s.Parity.toNat::flatL s.Labels)
theorem encS_len (s:Seal_api):(encS s).length=7+4*s.Labels.length:=by
 unfold encS
 simp[flatL_len]
 omega
theorem u8_i {n:Int} (h:0≤n):u8 n=UInt8.ofNat n.toNat:=by
 have:=u8_m n.toNat
 rwa [Int.toNat_of_nonneg h] at this
theorem x_sbytes (s:Seal_api):X.record_SealBytes s=some (if RSl s then encS s else []):=by
 unfold X.record_SealBytes
 rw[x_sright,bd_s]
 by_cases hR:RSl s
 ·rw[decide_eq_true hR,if_neg (by simp),if_pos hR]
  obtain ⟨⟨a1,a2⟩,⟨a3,a4⟩,⟨a5,a6⟩,⟨b1,b2⟩,b3,hg⟩:=hR
  have hlen:s.Labels.length≤14:=by omega
  rw[c_wint (by omega) (by omega) (by simp),bd_s,List.nil_append]
  have key:run (X.record_SealBytes_s16 s) (w4 s.Number.toNat,(0:Int))=some (w4 s.Number.toNat++[UInt8.ofNat s.Index.toNat,UInt8.ofNat s.Data.toNat,UInt8.ofNat s.Parity.toNat]):=by
   have hall:∀n∈([s.Index,s.Data,s.Parity]:List Int),0≤n:=by
    intro n hn
    simp only[List.mem_cons,List.not_mem_nil,or_false] at hn
    rcases hn with rfl|rfl|rfl<;>omega
   have hm:[UInt8.ofNat s.Index.toNat,UInt8.ofNat s.Data.toNat,UInt8.ofNat s.Parity.toNat]=([s.Index,s.Data,s.Parity]:List Int).map fun n=>UInt8.ofNat n.toNat:=rfl
   rw[hm]
   generalize hL:([s.Index,s.Data,s.Parity]:List Int)=L at hall
   have hl3:L.length=3:=by rw[←hL];rfl
   refine run_G0 (n:=L.length) (fun i=>w4 s.Number.toNat++(L.take i).map fun n=>UInt8.ofNat n.toNat) (by omega) (by simp) ?_ ?_
   ·intro i hi
    unfold X.record_SealBytes_s16
    simp only[hL]
    rw[if_pos (by simpa using hi),getI_nat hi,bd_s,u8_i (hall _ (List.getElem_mem hi)),c_wbyte (by simp;omega),bd_s,wr_succ (by omega),List.take_succ_eq_append_getElem hi]
    simp only[List.map_append,List.map_cons,List.map_nil,List.append_assoc]
   ·unfold X.record_SealBytes_s16
    simp only[hL]
    rw[if_neg (by simp),List.take_length]
  rw[key,bd_s]
  simp only
  unfold X.record_SealBytes_e16
  have key2:run (X.record_SealBytes_s26 s) (w4 s.Number.toNat++[UInt8.ofNat s.Index.toNat,UInt8.ofNat s.Data.toNat,UInt8.ofNat s.Parity.toNat],(0:Int))=some (encS s):=by
   refine run_G0 (n:=s.Labels.length) (fun i=>w4 s.Number.toNat++[UInt8.ofNat s.Index.toNat,UInt8.ofNat s.Data.toNat,UInt8.ofNat s.Parity.toNat]++flatL (s.Labels.take i)) (by omega) (by simp[flatL]) ?_ ?_
   ·intro i hi
    unfold X.record_SealBytes_s26
    simp only
    obtain ⟨q1,q2⟩:=hg.1 _ (List.getElem_mem hi)
    rw[if_pos (by simpa using hi),getI_nat hi,bd_s,c_wint (by omega) (by omega) (by simp[flatL_len];omega),bd_s,wr_succ (by omega),List.take_succ_eq_append_getElem hi]
    simp only[flatL,List.flatMap_append,List.flatMap_cons,List.flatMap_nil,List.append_nil,List.append_assoc]
   ·unfold X.record_SealBytes_s26
    simp only
    rw[if_neg (by simp),List.take_length]
    simp[encS]
  rw[key2,bd_s]
  simp only
  unfold X.record_SealBytes_e26
  rw[c_bytes (by rw[encS_len];omega),bd_s]
 ·rw[decide_eq_false hR,if_pos (by simp),if_neg hR]
def labs:List UInt8→Option (List Int)
 |[]=>some []
 |a::b::c::d::r=>(labs r).map (((beN [a,b,c,d]:Nat):Int)::·)
 |_=>none
theorem labs_flat:∀{L:List Int},(∀x∈L,0≤x∧x<4294967296)→labs (flatL L)=some L
 |[],_=>rfl
 |x::L,h=>by
  obtain ⟨h1,h2⟩:=h x (by simp)
  have e:flatL (x::L)=w4 x.toNat++flatL L:=rfl
  have e2:labs (w4 x.toNat++flatL L)=(labs (flatL L)).map (((beN (w4 x.toNat):Nat):Int)::·):=rfl
  rw[e,e2,labs_flat (fun y hy=>h y (List.mem_cons_of_mem _ hy)),be_w4 (by omega),Int.toNat_of_nonneg h1];rfl
theorem flat_labs:∀{t:List UInt8} {L:List Int},labs t=some L→flatL L=t
 |[],L,h=>by simp[labs] at h;subst h;rfl
 |[_],L,h=>by simp[labs] at h
 |[_,_],L,h=>by simp[labs] at h
 |[_,_,_],L,h=>by simp[labs] at h
 |a::b::c::d::r,L,h=>by
  rw[labs,Option.map_eq_some_iff] at h
  obtain ⟨M,h1,rfl⟩:=h
  have e:flatL (((beN [a,b,c,d]:Nat):Int)::M)=w4 (beN [a,b,c,d])++flatL M:=rfl
  rw[e,w4_be rfl,flat_labs h1];rfl
theorem in_inv {b X:List UInt8} (h:(inA (some b)).2=some X):b=w4 (inA (some b)).1.toNat++X:=by
 unfold inA at h ⊢
 rw[tkA_some] at h ⊢
 by_cases hl:4≤b.length
 ·rw[if_pos hl] at h ⊢
  simp only[Option.some.injEq] at h
  subst h
  simp only[Int.toNat_natCast]
  rw[w4_be (by simp;omega),List.take_append_drop]
 ·rw[if_neg hl] at h;cases h
theorem by_inv {b X:List UInt8} (h:(byA (some b)).2=some X):b=(byA (some b)).1::X:=by
 unfold byA at h ⊢
 rw[tkA_some] at h ⊢
 by_cases hl:1≤b.length
 ·rw[if_pos hl] at h ⊢
  simp only[Option.some.injEq] at h
  subst h
  cases b with
  |nil=>simp at hl
  |cons c l=>rfl
 ·rw[if_neg hl] at h;cases h
theorem by_some {s:Option (List UInt8)} {X:List UInt8} (h:(byA s).2=some X):∃b,s=some b:=by
 cases s with
 |none=>cases h
 |some b=>exact ⟨b,rfl⟩
def p7 (b:List UInt8):Int×UInt8×UInt8×UInt8×Option (List UInt8):=
 let n:=inA (some b);let i:=byA n.2;let d:=byA i.2;let p:=byA d.2
 (n.1,i.1,d.1,p.1,p.2)
theorem p7_app {n:Nat} {i d p:UInt8} {X:List UInt8} (h:n<4294967296):p7 (w4 n++(i::d::p::X))=((n:Int),i,d,p,some X):=by
 unfold p7
 simp only[in_app h,by_app]
theorem p7_inv {b X:List UInt8} (h:(p7 b).2.2.2.2=some X):b=w4 (p7 b).1.toNat++((p7 b).2.1::(p7 b).2.2.1::(p7 b).2.2.2.1::X):=by
 unfold p7 at h ⊢
 simp only at h ⊢
 obtain ⟨b3,e3⟩:=by_some h
 obtain ⟨b2,e2⟩:=by_some e3
 obtain ⟨b1,e1⟩:=by_some e2
 rw[e3] at h ⊢
 rw[e2] at e3 ⊢
 rw[e1] at e2 ⊢
 have q1:=in_inv e1
 have q2:=by_inv e2
 have q3:=by_inv e3
 have q4:=by_inv h
 rw[←q4,←q3,←q2,←q1]
def okS (b:List UInt8) (s:Seal_api):Prop:=RSl s∧encS s=b
def zeroS:Seal_api:=⟨0,0,0,0,[]⟩
def Rd (b:List UInt8) (r:Seal_api×Int):Prop:=(∃s,okS b s∧r=(s,0))∨((¬∃s,okS b s)∧r=(zeroS,2))
theorem ofNat_toNat (x:UInt8):UInt8.ofNat x.toNat=x:=by
 apply UInt8.toNat_inj.1
 rw[UInt8.toNat_ofNat']
 have:=x.toNat_lt
 omega
theorem p7_enc {s:Seal_api} (h:RSl s) (X:List UInt8):p7 (encS s++X)=(s.Number,UInt8.ofNat s.Index.toNat,UInt8.ofNat s.Data.toNat,UInt8.ofNat s.Parity.toNat,some (flatL s.Labels++X)):=by
 obtain ⟨⟨a1,a2⟩,_⟩:=h
 have e:encS s++X=w4 s.Number.toNat++(UInt8.ofNat s.Index.toNat::UInt8.ofNat s.Data.toNat::UInt8.ofNat s.Parity.toNat::(flatL s.Labels++X)):=by simp[encS]
 rw[e,p7_app (by omega),Int.toNat_of_nonneg (by omega)]
theorem small {n:Int} (h0:0≤n) (h1:n<256):((UInt8.ofNat n.toNat).toNat:Int)=n:=by
 rw[UInt8.toNat_ofNat']
 omega
theorem p7_seal {b:List UInt8} {s:Seal_api} (h:okS b s):p7 b=(s.Number,UInt8.ofNat s.Index.toNat,UInt8.ofNat s.Data.toNat,UInt8.ofNat s.Parity.toNat,some (flatL s.Labels))∧labs (flatL s.Labels)=some s.Labels∧
 s=⟨(p7 b).1,((p7 b).2.1.toNat:Int),((p7 b).2.2.1.toNat:Int),((p7 b).2.2.2.1.toNat:Int),s.Labels⟩:=by
 obtain ⟨hR,rfl⟩:=h
 have h7:=p7_enc hR []
 rw[List.append_nil,List.append_nil] at h7
 obtain ⟨⟨a1,a2⟩,⟨a3,a4⟩,⟨a5,a6⟩,⟨b1,b2⟩,b3,hg⟩:=hR
 refine ⟨h7,labs_flat fun x hx=>by have:=hg.1 x hx;omega,?_⟩
 rw[h7]
 obtain ⟨n,i,d,p,L⟩:=s
 simp only at a3 a5 b1 b2 a4 a6 ⊢
 rw[small b1 (by omega),small (by omega) (by omega),small (by omega) (by omega)]
theorem okS_inj {b:List UInt8} {s s':Seal_api} (h:okS b s) (h':okS b s'):s=s':=by
 obtain ⟨h1,h2,h3⟩:=p7_seal h
 obtain ⟨k1,k2,k3⟩:=p7_seal h'
 rw[h1] at k1
 have hf:flatL s.Labels=flatL s'.Labels:=by simpa using (Prod.mk.inj (Prod.mk.inj (Prod.mk.inj (Prod.mk.inj k1).2).2).2).2
 rw[hf,k2] at h2
 injection h2 with h2
 rw[h3,k3,h2]
theorem Rd_uniq {b:List UInt8} {r r':Seal_api×Int} (h:Rd b r) (h':Rd b r'):r=r':=by
 rcases h with ⟨s,h1,rfl⟩|⟨h1,rfl⟩<;>rcases h' with ⟨s',h2,rfl⟩|⟨h2,rfl⟩
 ·rw[okS_inj h1 h2]
 ·exact absurd ⟨s,h1⟩ h2
 ·exact absurd ⟨s',h2⟩ h1
 ·rfl
theorem Rd_enc {s:Seal_api} (h:RSl s) {r:Seal_api×Int} (hr:Rd (encS s) r):r=(s,0):=Rd_uniq hr (.inl ⟨s,⟨h,rfl⟩,rfl⟩)
theorem x_labels (n i d p:Int) (st:Option (List UInt8)) (hb:∀t,st=some t→t.length≤100000):∃(q:Option (List UInt8)) (L:List Int),run X.record_ReadSeal_s37 ((conC st).1,(conC st).2,n,i,d,p,([]:List Int))=some ((conC q).1,(conC q).2,n,i,d,p,L)∧
 ((∃t,st=some t∧labs t=some L∧q=some [])∨((st=none∨∃t,st=some t∧labs t=none)∧q=none)):=by
 obtain ⟨o,h1,q,L,rfl,h2⟩:=run_inv (f:=X.record_ReadSeal_s37) (s:=((conC st).1,(conC st).2,n,i,d,p,([]:List Int)))
  (fun x=>∃(st':Option (List UInt8)) (l:List Int),x=((conC st').1,(conC st').2,n,i,d,p,l)∧l.length≤100000∧(∀t',st'=some t'→l.length+t'.length≤100000)∧
    ((∃t t',st=some t∧st'=some t'∧labs t=(labs t').map (l++·))∨((st=none∨∃t,st=some t∧labs t=none)∧st'=none)))
  (fun o=>∃(q:Option (List UInt8)) (L:List Int),o=((conC q).1,(conC q).2,n,i,d,p,L)∧((∃t,st=some t∧labs t=some L∧q=some [])∨((st=none∨∃t,st=some t∧labs t=none)∧q=none)))
  (fun x=>x.1.length) ⟨st,[],rfl,by simp,fun t' h=>by have:=hb t' h;simpa using this,by
    cases st with
    |none=>exact .inr ⟨.inl rfl,rfl⟩
    |some t=>exact .inl ⟨t,t,rfl,rfl,by simp⟩⟩ (by
    cases st with
    |none=>simp[conC]
    |some t=>have:=hb t rfl;simp only[conC];omega) (by
    rintro _ ⟨st',l,rfl,hl,hl2,hI⟩
    have stop:∀q,conC q=([],(conC q).2)→((∃t,st=some t∧labs t=some l∧q=some [])∨((st=none∨∃t,st=some t∧labs t=none)∧q=none))→
     ∃r,X.record_ReadSeal_s37 ((conC q).1,(conC q).2,n,i,d,p,l)=some (.inr r)∧∃(q:Option (List UInt8)) (L:List Int),r=((conC q).1,(conC q).2,n,i,d,p,L)∧((∃t,st=some t∧labs t=some L∧q=some [])∨((st=none∨∃t,st=some t∧labs t=none)∧q=none)):=by
     intro q hq hR
     refine ⟨_,?_,q,l,rfl,hR⟩
     unfold X.record_ReadSeal_s37 X.code_Reader_Left
     simp only
     rw[bd_s,if_neg (by rw[hq];simp)]
    rcases hI with ⟨t,t',e1,rfl,e3⟩|⟨e1,rfl⟩
    ·cases t' with
     |nil=>
      right
      exact stop (some []) rfl (.inl ⟨t,e1,by rw[e3];simp[labs],rfl⟩)
     |cons c t2=>
      left
      unfold X.record_ReadSeal_s37 X.code_Reader_Left
      simp only
      rw[bd_s,if_pos (by simp[conC]),c_int,bd_s,need_is (by simp;omega),bd_s]
      have hll:=hl2 _ rfl
      refine ⟨_,rfl,⟨(inA (some (c::t2))).2,l++[(inA (some (c::t2))).1],rfl,(by simp at hll ⊢<;>omega),fun t'' h=>?_,?_⟩,?_⟩
      ·have:=in_inv h
       have h4:=congrArg List.length this
       simp at h4 hll ⊢
       omega
      ·by_cases h4:4≤(c::t2).length
       ·left
        match t2,h4 with
        |x::y::z::r,_=>
         refine ⟨t,r,e1,?_,?_⟩
         ·unfold inA;rw[tkA_some,if_pos (by simp)];rfl
         ·have ev:(inA (some (c::x::y::z::r))).1=((beN [c,x,y,z]:Nat):Int):=by unfold inA;rw[tkA_some,if_pos (by simp)];rfl
          rw[e3,labs,ev]
          cases labs r<;>simp
       ·right
        refine ⟨.inr ⟨t,e1,?_⟩,?_⟩
        ·rw[e3]
         match t2,h4 with
         |[],_=>rfl
         |[x],_=>rfl
         |[x,y],_=>rfl
         |x::y::z::r,h4=>simp at h4
        ·unfold inA;rw[tkA_some,if_neg h4]
      ·simp only
       by_cases h4:4≤(c::t2).length
       ·have e:(inA (some (c::t2))).2=some ((c::t2).drop 4):=by unfold inA;rw[tkA_some,if_pos h4]
        rw[e]
        simp only[conC,List.length_drop]
        omega
       ·have e:(inA (some (c::t2))).2=none:=by unfold inA;rw[tkA_some,if_neg h4]
        rw[e]
        simp[conC]
    ·right
     exact stop none rfl (.inr ⟨e1,rfl⟩))
 exact ⟨q,L,h1,h2⟩
theorem x_sread (b:List UInt8) (hb:b.length≤100000):∃r,X.record_ReadSeal b=some r∧Rd b r:=by
 unfold X.record_ReadSeal
 rw[c_new b hb,bd_s,c_int,bd_s]
 simp only[c_byte,bd_s]
 have hp:p7 b=((inA (some b)).1,(byA (inA (some b)).2).1,(byA (byA (inA (some b)).2).2).1,(byA (byA (byA (inA (some b)).2).2).2).1,(byA (byA (byA (inA (some b)).2).2).2).2):=rfl
 obtain ⟨q,L,h1,h2⟩:=x_labels (inA (some b)).1 ((byA (inA (some b)).2).1.toNat:Int) ((byA (byA (inA (some b)).2).2).1.toNat:Int) ((byA (byA (byA (inA (some b)).2).2).2).1.toNat:Int) (byA (byA (byA (inA (some b)).2).2).2).2 (fun t ht=>by
  have h5:(p7 b).2.2.2.2=some t:=by rw[hp];exact ht
  have h6:=congrArg List.length (p7_inv h5)
  simp at h6
  omega)
 rw[h1,bd_s]
 simp only
 unfold X.record_ReadSeal_e37 X.code_Reader_Bad
 rw[bd_s,x_sright]
 rcases h2 with ⟨t,e1,e2,rfl⟩|⟨e1,rfl⟩
 ·have e5:(p7 b).2.2.2.2=some t:=by rw[hp];exact e1
  have hb7:=p7_inv e5
  have hq:(⟨(inA (some b)).1,((byA (inA (some b)).2).1.toNat:Int),((byA (byA (inA (some b)).2).2).1.toNat:Int),((byA (byA (byA (inA (some b)).2).2).2).1.toNat:Int),L⟩:Seal_api)=⟨(p7 b).1,((p7 b).2.1.toNat:Int),((p7 b).2.2.1.toNat:Int),((p7 b).2.2.2.1.toNat:Int),L⟩:=by rw[hp]
  rw[hq]
  have henc:encS ⟨(p7 b).1,((p7 b).2.1.toNat:Int),((p7 b).2.2.1.toNat:Int),((p7 b).2.2.2.1.toNat:Int),L⟩=b:=by
   unfold encS
   simp only[Int.toNat_natCast,ofNat_toNat]
   rw[flat_labs e2]
   exact hb7.symm
  by_cases hR:RSl ⟨(p7 b).1,((p7 b).2.1.toNat:Int),((p7 b).2.2.1.toNat:Int),((p7 b).2.2.2.1.toNat:Int),L⟩
  ·rw[decide_eq_true hR]
   exact ⟨_,rfl,.inl ⟨_,⟨hR,henc⟩,rfl⟩⟩
  ·rw[decide_eq_false hR]
   refine ⟨_,rfl,.inr ⟨?_,rfl⟩⟩
   rintro ⟨s,hs⟩
   obtain ⟨k1,k2,k3⟩:=p7_seal hs
   have:some (flatL s.Labels)=some t:=by rw[←e5,k1]
   injection this with this
   rw[this,e2] at k2
   injection k2 with k2
   rw[k2,←k3] at hR
   exact hR hs.1
 ·refine ⟨(zeroS,2),rfl,.inr ⟨?_,rfl⟩⟩
  rintro ⟨s,hs⟩
  obtain ⟨k1,k2,_⟩:=p7_seal hs
  have e5:(byA (byA (byA (inA (some b)).2).2).2).2=some (flatL s.Labels):=by
   have:(p7 b).2.2.2.2=some (flatL s.Labels):=by rw[k1]
   rw[hp] at this;exact this
  rcases e1 with e1|⟨t,e1,e2⟩
  ·rw[e1] at e5;cases e5
  ·rw[e1] at e5
   injection e5 with e5
   rw[e5,k2] at e2
   cases e2
end Go.AX
namespace Go.AX
open Go.AM
set_option linter.unusedSimpArgs false
end Go.AX
namespace Go.AX
open Go.AM
set_option linter.unusedSimpArgs false
theorem or64_nat {a c:Nat} (ha:a<16777216) (hc:c<256):or64 (shl64 (a:Int) (((8:UInt64).toNat:Nat):Int)) (c:Int)=((a*256+c:Nat):Int):=by
 have e:shl64 (a:Int) (((8:UInt64).toNat:Nat):Int)=((a*256:Nat):Int):=by
  unfold shl64
  have:min (((8:UInt64).toNat:Nat):Int).toNat 64=8:=by decide
  rw[this]
  have h:=wr_eq (x:=(a:Int)*2^8) (by omega) (by omega)
  unfold wr at h
  rw[h]
  omega
 rw[e]
 unfold or64 bitsI
 have hb:∀n:Nat,n<18446744073709551616→(BitVec.ofInt IntKind.i64.bits (n:Int)).toNat=n:=by
  intro n hn
  show (BitVec.ofInt 64 (n:Int)).toNat=n
  simp
  omega
 simp only
 rw[BitVec.toNat_or,hb _ (by omega),hb _ (by omega),or_add hc]
 exact wr_eq (by omega) (by omega)
end Go.AX
namespace Go.AX
open Go.AM
set_option linter.unusedSimpArgs false
theorem y_wint {n:Int} {b:List UInt8} (h0:0≤n) (h1:n<4294967296) (hb:b.length≤100000):X.cartridgeref1_Writer_Int n b=some (b++w4 n.toNat):=by
 unfold X.cartridgeref1_Writer_Int
 rw[need_is (by simp only[List.length_cons,List.length_nil];omega),bd_s]
 have e:(u64 n).toNat=n.toNat:=by
  unfold u64
  rw[UInt64.toNat_ofNat']
  omega
 have s:∀k,(shru64 (u64 n) k).toNat=n.toNat/2^k:=fun k=>by
  unfold shru64
  rw[UInt64.toNat_ofNat',e]
  exact Nat.mod_eq_of_lt (Nat.lt_of_le_of_lt (Nat.div_le_self _ _) (by omega))
 have m:∀x:UInt64,u8 (((x&&&255).toNat:Nat):Int)=UInt8.ofNat x.toNat:=fun x=>by
  rw[u8_m,UInt64.toNat_and]
  apply UInt8.toNat_inj.1
  rw[UInt8.toNat_ofNat',UInt8.toNat_ofNat']
  have:x.toNat&&&(255:UInt64).toNat=x.toNat%256:=Nat.and_two_pow_sub_one_eq_mod x.toNat 8
  rw[this]
  omega
 rw[m,m,m,m,s,s,s,e]
 rfl
theorem y_wbyte {c:UInt8} {b:List UInt8} (hb:b.length≤100000):X.cartridgeref1_Writer_Byte c b=some (b++[c]):=by
 unfold X.cartridgeref1_Writer_Byte
 rw[need_is (by simp only[List.length_cons,List.length_nil];omega),bd_s]
end Go.AX
namespace Go.AX
open Go.AM
set_option linter.unusedSimpArgs false
end Go.AX
namespace Go.AX
open Go.AM
set_option linter.unusedSimpArgs false
set_option linter.unusedVariables false
def bitC (x:UInt32):UInt32:=if (x&&&(1:UInt32))==(1:UInt32) then (shr32 x 1)^^^(2197175160:UInt32) else shr32 x 1
def bitsC:Nat→UInt32→UInt32
 |0,x=>x
 |n+1,x=>bitC (bitsC n x)
def bytC (x:UInt32) (b:UInt8):UInt32:=bitsC 8 (x^^^u32 (b.toNat:Int))
def crc (b:List UInt8):UInt32:=(b.foldl bytC (4294967295:UInt32))^^^(4294967295:UInt32)
theorem fold_succ {b:List UInt8} {i:Nat} (h:i<b.length) (x:UInt32):(b.take (i+1)).foldl bytC x=bytC ((b.take i).foldl bytC x) b[i]:=by
 rw[List.take_add_one,List.getElem?_eq_getElem h,List.foldl_append];rfl
theorem xor0:((0:UInt32)^^^(4294967295:UInt32))=(4294967295:UInt32):=by decide
theorem c_bits (x:UInt32):run X.castagnoli_More_s19 (x,(0:Int))=some (bitsC 8 x):=by
 refine run_G0 (n:=8) (fun i=>bitsC i x) (by omega) rfl (fun i hi=>?_) ?_
 ·show X.castagnoli_More_s19 (bitsC i x,(i:Int))=some (.inl (bitC (bitsC i x),_))
  unfold X.castagnoli_More_s19 bitC
  simp only[]
  rw[if_pos (by simp;omega),wr_succ (by omega)]
  split<;>rfl
 ·rfl
theorem c_crc {b:List UInt8} (hb:b.length≤1000000):X.castagnoli_Sum b=some (crc b):=by
 have hr:run (X.castagnoli_More_s7 b) ((4294967295:UInt32),(0:Int))=some (b.foldl bytC (4294967295:UInt32)):=by
  refine run_G0 (n:=b.length) (fun i=>(b.take i).foldl bytC (4294967295:UInt32)) (by omega) rfl (fun i hi=>?_) ?_
  ·show X.castagnoli_More_s7 b ((b.take i).foldl bytC (4294967295:UInt32),(i:Int))=some (.inl ((b.take (i+1)).foldl bytC (4294967295:UInt32),_))
   unfold X.castagnoli_More_s7
   simp only[]
   rw[if_pos (by simp;omega),getI_nat hi,bd_s,c_bits,bd_s]
   unfold X.castagnoli_More_e19
   rw[wr_succ (by omega),fold_succ hi]
   rfl
  ·unfold X.castagnoli_More_s7
   simp only[]
   rw[if_neg (by simp),List.take_length]
 unfold X.castagnoli_Sum X.castagnoli_More
 rw[xor0,hr]
 rfl
theorem y_bits (x:UInt32):run X.cartridgeref1_More_s18 (x,(0:Int))=some (bitsC 8 x):=by
 refine run_G0 (n:=8) (fun i=>bitsC i x) (by omega) rfl (fun i hi=>?_) ?_
 ·show X.cartridgeref1_More_s18 (bitsC i x,(i:Int))=some (.inl (bitC (bitsC i x),_))
  unfold X.cartridgeref1_More_s18 bitC X.cartridgeref1_More_j24
  simp only[]
  rw[if_pos (by simp;omega),wr_succ (by omega)]
  split<;>rfl
 ·rfl
theorem y_crc {b:List UInt8} (hb:b.length≤1000000):X.cartridgeref1_Crc b=some (crc b):=by
 have hr:run (X.cartridgeref1_More_s7 b) ((4294967295:UInt32),(0:Int))=some (b.foldl bytC (4294967295:UInt32)):=by
  refine run_G0 (n:=b.length) (fun i=>(b.take i).foldl bytC (4294967295:UInt32)) (by omega) rfl (fun i hi=>?_) ?_
  ·show X.cartridgeref1_More_s7 b ((b.take i).foldl bytC (4294967295:UInt32),(i:Int))=some (.inl ((b.take (i+1)).foldl bytC (4294967295:UInt32),_))
   unfold X.cartridgeref1_More_s7
   simp only[]
   rw[if_pos (by simp;omega),getI_nat hi,bd_s,y_bits,bd_s]
   unfold X.cartridgeref1_More_e18
   rw[wr_succ (by omega),fold_succ hi]
   rfl
  ·unfold X.cartridgeref1_More_s7
   simp only[]
   rw[if_neg (by simp),List.take_length]
 unfold X.cartridgeref1_Crc X.cartridgeref1_More
 rw[xor0,hr]
 rfl
def roomN (k:Int):Nat:=if k=6 then 79 else 64
def OKU (u:Unit_api):Prop:=(1≤u.Kind∧u.Kind≤6)∧(1≤u.Label∧u.Label≤2147483647)∧(0≤u.Number∧u.Number≤2147483647)
instance (u:Unit_api):Decidable (OKU u):=by unfold OKU;infer_instance
def bodyF (u:Unit_api):List UInt8:=(UInt8.ofNat u.Kind.toNat::(w4 u.Label.toNat++(w4 u.Number.toNat++(UInt8.ofNat (u.Load.length/256)::UInt8.ofNat u.Load.length::(u.Load++List.replicate (roomN u.Kind-u.Load.length) 0)))))
def frameL (u:Unit_api):List UInt8:=bodyF u++w4 (crc (bodyF u)).toNat
theorem room_le (k:Int):roomN k≤79:=by unfold roomN;split<;>omega
theorem body_len {u:Unit_api} (h:u.Load.length≤roomN u.Kind):(bodyF u).length=11+roomN u.Kind:=by
 unfold bodyF
 simp only[List.length_cons,List.length_append,w4_len,List.length_replicate]
 omega
theorem frame_len {u:Unit_api} (h:u.Load.length≤roomN u.Kind):(frameL u).length=15+roomN u.Kind:=by
 unfold frameL
 rw[List.length_append,body_len h,w4_len];omega
def zeroU:Unit_api:=⟨0,0,0,[]⟩
def putF (u:Unit_api):List UInt8×Int:=if OKU u then if u.Load.length≤roomN u.Kind then (frameL u,0) else ([],4) else ([],1)
theorem shr8F {n:Nat} (h:n≤1000000):u8 (shr64 (n:Int) ((8:UInt64).toNat:Int))=UInt8.ofNat (n/256):=by
 have e:shr64 (n:Int) ((8:UInt64).toNat:Int)=((n/256:Nat):Int):=by
  unfold shr64
  have:min (((8:UInt64).toNat:Nat):Int).toNat 64=8:=by decide
  rw[this]
  have h1:(n:Int).fdiv (2^8)=((n/256:Nat):Int):=by rw[Int.fdiv_eq_ediv_of_nonneg _ (by decide)];omega
  first
   |exact h1
   |(rw[h1];exact wr_eq (by omega) (by omega))
 rw[e,u8_m]
theorem y_put (u:Unit_api) (hl:u.Load.length≤100000):X.cartridgeref1_PutFrame u=some (putF u):=by
 have hj:X.cartridgeref1_PutFrame u=X.cartridgeref1_PutFrame_j4 u (roomN u.Kind:Nat):=by
  unfold X.cartridgeref1_PutFrame roomN
  by_cases h:u.Kind=6
  ·rw[if_pos (by simp[h]),if_pos h];rfl
  ·rw[if_neg (by simp[h]),if_neg h];rfl
 rw[hj]
 unfold X.cartridgeref1_PutFrame_j4 putF
 have hr:=room_le u.Kind
 by_cases h:OKU u
 ·obtain ⟨⟨a1,a2⟩,⟨a3,a4⟩,a5,a6⟩:=h
  rw[if_pos (show OKU u from ⟨⟨a1,a2⟩,⟨a3,a4⟩,a5,a6⟩),if_neg (by simp;omega)]
  by_cases hm:u.Load.length≤roomN u.Kind
  ·rw[if_neg (by simp;omega),if_pos hm,y_wbyte (by simp),bd_s,y_wint (by omega) (by omega) (by simp),bd_s,y_wint (by omega) (by omega) (by simp[w4_len]),bd_s]
   rw[need_is (by simp[w4_len]),bd_s,need_is (by simp[w4_len];omega),bd_s]
   have hw:wr (((roomN u.Kind:Nat):Int)-(u.Load.length:Int))=((roomN u.Kind-u.Load.length:Nat):Int):=by
    rw[wr_eq (by omega) (by omega)];omega
   have ha:u8 (and64 (u.Load.length:Int) (255:Int))=UInt8.ofNat u.Load.length:=by
    unfold and64 bitsI
    have hb:∀n:Nat,n<18446744073709551616→(BitVec.ofInt IntKind.i64.bits (n:Int)).toNat=n:=by
     intro n hn
     show (BitVec.ofInt 64 (n:Int)).toNat=n
     simp
     omega
    simp only
    rw[BitVec.toNat_and,hb _ (by omega),show (255:Int)=((255:Nat):Int) from rfl,hb _ (by omega)]
    have:u.Load.length&&&255=u.Load.length%256:=Nat.and_two_pow_sub_one_eq_mod _ 8
    rw[this]
    have h2:=wr_eq (x:=((u.Load.length%256:Nat):Int)) (by omega) (by omega)
    unfold wr at h2
    rw[h2,u8_m]
    apply UInt8.toNat_inj.1
    rw[UInt8.toNat_ofNat',UInt8.toNat_ofNat']
    omega
   rw[hw,need_is (by simp[w4_len];omega),bd_s,shr8F (by omega),ha,Int.toNat_natCast,u8_i (by omega)]
   have hbody:((((([]++[UInt8.ofNat u.Kind.toNat])++w4 u.Label.toNat)++w4 u.Number.toNat)++([UInt8.ofNat (u.Load.length/256),UInt8.ofNat u.Load.length]:List UInt8))++u.Load)++List.replicate (roomN u.Kind-u.Load.length) (0:UInt8)=bodyF u:=by
    unfold bodyF
    simp
   rw[hbody,y_crc (by rw[body_len hm];omega),bd_s,y_wint (by omega) (by have:=(crc (bodyF u)).toNat_lt;omega) (by rw[body_len hm];omega),bd_s,Int.toNat_natCast]
   rfl
  ·rw[if_pos (by simp;omega),if_neg hm]
 ·rw[if_neg h,if_pos ?_]
  unfold OKU at h
  simp
  omega
theorem c_check (u:Unit_api):X.frame_check u=some (if OKU u then if u.Load.length≤roomN u.Kind then 0 else 4 else 1):=by
 have hj:(1≤u.Kind∧u.Kind≤6)→X.frame_check_j8 u=some (if u.Load.length≤roomN u.Kind then 0 else 4):=by
  intro hk
  unfold X.frame_check_j8 X.frame_room roomN
  by_cases h:u.Kind=6
  ·rw[if_pos (by simp[h]),bd_s,if_pos h]
   by_cases hm:u.Load.length≤79
   ·rw[if_neg (by simp;omega),if_pos hm]
   ·rw[if_pos (by simp;omega),if_neg hm]
  ·rw[if_neg (by simp[h]),bd_s,if_neg h]
   by_cases hm:u.Load.length≤64
   ·rw[if_neg (by simp;omega),if_pos hm]
   ·rw[if_pos (by simp;omega),if_neg hm]
 unfold X.frame_check
 by_cases hb:(1≤u.Label∧u.Label≤2147483647)∧(0≤u.Number∧u.Number≤2147483647)
 ·rw[if_neg (by simp;omega)]
  by_cases hk:1≤u.Kind∧u.Kind≤6
  ·rw[if_pos (show OKU u from ⟨hk,hb⟩)]
   have:=hj hk
   rw[this]
   repeat' split
   all_goals first
    |rfl
    |(exfalso;rename_i h1 h2 h3 h4 h5 h6;simp at h1 h2 h3 h4 h5 h6;omega)
    |(exfalso;simp_all;omega)
  ·rw[if_neg (show ¬OKU u from fun h=>hk h.1)]
   rw[if_neg (by simp;omega),if_neg (by simp;omega),if_neg (by simp;omega),if_neg (by simp;omega),if_neg (by simp;omega),if_neg (by simp;omega)]
 ·rw[if_neg (show ¬OKU u from fun h=>hb h.2),if_pos (by simp;omega)]
end Go.AX
namespace Go.AX
open Go.AM
set_option linter.unusedSimpArgs false
set_option linter.unusedVariables false
theorem opt_t {α:Type} [Inhabited α] (o:Option α):optG true o=o:=by unfold optG;rw[if_pos rfl]
theorem opt_f {α:Type} [Inhabited α] (o:Option α):optG false o=some default:=by unfold optG;rw[if_neg (by decide)]
def p5 (b:List UInt8):Unit_api×Option (List UInt8):=
 let k:=byA (some b);let l:=inA k.2;let n:=inA l.2;let h:=byA n.2;let m:=byA h.2;let t:=tkA (h.1.toNat*256+m.1.toNat) m.2
 (⟨(k.1.toNat:Int),l.1,n.1,t.1⟩,t.2)
def getU (b:List UInt8):Option Unit_api:=if (p5 b).2.isSome=true∧OKU (p5 b).1∧(p5 b).1.Load.length≤roomN (p5 b).1.Kind∧frameL (p5 b).1=b then some (p5 b).1 else none
def getF (b:List UInt8):Unit_api×Int:=match getU b with|some u=>(u,0)|none=>(zeroU,2)
theorem of_get {b:List UInt8} {u:Unit_api} (h:getU b=some u):OKU u∧u.Load.length≤roomN u.Kind∧frameL u=b:=by
 unfold getU at h
 split at h
 ·rename_i hc
  injection h with h
  subst h
  exact hc.2
 ·cases h
theorem smallN {n:Nat} (h:n<256):(UInt8.ofNat n).toNat=n:=by rw[UInt8.toNat_ofNat'];omega
theorem p5_frame {u:Unit_api} (h:OKU u) (hl:u.Load.length≤roomN u.Kind):p5 (frameL u)=(u,some (List.replicate (roomN u.Kind-u.Load.length) 0++w4 (crc (bodyF u)).toNat)):=by
 obtain ⟨⟨a1,a2⟩,⟨a3,a4⟩,a5,a6⟩:=h
 have hr:=room_le u.Kind
 have hf:frameL u=UInt8.ofNat u.Kind.toNat::(w4 u.Label.toNat++(w4 u.Number.toNat++(UInt8.ofNat (u.Load.length/256)::UInt8.ofNat u.Load.length::(u.Load++(List.replicate (roomN u.Kind-u.Load.length) 0++w4 (crc (bodyF u)).toNat))))):=by
  unfold frameL
  conv=>lhs;lhs;unfold bodyF
  simp[List.append_assoc]
 unfold p5
 rw[hf]
 simp only[by_app,in_app (show u.Label.toNat<4294967296 by omega),in_app (show u.Number.toNat<4294967296 by omega)]
 rw[smallN (n:=u.Load.length/256) (by omega),smallN (n:=u.Kind.toNat) (by omega),UInt8.toNat_ofNat']
 have e:u.Load.length/256*256+u.Load.length%2^8=u.Load.length:=by omega
 rw[e,tk_app]
 have e1:((u.Kind.toNat:Nat):Int)=u.Kind:=by omega
 have e2:((u.Label.toNat:Nat):Int)=u.Label:=by omega
 have e3:((u.Number.toNat:Nat):Int)=u.Number:=by omega
 rw[e1,e2,e3]
theorem get_frame {u:Unit_api} (h:OKU u) (hl:u.Load.length≤roomN u.Kind):getU (frameL u)=some u:=by
 unfold getU
 rw[p5_frame h hl,if_pos ⟨rfl,h,hl,rfl⟩]
theorem get_is {b:List UInt8} {u:Unit_api}:getU b=some u↔OKU u∧u.Load.length≤roomN u.Kind∧frameL u=b:=by
 constructor
 ·exact of_get
 ·rintro ⟨h1,h2,rfl⟩
  exact get_frame h1 h2
theorem c_made {u:Unit_api} (h:OKU u) (hl:u.Load.length≤roomN u.Kind):X.frame_made u=some (frameL u):=by
 obtain ⟨⟨a1,a2⟩,⟨a3,a4⟩,a5,a6⟩:=h
 have hr:=room_le u.Kind
 have hrm:X.frame_room u.Kind=some ((roomN u.Kind:Nat):Int):=by
  unfold X.frame_room roomN
  by_cases h:u.Kind=6
  ·rw[if_pos (by simp[h]),if_pos h];rfl
  ·rw[if_neg (by simp[h]),if_neg h];rfl
 have hcp:cpy (List.replicate (roomN u.Kind) (0:UInt8)) u.Load=u.Load++List.replicate (roomN u.Kind-u.Load.length) 0:=by
  unfold cpy
  rw[List.length_replicate,List.take_of_length_le hl,List.drop_replicate]
 have hbo:∀b:List UInt8,b.length≤100000→X.code_Writer_Bytes_or b=some b:=fun b hb=>by
  unfold X.code_Writer_Bytes_or X.slices_Clone_Lbyte_byte_own_or
  have:nilU b (fun z6=>if z6=true then some ([]:List UInt8) else (need (b.length*1≤140737488355328)).bind fun u10=>some b)=some b:=by
   refine nilU_same (fun e=>?_) ?_
   ·rw[if_pos rfl,e]
   ·rw[if_neg (by decide),need_is (by omega),bd_s]
  rw[this,bd_s]
 have hbody:((((([]++[UInt8.ofNat u.Kind.toNat])++w4 u.Label.toNat)++w4 u.Number.toNat)++[UInt8.ofNat (u.Load.length/256)])++[UInt8.ofNat u.Load.length])++(u.Load++List.replicate (roomN u.Kind-u.Load.length) (0:UInt8))=bodyF u:=by
  unfold bodyF
  simp
 unfold X.frame_made
 rw[c_wbyte (by simp),bd_s,c_wint (by omega) (by omega) (by simp),bd_s,c_wint (by omega) (by omega) (by simp[w4_len]),bd_s,shr8F (by omega),c_wbyte (by simp[w4_len]),bd_s,u8_m,c_wbyte (by simp[w4_len]),bd_s,hrm,bd_s]
 rw[need_is (by omega),bd_s,Int.toNat_natCast,hcp,hbo _ (by simp[w4_len]),bd_s,u8_i (by omega)]
 rw[hbody,need_is (by simp[w4_len];omega),bd_s,c_crc (by rw[body_len hl];omega),bd_s,c_wint (by omega) (by have:=(crc (bodyF u)).toNat_lt;omega) (by simp),bd_s,Int.toNat_natCast,List.nil_append,c_bytes (by simp[w4_len]),bd_s]
 rw[need_is (by rw[body_len hl,w4_len];omega),bd_s]
 rfl
theorem c_raw (n:Nat) (s:Option (List UInt8)) (hs:∀t,s=some t→t.length≤100000):X.code_Reader_Raw (n:Int) (conC s).1 (conC s).2=some ((tkA n s).1,conC (tkA n s).2):=by
 unfold X.code_Reader_Raw
 rw[show max (0:Int) (n:Int)=(n:Int) by omega,c_take,bd_s]
 have hl:(tkA n s).1.length≤100000:=by
  cases s with
  |none=>simp[tkA_none]
  |some b=>
   have:=hs b rfl
   rw[tkA_some]
   split
   ·simp;omega
   ·simp
 have hc:X.slices_Clone_Lbyte_byte (tkA n s).1=some (tkA n s).1:=by
  unfold X.slices_Clone_Lbyte_byte
  refine nilU_same (fun e=>?_) ?_
  ·rw[if_pos rfl,e]
  ·rw[if_neg (by decide),need_is (by omega),bd_s]
 rw[hc,bd_s]
theorem by_le {s:Option (List UInt8)} {N:Nat} (h:∀t,s=some t→t.length≤N):∀t,(byA s).2=some t→t.length≤N:=by
 intro t ht
 cases s with
 |none=>cases ht
 |some b=>
  have:=h b rfl
  have:=by_inv ht
  have h2:=congrArg List.length this
  simp at h2
  omega
theorem in_le {s:Option (List UInt8)} {N:Nat} (h:∀t,s=some t→t.length≤N):∀t,(inA s).2=some t→t.length≤N:=by
 intro t ht
 cases s with
 |none=>cases ht
 |some b=>
  have:=h b rfl
  have:=in_inv ht
  have h2:=congrArg List.length this
  simp at h2
  omega
theorem c_get (b:List UInt8) (hb:b.length≤100000):X.frame_Get b=some (getF b):=by
 unfold X.frame_Get
 rw[c_new b hb,bd_s,c_byte,bd_s,c_int,bd_s,c_int,bd_s,c_byte,bd_s,c_byte,bd_s]
 dsimp only
 rw[or64_nat (by have:=(byA (inA (inA (byA (some b)).2).2).2).1.toNat_lt;omega) (byA (byA (inA (inA (byA (some b)).2).2).2).2).1.toNat_lt]
 have hlen:∀t,(byA (byA (inA (inA (byA (some b)).2).2).2).2).2=some t→t.length≤100000:=by_le (by_le (in_le (in_le (by_le (fun t e=>by injection e with e;rw[←e];exact hb)))))
 rw[c_raw _ _ hlen,bd_s]
 unfold X.code_Reader_Bad
 rw[bd_s,c_check]
 have hp:p5 b=(⟨((byA (some b)).1.toNat:Int),(inA (byA (some b)).2).1,(inA (inA (byA (some b)).2).2).1,(tkA ((byA (inA (inA (byA (some b)).2).2).2).1.toNat*256+(byA (byA (inA (inA (byA (some b)).2).2).2).2).1.toNat) (byA (byA (inA (inA (byA (some b)).2).2).2).2).2).1⟩,
  (tkA ((byA (inA (inA (byA (some b)).2).2).2).1.toNat*256+(byA (byA (inA (inA (byA (some b)).2).2).2).2).1.toNat) (byA (byA (inA (inA (byA (some b)).2).2).2).2).2).2):=rfl
 generalize hk:((byA (some b)).1.toNat:Int)=k at hp ⊢
 generalize hl:(inA (byA (some b)).2).1=l at hp ⊢
 generalize hn:(inA (inA (byA (some b)).2).2).1=n at hp ⊢
 generalize ht:tkA ((byA (inA (inA (byA (some b)).2).2).2).1.toNat*256+(byA (byA (inA (inA (byA (some b)).2).2).2).2).1.toNat) (byA (byA (inA (inA (byA (some b)).2).2).2).2).2=t at hp ⊢
 obtain ⟨d,s⟩:=t
 dsimp only at hp ⊢
 unfold getF getU
 rw[hp]
 simp only
 cases s with
 |none=>
  rw[if_neg (show ¬((none:Option (List UInt8)).isSome=true∧OKU ⟨k,l,n,d⟩∧d.length≤roomN k∧frameL ⟨k,l,n,d⟩=b) from fun h=>by cases h.1)]
  rfl
 |some q=>
  show ((optG (!false) _).bind _)=_
  rw[show (conC (some q)).2=false from rfl,Bool.not_false,opt_t,bd_s]
  by_cases h1:OKU ⟨k,l,n,d⟩
  ·by_cases h2:d.length≤roomN k
   ·rw[if_pos h1,if_pos h2,Bool.false_or,show ((0:Int) !=0)=false from rfl,Bool.not_false,opt_t,c_made h1 h2,bd_s,opt_t,x_equal (by omega),bd_s]
    by_cases h3:frameL ⟨k,l,n,d⟩=b
    ·rw[if_pos (show (some q).isSome=true∧OKU ⟨k,l,n,d⟩∧d.length≤roomN k∧frameL ⟨k,l,n,d⟩=b from ⟨rfl,h1,h2,h3⟩),if_neg (by rw[h3];simp)]
    ·rw[if_neg (show ¬((some q).isSome=true∧OKU ⟨k,l,n,d⟩∧d.length≤roomN k∧frameL ⟨k,l,n,d⟩=b) from fun h=>h3 h.2.2.2),if_pos (by simp;exact fun e=>h3 e.symm)]
     rfl
   ·rw[if_pos h1,if_neg h2,if_neg (show ¬((some q).isSome=true∧OKU ⟨k,l,n,d⟩∧d.length≤roomN k∧frameL ⟨k,l,n,d⟩=b) from fun h=>h2 h.2.2.1)]
    rfl
  ·rw[if_neg h1,if_neg (show ¬((some q).isSome=true∧OKU ⟨k,l,n,d⟩∧d.length≤roomN k∧frameL ⟨k,l,n,d⟩=b) from fun h=>h1 h.2.1)]
   rfl
end Go.AX
namespace Go.AX
open Go.AM
set_option linter.unusedSimpArgs false
set_option linter.unusedVariables false
def goodF (t:Tape_api) (n:Int):Unit_api×Bool:=
 if t.Lost=false∧0≤n∧n<t.Blocks.length then
  match getU (t.Blocks.getD n.toNat []) with
  |some u=>if u.Label=t.Label∧u.Number=n then (u,true) else (zeroU,false)
  |none=>(zeroU,false)
 else (zeroU,false)
theorem c_good (t:Tape_api) (n:Int) (hb:∀b∈t.Blocks,b.length≤100000):X.volume_Good t n=some (goodF t n):=by
 unfold X.volume_Good goodF
 by_cases h:t.Lost=false∧0≤n∧n<t.Blocks.length
 ·obtain ⟨h1,h2,h3⟩:=h
  obtain ⟨m,rfl⟩:∃m:Nat,n=(m:Int):=⟨n.toNat,by omega⟩
  have hm:m<t.Blocks.length:=by omega
  rw[if_neg (by rw[h1];simp;omega),if_pos ⟨h1,h2,h3⟩,getI_getD [] hm,bd_s,c_get _ (hb _ (by rw[List.getD_eq_getElem?_getD,List.getElem?_eq_getElem hm];exact List.getElem_mem hm)),bd_s,Int.toNat_natCast]
  unfold getF
  cases hu:getU (t.Blocks.getD m []) with
  |none=>rfl
  |some u=>
   dsimp only
   by_cases hc:u.Label=t.Label∧u.Number=(m:Int)
   ·rw[if_pos hc,if_neg (by simp[hc])]
   ·rw[if_neg hc,if_pos (by simp;omega)]
    rfl
 ·rw[if_neg h,if_pos (by simp;cases hL:t.Lost<;>simp_all<;>omega)]
  rfl
end Go.AX
namespace Go.AX
open Go.AM
set_option linter.unusedSimpArgs false
set_option linter.unusedVariables false
theorem shr1_toNat (x:UInt32):(shr32 x 1).toNat=x.toNat/2:=by
 have:=x.toNat_lt
 unfold shr32
 rw[UInt32.toNat_ofNat']
 omega
theorem odd32 (x:UInt32):((x&&&(1:UInt32))==(1:UInt32))=decide (x.toNat%2=1):=by
 have h:(x&&&(1:UInt32)).toNat=x.toNat%2:=by
  rw[UInt32.toNat_and]
  exact Nat.and_one_is_mod _
 by_cases hx:x.toNat%2=1
 ·have:x&&&(1:UInt32)=1:=UInt32.toNat_inj.1 (by rw[h,hx];rfl)
  rw[this,decide_eq_true hx];rfl
 ·have:x&&&(1:UInt32)≠1:=fun e=>hx (by rw[←h,e];rfl)
  rw[decide_eq_false hx]
  simp[this]
theorem xor32 {x y p:UInt32} (h:x^^^p=y^^^p):x=y:=by
 have:=congrArg (·^^^p) h
 simpa[UInt32.xor_assoc] using this
theorem bit_mix {x y:UInt32} (h:shr32 x 1^^^(2197175160:UInt32)=shr32 y 1):False:=by
 have hx:=x.toNat_lt
 have hy:=y.toNat_lt
 have h1:=congrArg (fun z:UInt32=>z.toNat.testBit 31) h
 simp only[UInt32.toNat_xor,shr1_toNat,Nat.testBit_xor] at h1
 rw[Nat.testBit_lt_two_pow (show x.toNat/2<2^31 by omega),Nat.testBit_lt_two_pow (show y.toNat/2<2^31 by omega)] at h1
 exact absurd h1 (by decide)
theorem bitC_inj {x y:UInt32} (h:bitC x=bitC y):x=y:=by
 unfold bitC at h
 rw[odd32,odd32] at h
 by_cases hx:x.toNat%2=1<;>by_cases hy:y.toNat%2=1
 ·rw[if_pos (by simp[hx]),if_pos (by simp[hy])] at h
  have:=congrArg UInt32.toNat (xor32 h)
  rw[shr1_toNat,shr1_toNat] at this
  exact UInt32.toNat_inj.1 (by omega)
 ·rw[if_pos (by simp[hx]),if_neg (by simp[hy])] at h
  exact (bit_mix h).elim
 ·rw[if_neg (by simp[hx]),if_pos (by simp[hy])] at h
  exact (bit_mix h.symm).elim
 ·rw[if_neg (by simp[hx]),if_neg (by simp[hy])] at h
  have:=congrArg UInt32.toNat h
  rw[shr1_toNat,shr1_toNat] at this
  exact UInt32.toNat_inj.1 (by omega)
theorem bitsC_inj:∀{n:Nat} {x y:UInt32},bitsC n x=bitsC n y→x=y
 |0,_,_,h=>h
 |n+1,_,_,h=>bitsC_inj (bitC_inj h)
theorem bytC_l {x y:UInt32} {c:UInt8} (h:bytC x c=bytC y c):x=y:=xor32 (bitsC_inj h)
theorem bytC_r {x:UInt32} {c d:UInt8} (h:bytC x c=bytC x d):c=d:=by
 have h1:x^^^u32 (c.toNat:Int)=x^^^u32 (d.toNat:Int):=bitsC_inj h
 rw[UInt32.xor_comm x,UInt32.xor_comm x] at h1
 have h2:=congrArg UInt32.toNat (xor32 h1)
 have hc:=c.toNat_lt
 have hd:=d.toNat_lt
 unfold u32 at h2
 rw[UInt32.toNat_ofNat',UInt32.toNat_ofNat'] at h2
 exact UInt8.toNat_inj.1 (by omega)
theorem fold_inj:∀{l:List UInt8} {x y:UInt32},l.foldl bytC x=l.foldl bytC y→x=y
 |[],_,_,h=>h
 |c::l,_,_,h=>bytC_l (fold_inj (l:=l) h)
theorem crc_ne {b:List UInt8} {i:Nat} (hi:i<b.length) {v:UInt8} (hv:v≠b[i]):crc (b.set i v)≠crc b:=by
 intro h
 unfold crc at h
 have h1:=xor32 h
 have e1:b.set i v=b.take i++v::b.drop (i+1):=by
  rw[List.set_eq_take_append_cons_drop,if_pos hi]
 have e2:b=b.take i++b[i]::b.drop (i+1):=by
  rw[←List.drop_eq_getElem_cons hi,List.take_append_drop]
 rw[e1] at h1
 rw[show b.foldl bytC (4294967295:UInt32)=(b.take i++b[i]::b.drop (i+1)).foldl bytC (4294967295:UInt32) by rw[←e2]] at h1
 rw[List.foldl_append,List.foldl_append,List.foldl_cons,List.foldl_cons] at h1
 exact hv (bytC_r (fold_inj h1))
theorem rot_none {u:Unit_api} (hl:u.Load.length≤roomN u.Kind) {i:Nat} (hi:i<11+roomN u.Kind) {v:UInt8} (hv:(frameL u)[i]? ≠some v):getU ((frameL u).set i v)=none:=by
 cases hg:getU ((frameL u).set i v) with
 |none=>rfl
 |some u'=>
  exfalso
  obtain ⟨_,hl',hf⟩:=get_is.1 hg
  have n1:=frame_len hl
  have n2:=frame_len hl'
  rw[hf,List.length_set] at n2
  have b1:=body_len hl
  have b2:=body_len hl'
  have e:(frameL u).set i v=(bodyF u).set i v++w4 (crc (bodyF u)).toNat:=by
   unfold frameL
   rw[List.set_append_left _ _ (by omega)]
  rw[e] at hf
  unfold frameL at hf
  obtain ⟨h1,h2⟩:=List.append_inj hf (by rw[List.length_set];omega)
  have h3:=congrArg beN h2
  rw[be_w4 (UInt32.toNat_lt _),be_w4 (UInt32.toNat_lt _)] at h3
  have h4:=UInt32.toNat_inj.1 h3
  rw[h1] at h4
  have hib:i<(bodyF u).length:=by omega
  refine crc_ne hib (fun hh=>hv ?_) h4
  unfold frameL
  rw[List.getElem?_append_left hib,List.getElem?_eq_getElem hib,hh]
end Go.AX
namespace Go.AX
open Go.AM
open Gf
end Go.AX
namespace Go.AX
open Go.AM
set_option linter.unusedSimpArgs false
set_option linter.unusedVariables false
theorem getI_mid {α:Type} (a b:List α) (x:α):getI (a++x::b) (a.length:Int)=some x:=by
 rw[getI_nat (by simp)]
 simp
theorem set_mid {α:Type} (a b:List α) (x y:α):(a++x::b).set a.length y=a++y::b:=by simp
theorem c_cmp (a b:Seal_api):X.group_Find_c2 a b=some (if a.Number<b.Number then-1 else if a.Number>b.Number then 1 else 0):=by
 unfold X.group_Find_c2 X.cmp_Compare_int X.cmp_isNaN_int
 rw[bd_s,bd_s,bne_self_eq_false,bne_self_eq_false,if_neg (by decide),if_neg (by decide)]
 by_cases h:a.Number<b.Number
 ·rw[if_pos (by simpa using h),bd_s,if_pos h]
 ·rw[if_neg (by simpa using h),if_neg h]
  by_cases h':a.Number>b.Number
  ·rw[if_pos (by simpa using h'),bd_s,if_pos h']
  ·rw[if_neg (by simpa using h'),bd_s,if_neg h']
def SLe (a b:Seal_api):Prop:=a.Number≤b.Number
theorem ins_in (pre post:List Seal_api) (x:Seal_api) (hp:pre.Pairwise SLe) (hl:pre.length≤1000):
 ∃r,run (X.slices_insertionSortCmpFunc_api_Seal_s17 0 (fun a1 a2=>X.group_Find_c2 a1 a2)) (pre++x::post,(pre.length:Int))=some r∧
  ∃p q,pre=p++q∧r=p++x::(q++post)∧(∀a∈p,SLe a x)∧∀b∈q,SLe x b:=by
 refine run_inv (fun s=>∃p q,pre=p++q∧s=(p++x::(q++post),(p.length:Int))∧∀b∈q,SLe x b) _ (fun s=>s.2.toNat) ⟨pre,[],by simp,by simp,by simp⟩ (by simp;omega) ?_
 rintro ⟨d,j⟩ ⟨p,q,h1,h2,h3⟩
 injection h2 with h2 h4
 subst h2 h4
 have hpl:p.length≤pre.length:=by rw[h1];simp
 rcases List.eq_nil_or_concat p with rfl|⟨p',z,rfl⟩
 ·right
  unfold X.slices_insertionSortCmpFunc_api_Seal_s17
  dsimp only
  have h0:decide (((([]:List Seal_api).length:Nat):Int)>0)=false:=by simp
  rw[h0,optG_false,bd_s,optG_false,bd_s,optG_false,bd_s,Bool.false_and,if_neg (by simp)]
  exact ⟨_,rfl,[],q,h1,rfl,by simp,h3⟩
 ·rw[List.concat_eq_append] at*
  have hl2:(p'++[z]).length=p'.length+1:=by simp
  have hd:decide ((((p'++[z]).length:Nat):Int)>0)=true:=by rw[hl2];simp
  have hw:wr ((((p'++[z]).length:Nat):Int)-1)=(p'.length:Int):=by rw[hl2,wr_id (by omega) (by omega)];simp
  have g1:getI ((p'++[z])++x::(q++post)) (((p'++[z]).length:Nat):Int)=some x:=getI_mid _ _ _
  have g2:getI ((p'++[z])++x::(q++post)) ((p'.length:Nat):Int)=some z:=by rw[List.append_assoc];exact getI_mid p' (x::(q++post)) z
  have s1:((p'++[z])++x::(q++post)).set (((p'++[z]).length:Nat):Int).toNat z=(p'++[z])++z::(q++post):=by rw[Int.toNat_natCast];exact set_mid _ _ _ _
  have g3:getI ((p'++[z])++z::(q++post)) ((p'.length:Nat):Int)=some z:=by rw[List.append_assoc];exact getI_mid p' (z::(q++post)) z
  have s2:((p'++[z])++z::(q++post)).set ((p'.length:Nat):Int).toNat x=p'++x::(z::q++post):=by rw[Int.toNat_natCast,List.append_assoc];exact set_mid p' (z::(q++post)) z x
  unfold X.slices_insertionSortCmpFunc_api_Seal_s17
  dsimp only
  rw[hd,optG_true,g1,bd_s,optG_true,hw,g2,bd_s,optG_true,c_cmp,bd_s,Bool.true_and]
  by_cases hlt:x.Number<z.Number
  ·left
   rw[if_pos hlt,if_pos (by simp),bd_s,bd_s,bd_s,s1,g3,bd_s,s2]
   refine ⟨_,rfl,⟨p',z::q,by rw[h1];simp,rfl,?_⟩,by simp only[hl2];omega⟩
   intro b hb
   rcases List.mem_cons.1 hb with rfl|hb
   ·exact Int.le_of_lt hlt
   ·exact h3 b hb
  ·right
   rw[if_neg hlt]
   refine ⟨(p'++[z])++x::(q++post),?_,p'++[z],q,h1,rfl,?_,h3⟩
   ·rw[if_neg (by split<;>simp)]
   ·intro a ha
    rw[h1,List.pairwise_append] at hp
    have hz:SLe z x:=Int.not_lt.1 hlt
    rcases List.mem_append.1 ha with ha|ha
    ·exact Int.le_trans ((List.pairwise_append.1 hp.1).2.2 a ha z (by simp)) hz
    ·rw[List.mem_singleton.1 ha];exact hz
theorem x_ins (l:List Seal_api) (hl:l.length≤12) (h0:l≠[]):
 ∃r,X.slices_insertionSortCmpFunc_api_Seal 0 (l.length:Int) (fun a1 a2=>X.group_Find_c2 a1 a2) l=some r∧r.Perm l∧r.Pairwise SLe:=by
 have hlp:1≤l.length:=List.length_pos_iff.2 h0
 obtain ⟨r,h1,h2⟩:=run_ix (f:=X.slices_insertionSortCmpFunc_api_Seal_s7 (l.length:Int) 0 (fun a1 a2=>X.group_Find_c2 a1 a2)) (s0:=l) (a:=1) (n:=l.length)
  (fun i d=>d.Perm l∧(d.take i).Pairwise SLe) (fun r=>r.Perm l∧r.Pairwise SLe) hlp (by omega)
  ⟨List.Perm.refl _,by
    cases l with
    |nil=>simp
    |cons a l=>simp⟩
  (fun i d hi hlt hI=>by
    obtain ⟨hI1,hI2⟩:=hI
    have hdl:=hI1.length_eq
    left
    have hsp:d=d.take i++d[i]::d.drop (i+1):=by rw[List.getElem_cons_drop,List.take_append_drop]
    have hil:(d.take i).length=i:=by simp;omega
    obtain ⟨r,e,p,q,e1,e2,e3,e4⟩:=ins_in (d.take i) (d.drop (i+1)) d[i] hI2 (by omega)
    unfold X.slices_insertionSortCmpFunc_api_Seal_s7
    dsimp only
    rw[←hsp,hil] at e
    rw[if_pos (by simp;omega),e,bd_s]
    unfold X.slices_insertionSortCmpFunc_api_Seal_e17
    rw[wr_succ (by omega)]
    refine ⟨r,rfl,?_,?_⟩
    ·refine List.Perm.trans ?_ hI1
     rw[hsp,e2,e1]
     simp only[List.append_assoc]
     refine (List.perm_append_left_iff p).2 ?_
     exact List.perm_middle.symm
    ·have hpq:p.length+q.length=i:=by rw[←hil,e1];simp
     have ht:r.take (i+1)=p++d[i]::q:=by
      rw[e2,show p++d[i]::(q++d.drop (i+1))=(p++d[i]::q)++d.drop (i+1) by simp,List.take_left' (by simp;omega)]
     rw[ht,List.pairwise_append]
     rw[e1,List.pairwise_append] at hI2
     refine ⟨hI2.1,List.pairwise_cons.2 ⟨e4,hI2.2.1⟩,fun a ha b hb=>?_⟩
     rcases List.mem_cons.1 hb with rfl|hb
     ·exact e3 a ha
     ·exact hI2.2.2 a ha b hb)
  (fun d hI=>by
    unfold X.slices_insertionSortCmpFunc_api_Seal_s7
    dsimp only
    rw[if_neg (by simp)]
    refine ⟨_,rfl,hI.1,?_⟩
    have:=hI.2
    rwa [←hI.1.length_eq,List.take_length] at this)
 refine ⟨r,?_,h2⟩
 unfold X.slices_insertionSortCmpFunc_api_Seal
 rw[show wr ((0:Int)+1)=((1:Nat):Int) from rfl,h1,bd_s]
 rfl
set_option maxRecDepth 100000 in
theorem len_all:((List.range 13).all fun n=>(X.math_bits_Len (u64 (n:Int))).isSome)=true:=by decide+kernel
theorem x_sort (l:List Seal_api) (hl:l.length≤12):
 ∃r,X.slices_SortFunc_Lapi_Seal_api_SealL (fun a1 a2=>X.group_Find_c2 a1 a2) l=some r∧r.Perm l∧r.Pairwise SLe:=by
 have h1:=List.all_eq_true.1 len_all l.length (List.mem_range.2 (by omega))
 obtain ⟨b,hb⟩:=Option.isSome_iff_exists.1 h1
 unfold X.slices_SortFunc_Lapi_Seal_api_SealL X.slices_SortFunc_Lapi_Seal_api_Seal X.slices_pdqsortCmpFunc_api_Seal
 rw[hb,bd_s,Int.sub_zero,wr_id (by omega) (by omega),if_pos (by simp;omega)]
 by_cases h0:l=[]
 ·subst h0
  refine ⟨[],?_,List.Perm.refl _,List.Pairwise.nil⟩
  have:X.slices_insertionSortCmpFunc_api_Seal 0 ((([]:List Seal_api).length:Nat):Int) (fun a1 a2=>X.group_Find_c2 a1 a2) []=some []:=by
   unfold X.slices_insertionSortCmpFunc_api_Seal
   rw[run_few 1 (by omega) (r:=[]) rfl,bd_s]
   rfl
  rw[this]
  rfl
 ·obtain ⟨r,e1,e2,e3⟩:=x_ins l hl h0
  refine ⟨r,?_,e2,e3⟩
  rw[e1,bd_s,bd_s,bd_s,if_pos e2.length_eq]
end Go.AX
namespace Go.AX
open Go.AM
set_option linter.unusedSimpArgs false
set_option linter.unusedVariables false
def labsT (l:List Tape_api):List Int:=l.map (·.Label)
theorem c_labels {l:List Tape_api} (hl:l.length≤1000):X.group_labels l=some (labsT l):=by
 unfold X.group_labels
 rw[run_G0 (f:=X.group_labels_s7 l) (fun i=>labsT (l.take i)) (r:=labsT l) (n:=l.length) (by omega) (by simp[labsT]) (fun i hi=>by
  unfold X.group_labels_s7
  dsimp only
  rw[if_pos (by simp;omega),getI_nat hi,bd_s,need_is (by simp[labsT];omega),bd_s,wr_succ (by omega)]
  simp only[labsT,List.take_add_one,List.getElem?_eq_getElem hi,Option.toList_some,List.map_append,List.map_cons,List.map_nil]) (by
  unfold X.group_labels_s7
  dsimp only
  rw[if_neg (by simp),List.take_length]),bd_s]
 rfl
theorem x_GrowT {n:Nat} (hn:n≤1000000000000):X.slices_Grow_Lapi_Tape_api_Tape_nil (n:Int)=some []:=by
 unfold X.slices_Grow_Lapi_Tape_api_Tape_nil X.slices_Grow_Lapi_Tape_api_Tape_nil_j5
 have h0:wr ((0:Int)-(0:Int))=0:=by decide
 try rw[h0]
 rw[Int.sub_zero,wr_nat (by omega),if_neg (by simp)]
 by_cases h:0<n
 ·rw[if_pos (by simpa using h),need_is (by omega),bind_s,need_is (by simp only[List.length_replicate];omega),bind_s]
  simp[slc]
 ·rw[if_neg (by simpa using h)]
theorem x_ConcatT (a b:List Tape_api) (ha:a.length≤100000000000) (hb:b.length≤100000000000):X.slices_Concat_Lapi_Tape_api_Tape [a,b]=some (a++b):=by
 unfold X.slices_Concat_Lapi_Tape_api_Tape
 have g0:getI [a,b] (((0:Nat):Nat):Int)=some a:=getI_nat (by simp)
 have g1:getI [a,b] (((1:Nat):Nat):Int)=some b:=getI_nat (by simp)
 have k1:run (X.slices_Concat_Lapi_Tape_api_Tape_s6 [a,b]) ((0:Int),(0:Int))=some ((a.length+b.length:Nat):Int):=by
  refine run_G0 (fun i=>(if i=0 then (0:Int) else if i=1 then (a.length:Int) else ((a.length+b.length:Nat):Int))) (n:=2) (by omega) rfl (fun i hi=>?_) ?_
  ·unfold X.slices_Concat_Lapi_Tape_api_Tape_s6
   simp only
   rcases (by omega:i=0∨i=1) with rfl|rfl
   ·rw[if_pos (by simp),g0,bind_s]
    simp only[if_true]
    rw[Int.zero_add,wr_nat (by omega),if_neg (by simp),wr_inc (by omega)];rfl
   ·rw[if_pos (by simp),g1,bind_s]
    simp only[if_true]
    rw[show (if (1:Nat)=0 then (0:Int) else (a.length:Int))=(a.length:Int) from rfl,wr_add (by omega),if_neg (by simp only[decide_eq_true_eq];omega),wr_inc (by omega)];rfl
  ·unfold X.slices_Concat_Lapi_Tape_api_Tape_s6
   simp only
   rw[if_neg (by simp)];rfl
 have k2:run (X.slices_Concat_Lapi_Tape_api_Tape_s15 [a,b]) (([]:List Tape_api),(0:Int))=some (a++b):=by
  refine run_G0 (fun i=>(if i=0 then [] else if i=1 then a else a++b)) (n:=2) (by omega) rfl (fun i hi=>?_) ?_
  ·unfold X.slices_Concat_Lapi_Tape_api_Tape_s15
   simp only
   rcases (by omega:i=0∨i=1) with rfl|rfl
   ·rw[if_pos (by simp),g0,bind_s]
    simp only[if_true]
    rw[need_is (by simp;omega),bind_s,wr_inc (by omega)];rfl
   ·rw[if_pos (by simp),g1,bind_s]
    simp only[if_true]
    rw[show (if (1:Nat)=0 then ([]:List Tape_api) else a)=a from rfl,need_is (by omega),bind_s,wr_inc (by omega)];rfl
  ·unfold X.slices_Concat_Lapi_Tape_api_Tape_s15
   simp only
   rw[if_neg (by simp)];rfl
 rw[k1,bind_s]
 show X.slices_Concat_Lapi_Tape_api_Tape_e6 [a,b] _=_
 unfold X.slices_Concat_Lapi_Tape_api_Tape_e6
 rw[x_GrowT (by omega),bind_s,k2];rfl
theorem c_anyT {l:List Tape_api} {g:Tape_api→Option Bool} (p:Tape_api→Bool) (hl:l.length≤1000) (hg:∀t∈l,g t=some (p t)):X.slices_ContainsFunc_Lapi_Tape_api_Tape l g=some (l.any p):=by
 unfold X.slices_ContainsFunc_Lapi_Tape_api_Tape X.slices_IndexFunc_Lapi_Tape_api_Tape
 obtain ⟨r,h1,h2⟩:=run_se (f:=X.slices_IndexFunc_Lapi_Tape_api_Tape_s6 l g) (a:=0) (n:=l.length)
  (fun r=>(match r with| .inl _=>l.any p=false| .inr x=>0≤x∧l.any p=true))
  (fun k=>(l.take k).any p=false) (Nat.zero_le _) (by omega) rfl (fun k _ hk hI=>by
    unfold X.slices_IndexFunc_Lapi_Tape_api_Tape_s6
    dsimp only
    rw[if_pos (by simp;omega),getI_nat hk,bd_s,hg _ (List.getElem_mem hk),bd_s]
    cases h0:p l[k] with
    |false=>
     left
     rw[if_neg (by decide),wr_succ (by omega)]
     refine ⟨rfl,?_⟩
     rw[List.take_add_one,List.getElem?_eq_getElem hk,List.any_append,hI]
     simp[h0]
    |true=>
     right
     rw[if_pos rfl]
     refine ⟨_,rfl,by omega,?_⟩
     rw[List.any_eq_true]
     exact ⟨_,List.getElem_mem hk,h0⟩) (fun hI=>by
    unfold X.slices_IndexFunc_Lapi_Tape_api_Tape_s6
    dsimp only
    rw[if_neg (by simp)]
    refine ⟨_,rfl,?_⟩
    rw[List.take_length] at hI
    exact hI)
 rw[show ((0:Nat):Int)=0 from rfl] at h1
 rw[h1,bd_s]
 cases r with
 |inl u=>
  dsimp only at h2 ⊢
  unfold X.slices_IndexFunc_Lapi_Tape_api_Tape_e6
  rw[bd_s,h2]
  rfl
 |inr x=>
  dsimp only at h2 ⊢
  rw[bd_s,h2.2]
  have:decide (x≥0)=true:=by simp;exact h2.1
  rw[this]
def agB (t:Tape_api):Bool:=(List.range t.Blocks.length).all fun n=>(goodF t (n:Int)).2
theorem c_all {t:Tape_api} (hl:t.Blocks.length≤1000) (hb:∀b∈t.Blocks,b.length≤100000):X.group_allGood t=some (agB t):=by
 unfold X.group_allGood
 obtain ⟨r,h1,h2⟩:=run_se (f:=X.group_allGood_s5 t) (a:=0) (n:=t.Blocks.length)
  (fun r=>(match r with| .inl _=>agB t=true| .inr x=>x=agB t))
  (fun k=>(List.range k).all (fun n=>(goodF t (n:Int)).2)=true) (Nat.zero_le _) (by omega) rfl (fun k _ hk hI=>by
    unfold X.group_allGood_s5
    dsimp only
    rw[if_pos (by simp;omega),c_good t _ hb,bd_s]
    cases h0:(goodF t (k:Int)).2 with
    |true=>
     left
     rw[if_neg (by decide),wr_succ (by omega)]
     refine ⟨rfl,?_⟩
     rw[List.range_succ,List.all_append,hI]
     simp[h0]
    |false=>
     right
     rw[if_pos (by decide)]
     refine ⟨_,rfl,?_⟩
     dsimp only
     symm
     unfold agB
     rw[List.all_eq_false]
     exact ⟨k,List.mem_range.2 hk,by rw[h0];decide⟩) (fun hI=>by
    unfold X.group_allGood_s5
    dsimp only
    rw[if_neg (by simp)]
    exact ⟨_,rfl,hI⟩)
 rw[show ((0:Nat):Int)=0 from rfl] at h1
 rw[h1,bd_s]
 cases r with
 |inl u=>dsimp only at h2 ⊢;rw[h2];rfl
 |inr x=>dsimp only at h2 ⊢;rw[h2]
theorem c_each {l:List Tape_api} {g:Tape_api→Option Bool} (p:Tape_api→Bool) (hl:l.length≤1000) (hg:∀t∈l,g t=some (p t)):X.group_each l g=some (l.all p):=by
 unfold X.group_each
 obtain ⟨r,h1,h2⟩:=run_se (f:=X.group_each_s6 l g) (a:=0) (n:=l.length)
  (fun r=>(match r with| .inl _=>l.all p=true| .inr x=>x=l.all p))
  (fun k=>(l.take k).all p=true) (Nat.zero_le _) (by omega) rfl (fun k _ hk hI=>by
    unfold X.group_each_s6
    dsimp only
    rw[if_pos (by simp;omega),getI_nat hk,bd_s,hg _ (List.getElem_mem hk),bd_s]
    cases h0:p l[k] with
    |true=>
     left
     rw[if_neg (by decide),wr_succ (by omega)]
     refine ⟨rfl,?_⟩
     rw[List.take_add_one,List.getElem?_eq_getElem hk,List.all_append,hI]
     simp[h0]
    |false=>
     right
     rw[if_pos (by decide)]
     refine ⟨_,rfl,?_⟩
     dsimp only
     symm
     rw[List.all_eq_false]
     exact ⟨_,List.getElem_mem hk,by rw[h0];decide⟩) (fun hI=>by
    unfold X.group_each_s6
    dsimp only
    rw[if_neg (by simp)]
    refine ⟨_,rfl,?_⟩
    rw[List.take_length] at hI
    exact hI)
 rw[show ((0:Nat):Int)=0 from rfl] at h1
 rw[h1,bd_s]
 cases r with
 |inl u=>dsimp only at h2 ⊢;rw[h2];rfl
 |inr x=>dsimp only at h2 ⊢;rw[h2]
def badG (data blank:List Tape_api) (s:Seal_api):Bool:=((((!decide (RSl s))||data.any (·.Lost))||blank.any (·.Lost))||(ln data data.length==0))|| !(data.all agB)
def errG (data blank:List Tape_api) (s:Seal_api):Int:=
 if badG data blank s=true then 1 else if blank.any (fun t=>decide (t.Blocks.length>0))=true then 11 else if blank.any (fun t=>decide (((ln data data.length:Nat):Int)+2>t.Cap))=true then 6 else 0
theorem small_le {l:List Tape_api} (h:Small l) {t:Tape_api} (ht:t∈l):t.Blocks.length≤1000∧∀b∈t.Blocks,b.length≤100000:=
 ⟨by have:=(h.2 t ht).1;omega,fun b hb=>by have:=(h.2 t ht).2 b hb;omega⟩
theorem c_gcheck {data blank:List Tape_api} {s:Seal_api} (hd:Small data) (hb:Small blank):X.group_check data blank s=some (errG data blank s):=by
 have hd1:=hd.1
 have hb1:=hb.1
 have a1:X.slices_ContainsFunc_Lapi_Tape_api_Tape data (fun a1=>X.group_check_c1 a1)=some (data.any (·.Lost)):=c_anyT _ (by omega) fun t _=>rfl
 have a2:X.slices_ContainsFunc_Lapi_Tape_api_Tape blank (fun a1=>X.group_check_c1 a1)=some (blank.any (·.Lost)):=c_anyT _ (by omega) fun t _=>rfl
 have a3:X.group_each data (fun a1=>X.group_allGood a1)=some (data.all agB):=c_each _ (by omega) fun t ht=>c_all (small_le hd ht).1 (small_le hd ht).2
 have a4:X.slices_ContainsFunc_Lapi_Tape_api_Tape blank (fun a1=>X.group_check_c2 a1)=some (blank.any fun t=>decide (t.Blocks.length>0)):=c_anyT _ (by omega) fun t _=>by
  unfold X.group_check_c2
  simp
 have a5:X.slices_ContainsFunc_Lapi_Tape_api_Tape blank (fun a1=>X.group_check_c3 a1 data)=some (blank.any fun t=>decide (((ln data data.length:Nat):Int)+2>t.Cap)):=c_anyT _ (by omega) fun t _=>by
  have:=ln_le hd data.length (Nat.le_refl _)
  unfold X.group_check_c3
  rw[x_Len hd,bd_s,wr_id (by omega) (by omega)]
 unfold X.group_check errG badG
 rw[x_sright,bd_s,a1,a2,a3,a4,a5,x_Len hd]
 generalize decide (RSl s)=b1
 generalize data.any (·.Lost)=b2
 generalize blank.any (·.Lost)=b3
 generalize data.all agB=b5
 generalize (blank.any fun t=>decide (t.Blocks.length>0))=b6
 generalize (blank.any fun t=>decide (((ln data data.length:Nat):Int)+2>t.Cap))=b7
 generalize ln data data.length=n
 cases n<;>cases b1<;>cases b2<;>cases b3<;>cases b5<;>cases b6<;>cases b7<;>rfl
def unT (s:Seal_api) (rows:List (List UInt8)):List Unit_api:=([⟨1,0,0,[80]⟩]++rows.map fun r=>⟨6,0,0,r⟩)++[⟨5,0,0,encS s⟩]
def frT (lab:Int) (us:List Unit_api) (n:Nat):List UInt8:=frameL ⟨(us.getD n ⟨0,0,0,[]⟩).Kind,lab,(n:Int),(us.getD n ⟨0,0,0,[]⟩).Load⟩
def tapF (t:Tape_api) (s:Seal_api) (rows:List (List UInt8)):Tape_api:=⟨t.Label,t.Cap,tab (rows.length+2) (frT t.Label (unT s rows)),false⟩
theorem unT_len {s:Seal_api} {rows:List (List UInt8)}:(unT s rows).length=rows.length+2:=by simp[unT]
theorem put_okU {u:Unit_api} (h:OKU u) (hl:u.Load.length≤roomN u.Kind):putF u=(frameL u,0):=by
 unfold putF
 rw[if_pos h,if_pos hl]
theorem unT_ok {s:Seal_api} {rows:List (List UInt8)} (hr:∀r∈rows,r.length≤79) (hs:(encS s).length≤64):∀u∈unT s rows,(1≤u.Kind∧u.Kind≤6)∧u.Load.length≤roomN u.Kind:=by
 intro u hu
 unfold unT at hu
 rcases List.mem_append.1 hu with hu|hu
 ·rcases List.mem_append.1 hu with hu|hu
  ·rw[List.mem_singleton.1 hu];exact ⟨by decide,by decide⟩
  ·obtain ⟨r,h1,rfl⟩:=List.mem_map.1 hu
   exact ⟨⟨by simp,by simp⟩,hr r h1⟩
 ·rw[List.mem_singleton.1 hu];exact ⟨⟨by simp,by simp⟩,hs⟩
theorem encS_64 {s:Seal_api} (h:RSl s):(encS s).length≤64:=by
 rw[encS_len]
 obtain ⟨_,h1,h2,_,h3,_⟩:=h
 omega
def sealI (data blank:List Tape_api) (number:Int) (i:Nat):Seal_api:=⟨number,(i:Int),(data.length:Int),(blank.length:Int),labsT (data++blank)⟩
def makeG (data blank:List Tape_api) (number:Int):List Tape_api×Int:=
 if errG data blank (sealI data blank number 0)≠0 then ([],errG data blank (sealI data blank number 0)) else
 if (parG data (blank.length:Int)).2≠0 then ([],(parG data (blank.length:Int)).2) else
 (tab blank.length fun i=>tapF (tp blank i) (sealI data blank number (data.length+i)) ((parG data (blank.length:Int)).1.getD i []),0)
theorem errG_0 {data blank:List Tape_api} {s:Seal_api} (h:errG data blank s=0):RSl s:=by
 unfold errG badG at h
 by_cases hR:RSl s
 ·exact hR
 ·rw[if_pos (by simp[hR])] at h
  exact absurd h (by decide)
theorem sealI_R {data blank:List Tape_api} {number:Int} (h:RSl (sealI data blank number 0)) {i:Nat} (hi:i<data.length+blank.length):RSl (sealI data blank number i):=by
 obtain ⟨h1,h2,h3,h4,h5,h6⟩:=h
 exact ⟨h1,h2,h3,⟨by simp only[sealI];omega,by simp only[sealI];omega⟩,h5,h6⟩
theorem blank_lab {data blank:List Tape_api} {number:Int} (h:RSl (sealI data blank number 0)) {i:Nat} (hi:i<blank.length):1≤(tp blank i).Label∧(tp blank i).Label≤2147483647:=by
 obtain ⟨_,_,_,_,_,h6⟩:=h
 exact h6.1 _ (by simp only[sealI,labsT];exact List.mem_map.2 ⟨_,List.mem_append.2 (.inr (tp_mem hi)),rfl⟩)
theorem parG_row {data:List Tape_api} {P:Nat} (hs:Small data) (h:(parG data (P:Int)).2=0):(parG data (P:Int)).1.length=P∧∀x∈(parG data (P:Int)).1,x.length≤90∧∀r∈x,r.length≤79:=by
 have hln:=ln_le hs data.length (Nat.le_refl _)
 unfold parG at h ⊢
 by_cases h1:1≤data.length∧(0:Int)≤(P:Int)∧(data.length:Int)+(P:Int)≤255
 ·rw[if_pos h1] at h ⊢
  by_cases h2:(List.range (ln data data.length)).any (bad data)=true
  ·rw[if_pos h2] at h;exact absurd h (by decide)
  ·rw[if_neg h2]
   refine ⟨by simp[parS,tab],fun x hx=>?_⟩
   rw[Int.toNat_natCast] at hx
   obtain ⟨j,hj,rfl⟩:=mem_tab.1 hx
   refine ⟨by simp[tab];omega,fun r hr=>?_⟩
   obtain ⟨c,hc,rfl⟩:=mem_tab.1 hr
   have hb:bad data c=false:=by
    cases hb:bad data c with
    |false=>rfl
    |true=>exact absurd (List.any_eq_true.2 ⟨c,List.mem_range.2 hc,hb⟩) h2
   have hw:=good_wide hb
   have hE:encG (rowS data (c:Int)) (P:Int)=(if (P:Int)=0 then ([],0) else (reck (cau (rowS data (c:Int)).length ((P:Int)).toNat) (rowS data (c:Int)) (Gf.row (rowS data (c:Int)) 0).length,0)):=if_pos ⟨by rw[rowS_len];exact h1.1,by omega,by rw[rowS_len];omega,alike_if hw⟩
   rw[hE,if_neg (by omega)]
   have:=reck_wide (m:=cau (rowS data (c:Int)).length ((P:Int)).toNat) (l:=rowS data (c:Int)) (w:=(Gf.row (rowS data (c:Int)) 0).length) _ (Gf.row_mem (j:=j) (by rw[reck_len,cau_len];omega))
   rw[this,hw _ (Gf.row_mem (by rw[rowS_len];omega))]
   exact Nat.le_refl _
 ·rw[if_neg h1] at h;exact absurd h (by decide)
end Go.AX
namespace Go.AX
open Go.AM
set_option linter.unusedSimpArgs false
set_option linter.unusedVariables false
theorem good_atN {t:Tape_api} {n:Nat} {u:Unit_api} (hL:t.Lost=false) (hn:n<t.Blocks.length) (hb:t.Blocks.getD n []=frameL u) (hg:OKU u∧u.Load.length≤roomN u.Kind) (h1:u.Label=t.Label) (h2:u.Number=(n:Int)):goodF t (n:Int)=(u,true):=by
 unfold goodF
 rw[if_pos ⟨hL,by omega,by omega⟩,Int.toNat_natCast,hb,get_frame hg.1 hg.2]
 dsimp only
 rw[if_pos ⟨h1,h2⟩]
theorem frT_len {lab:Int} {us:List Unit_api} {n:Nat} (h:(us.getD n ⟨0,0,0,[]⟩).Load.length≤roomN (us.getD n ⟨0,0,0,[]⟩).Kind):(frT lab us n).length≤100000:=by
 unfold frT
 rw[frame_len (u:=⟨(us.getD n ⟨0,0,0,[]⟩).Kind,lab,(n:Int),(us.getD n ⟨0,0,0,[]⟩).Load⟩) h]
 have:=room_le (us.getD n ⟨0,0,0,[]⟩).Kind
 simp only
 omega
theorem c_sealedT {t:Tape_api} {s:Seal_api} {rows:List (List UInt8)} (hs:RSl s) (hr:∀r∈rows,r.length≤79) (hl:rows.length≤1000) (ht:1≤t.Label∧t.Label≤2147483647):
 X.volume_Sealed (tapF t s rows)=some (s,true):=by
 have h64:=encS_64 hs
 have hok:=unT_ok hr h64
 have hb:∀b∈(tapF t s rows).Blocks,b.length≤100000:=by
  intro b hb
  obtain ⟨n,hn,rfl⟩:=mem_tab.1 hb
  refine frT_len ?_
  have hiu:n<(unT s rows).length:=by rw[unT_len];exact hn
  rw[show (unT s rows).getD n ⟨0,0,0,[]⟩=(unT s rows)[n] by simp[hiu]]
  exact (hok _ (List.getElem_mem hiu)).2
 have hlen:(tapF t s rows).Blocks.length=rows.length+2:=by simp[tapF,tab]
 have hend:(unT s rows).getD (rows.length+1) ⟨0,0,0,[]⟩=⟨5,0,0,encS s⟩:=by
  unfold unT
  simp[List.getD_eq_getElem?_getD,List.getElem?_append]
 unfold X.volume_Sealed
 rw[hlen,show wr (((rows.length+2:Nat):Int)-1)=((rows.length+1:Nat):Int) by rw[wr_id (by omega) (by omega)];omega,c_good _ _ hb,bd_s,
  good_atN (t:=tapF t s rows) (u:=⟨5,t.Label,((rows.length+1:Nat):Int),encS s⟩) rfl (by omega) (by
   show (tab (rows.length+2) (frT t.Label (unT s rows))).getD (rows.length+1) []=_
   rw[tab_getD,if_pos (by omega),frT,hend]) ⟨⟨⟨by simp,by simp⟩,ht,⟨by simp only;omega,by simp only;omega⟩⟩,by simp only[roomN];exact h64⟩ rfl rfl,if_neg (by simp)]
 obtain ⟨r,e1,e2⟩:=x_sread (encS s) (by omega)
 show (X.record_ReadSeal (encS s)).bind _=_
 rw[e1,bd_s,Rd_enc hs e2]
 rfl
def unN (i:Nat):Unit_api:=⟨1,((2*i+1:Nat):Int),0,[68]⟩
def daN (i:Nat):Tape_api:=⟨((2*i+1:Nat):Int),5,[frameL (unN i)],false⟩
theorem unN_ok {i:Nat} (hi:i≤1000):OKU (unN i)∧(unN i).Load.length≤roomN (unN i).Kind:=
 ⟨⟨⟨by simp[unN],by simp[unN]⟩,⟨by simp only[unN];omega,by simp only[unN];omega⟩,⟨by simp[unN],by simp[unN]⟩⟩,by simp[unN,roomN]⟩
theorem unN_len {i:Nat}:(frameL (unN i)).length=79:=by
 rw[frame_len (by simp[unN,roomN]:(unN i).Load.length≤roomN (unN i).Kind)]
 rfl
theorem daN_good {i:Nat} (hi:i≤1000):goodF (daN i) 0=(unN i,true):=good_atN (n:=0) rfl (by simp[daN]) rfl (unN_ok hi) rfl rfl
theorem daN_blocks {i:Nat}:∀b∈(daN i).Blocks,b.length≤300:=by
 intro b hb
 rw[List.mem_singleton.1 hb,unN_len]
 omega
theorem daN_small {i:Nat}:Small [daN i]:=⟨by simp,fun t ht=>by rw[List.mem_singleton.1 ht];exact ⟨by simp[daN],daN_blocks⟩⟩
end Go.AX
namespace Go.AX
open Go.AM
set_option linter.unusedSimpArgs false
set_option linter.unusedVariables false
def fst1 (out:List Seal_api) (t:Tape_api) (q:Seal_api×Bool):List Seal_api:=
 if q.2=true∧getI q.1.Labels q.1.Index=some t.Label∧out.any (fun x=>x.Number==q.1.Number)=false then out++[q.1] else out
theorem c_anyS {l:List Seal_api} {g:Seal_api→Option Bool} (p:Seal_api→Bool) (hl:l.length≤1000) (hg:∀t∈l,g t=some (p t)):X.slices_ContainsFunc_Lapi_Seal_api_Seal l g=some (l.any p):=by
 unfold X.slices_ContainsFunc_Lapi_Seal_api_Seal X.slices_IndexFunc_Lapi_Seal_api_Seal
 obtain ⟨r,h1,h2⟩:=run_se (f:=X.slices_IndexFunc_Lapi_Seal_api_Seal_s6 l g) (a:=0) (n:=l.length)
  (fun r=>(match r with| .inl _=>l.any p=false| .inr x=>0≤x∧l.any p=true))
  (fun k=>(l.take k).any p=false) (Nat.zero_le _) (by omega) rfl (fun k _ hk hI=>by
    unfold X.slices_IndexFunc_Lapi_Seal_api_Seal_s6
    dsimp only
    rw[if_pos (by simp;omega),getI_nat hk,bd_s,hg _ (List.getElem_mem hk),bd_s]
    cases h0:p l[k] with
    |false=>
     left
     rw[if_neg (by decide),wr_succ (by omega)]
     refine ⟨rfl,?_⟩
     rw[List.take_add_one,List.getElem?_eq_getElem hk,List.any_append,hI]
     simp[h0]
    |true=>
     right
     rw[if_pos rfl]
     refine ⟨_,rfl,by omega,?_⟩
     rw[List.any_eq_true]
     exact ⟨_,List.getElem_mem hk,h0⟩) (fun hI=>by
    unfold X.slices_IndexFunc_Lapi_Seal_api_Seal_s6
    dsimp only
    rw[if_neg (by simp)]
    refine ⟨_,rfl,?_⟩
    rw[List.take_length] at hI
    exact hI)
 rw[show ((0:Nat):Int)=0 from rfl] at h1
 rw[h1,bd_s]
 cases r with
 |inl u=>
  dsimp only at h2 ⊢
  unfold X.slices_IndexFunc_Lapi_Seal_api_Seal_e6
  rw[bd_s,h2]
  rfl
 |inr x=>
  dsimp only at h2 ⊢
  rw[bd_s,h2.2]
  have:decide (x≥0)=true:=by simp;exact h2.1
  rw[this]
theorem fst1_len {out:List Seal_api} {t:Tape_api} {q:Seal_api×Bool}:(fst1 out t q).length≤out.length+1:=by
 unfold fst1
 split<;>simp
def fndG (Q:Nat→Seal_api×Bool) (l:List Tape_api):Nat→List Seal_api
 |0=>[]
 |i+1=>fst1 (fndG Q l i) (tp l i) (Q i)
theorem fndG_len {Q:Nat→Seal_api×Bool} {l:List Tape_api}:∀i,(fndG Q l i).length≤i
 |0=>by simp[fndG]
 |i+1=>by
  have:=fndG_len (Q:=Q) (l:=l) i
  have h2:=fst1_len (out:=fndG Q l i) (t:=tp l i) (q:=Q i)
  show (fst1 _ _ _).length≤_
  omega
theorem c_find0 {Q:Nat→Seal_api×Bool} {l:List Tape_api} (hl:l.length≤100) (hq:∀i,i<l.length→X.volume_Sealed (tp l i)=some (Q i)∧((Q i).2=true→∃e,getI (Q i).1.Labels (Q i).1.Index=some e)) (hs:∃r,X.slices_SortFunc_Lapi_Seal_api_SealL (fun a1 a2=>X.group_Find_c2 a1 a2) (fndG Q l l.length)=some r∧r.Perm (fndG Q l l.length)∧r.Pairwise SLe):
 ∃r,X.group_Find l=some r∧r.Perm (fndG Q l l.length)∧r.Pairwise SLe:=by
 unfold X.group_Find
 have key:run (X.group_Find_s7 l) (([]:List Seal_api),(0:Int))=some (fndG Q l l.length):=by
  refine run_G0 (fndG Q l) (n:=l.length) (by omega) rfl (fun i hi=>?_) ?_
  ·obtain ⟨q1,q2⟩:=hq i hi
   have hlen:=fndG_len (Q:=Q) (l:=l) i
   unfold X.group_Find_s7
   dsimp only
   rw[if_pos (by simp;omega),getI_tp hi,bd_s,q1,bd_s,wr_succ (by omega)]
   rw[show fndG Q l (i+1)=fst1 (fndG Q l i) (tp l i) (Q i) from rfl]
   unfold fst1
   cases hok:(Q i).2 with
   |false=>
    rw[Bool.not_false,Bool.not_true,optG_false,bd_s,Bool.true_or,Bool.not_true,optG_false,bd_s,Bool.true_or,if_pos rfl,if_neg (by simp)]
   |true=>
    obtain ⟨e,he⟩:=q2 hok
    rw[Bool.not_true,Bool.not_false,optG_true,he,bd_s,Bool.false_or]
    by_cases hL:e=(tp l i).Label
    ·have hne:(e !=(tp l i).Label)=false:=by simp[hL]
     have hc:X.slices_ContainsFunc_Lapi_Seal_api_Seal (fndG Q l i) (fun a1=>X.group_Find_c1 a1 (Q i).1.Number (Q i).1.Index (Q i).1.Data (Q i).1.Parity (Q i).1.Labels)=some ((fndG Q l i).any fun x=>x.Number==(Q i).1.Number):=c_anyS _ (by omega) fun t _=>rfl
     rw[hne,Bool.not_false,optG_true,hc,bd_s,Bool.false_or]
     cases ha:(fndG Q l i).any fun x=>x.Number==(Q i).1.Number with
     |true=>rw[if_pos rfl,if_neg (by simp)]
     |false=>rw[if_neg (by decide),need_is (by simp;omega),bd_s,if_pos ⟨rfl,by rw[hL],rfl⟩]
    ·have hne:(e !=(tp l i).Label)=true:=by simp[hL]
     rw[hne,Bool.not_true,optG_false,bd_s,Bool.true_or,if_pos rfl,if_neg (fun h=>hL (Option.some.inj h.2.1))]
  ·unfold X.group_Find_s7
   dsimp only
   rw[if_neg (by simp)]
 rw[key,bd_s]
 show ∃r,X.group_Find_e7 _=some r∧_
 unfold X.group_Find_e7
 obtain ⟨r,e1,e2,e3⟩:=hs
 exact ⟨r,by rw[e1,bd_s],e2,e3⟩
end Go.AX
namespace Go.AX
open Go.AM
set_option linter.unusedSimpArgs false
set_option linter.unusedVariables false
set_option maxRecDepth 100000 in
theorem c_find {Q:Nat→Seal_api×Bool} {l:List Tape_api} (hl:l.length≤100) (hq:∀i,i<l.length→X.volume_Sealed (tp l i)=some (Q i)∧((Q i).2=true→∃e,getI (Q i).1.Labels (Q i).1.Index=some e)) (h12:(fndG Q l l.length).length≤12):
 ∃r,X.group_Find l=some r∧r.Perm (fndG Q l l.length)∧r.Pairwise SLe:=c_find0 hl hq (x_sort _ h12)
theorem alive14:X.cartridgelaw14_alive=some true:=by decide+kernel
end Go.AX
namespace Go.AX
open Go.AM
set_option linter.unusedSimpArgs false
set_option linter.unusedVariables false
theorem c_madeO {u:Unit_api} (h:OKU u) (hl:u.Load.length≤roomN u.Kind):X.frame_made_or u=some (frameL u):=by
 obtain ⟨⟨a1,a2⟩,⟨a3,a4⟩,a5,a6⟩:=h
 have hr:=room_le u.Kind
 have hrm:X.frame_room u.Kind=some ((roomN u.Kind:Nat):Int):=by
  unfold X.frame_room roomN
  by_cases h:u.Kind=6
  ·rw[if_pos (by simp[h]),if_pos h];rfl
  ·rw[if_neg (by simp[h]),if_neg h];rfl
 have hcp:cpy (List.replicate (roomN u.Kind) (0:UInt8)) u.Load=u.Load++List.replicate (roomN u.Kind-u.Load.length) 0:=by
  unfold cpy
  rw[List.length_replicate,List.take_of_length_le hl,List.drop_replicate]
 have hbo:∀b:List UInt8,b.length≤100000→X.code_Writer_Bytes_or b=some b:=fun b hb=>by
  unfold X.code_Writer_Bytes_or X.slices_Clone_Lbyte_byte_own_or
  have:nilU b (fun z6=>if z6=true then some ([]:List UInt8) else (need (b.length*1≤140737488355328)).bind fun u10=>some b)=some b:=by
   refine nilU_same (fun e=>?_) ?_
   ·rw[if_pos rfl,e]
   ·rw[if_neg (by decide),need_is (by omega),bd_s]
  rw[this,bd_s]
 have hbody:((((([]++[UInt8.ofNat u.Kind.toNat])++w4 u.Label.toNat)++w4 u.Number.toNat)++[UInt8.ofNat (u.Load.length/256)])++[UInt8.ofNat u.Load.length])++(u.Load++List.replicate (roomN u.Kind-u.Load.length) (0:UInt8))=bodyF u:=by
  unfold bodyF
  simp
 unfold X.frame_made_or
 rw[c_wbyte (by simp),bd_s,c_wint (by omega) (by omega) (by simp),bd_s,c_wint (by omega) (by omega) (by simp[w4_len]),bd_s,shr8F (by omega),c_wbyte (by simp[w4_len]),bd_s,u8_m,c_wbyte (by simp[w4_len]),bd_s,hrm,bd_s]
 rw[need_is (by omega),bd_s,Int.toNat_natCast,hcp,hbo _ (by simp[w4_len]),bd_s,u8_i (by omega)]
 rw[hbody,need_is (by simp[w4_len];omega),bd_s,c_crc (by rw[body_len hl];omega),bd_s,c_wint (by omega) (by have:=(crc (bodyF u)).toNat_lt;omega) (by simp),bd_s,Int.toNat_natCast,List.nil_append,c_bytes (by simp[w4_len]),bd_s]
 rw[need_is (by rw[body_len hl,w4_len];omega),bd_s]
 rfl
theorem c_putO (u:Unit_api):X.frame_Put_or u=some (putF u):=by
 unfold X.frame_Put_or putF
 rw[c_check,bd_s]
 by_cases h:OKU u
 ·by_cases hm:u.Load.length≤roomN u.Kind
  ·simp only[if_pos h,if_pos hm]
   rw[if_neg (by decide),c_madeO h hm,bd_s]
  ·simp only[if_pos h,if_neg hm]
   rw[if_pos (by decide)]
 ·simp only[if_neg h]
  rw[if_pos (by decide)]
theorem c_gtapeO {t:Tape_api} {s:Seal_api} {rows:List (List UInt8)} (hs:RSl s) (hr:∀r∈rows,r.length≤79) (hl:rows.length≤1000) (ht:1≤t.Label∧t.Label≤2147483647):
 X.group_tape_os t s rows=some (tapF t s rows,0):=by
 unfold X.group_tape_os
 have k1:run (X.group_tape_os_s12 rows) (([⟨1,0,0,[80]⟩]:List Unit_api),(0:Int))=some (([⟨1,0,0,[80]⟩]:List Unit_api)++rows.map fun r=>⟨6,0,0,r⟩):=by
  refine run_G0 (fun i=>([⟨1,0,0,[80]⟩]:List Unit_api)++(rows.take i).map fun r=>⟨6,0,0,r⟩) (n:=rows.length) (by omega) (by simp) (fun i hi=>?_) ?_
  ·unfold X.group_tape_os_s12
   dsimp only
   rw[if_pos (by simp;omega),getI_nat hi,bd_s,need_is (by simp;omega),bd_s,wr_succ (by omega)]
   simp only[List.take_add_one,List.getElem?_eq_getElem hi,Option.toList_some,List.map_append,List.map_cons,List.map_nil,List.append_assoc]
  ·unfold X.group_tape_os_s12
   dsimp only
   rw[if_neg (by simp),List.take_length]
 rw[k1,bd_s]
 show X.group_tape_os_e12 s t _=_
 unfold X.group_tape_os_e12
 rw[x_sbytes,if_pos hs,bd_s,need_is (by simp;omega),bd_s]
 have hus:(([⟨1,0,0,[80]⟩]:List Unit_api)++rows.map fun r=>⟨6,0,0,r⟩)++([⟨5,0,0,encS s⟩]:List Unit_api)=unT s rows:=rfl
 have hok:=unT_ok hr (encS_64 hs)
 have k2:run (X.group_tape_os_s30 (([⟨1,0,0,[80]⟩]:List Unit_api)++rows.map fun r=>⟨6,0,0,r⟩) (encS s) t) (t.Label,t.Cap,([]:List (List UInt8)),false,(0:Int))=
  some (.inl (t.Label,t.Cap,tab (rows.length+2) (frT t.Label (unT s rows)),false)):=by
  refine run_is _ (fun p=>∃i:Nat,i≤rows.length+2∧p=(t.Label,t.Cap,tab i (frT t.Label (unT s rows)),false,(i:Int))) (fun p=>rows.length+2-p.2.2.2.2.toNat) ⟨0,by omega,rfl⟩ (by simp only;omega) ?_
  rintro p ⟨i,hi,rfl⟩
  unfold X.group_tape_os_s30
  dsimp only
  rw[hus,unT_len]
  rcases Nat.lt_or_ge i (rows.length+2) with hlt|hge
  ·left
   have hiu:i<(unT s rows).length:=by rw[unT_len];exact hlt
   have hg:(unT s rows).getD i ⟨0,0,0,[]⟩=(unT s rows)[i]:=by simp[hiu]
   obtain ⟨o1,o2⟩:=hok _ (List.getElem_mem hiu)
   rw[if_pos (by simp;omega),getI_nat hiu,bd_s,c_putO,put_okU (u:=⟨(unT s rows)[i].Kind,t.Label,(i:Int),(unT s rows)[i].Load⟩) ⟨o1,ht,⟨by simp,by simp only;omega⟩⟩ o2,bd_s,if_neg (by simp),need_is (by simp[tab];omega),bd_s,wr_succ (by omega)]
   refine ⟨_,rfl,⟨i+1,by omega,?_⟩,by simp only;omega⟩
   rw[tab_succ,frT,hg]
  ·right
   have:i=rows.length+2:=by omega
   subst this
   rw[if_neg (by simp)]
 rw[k2,bd_s]
 rfl
theorem c_gmakeO {data blank:List Tape_api} {number:Int} (hd:Small data) (hb:Small blank):X.group_Make_or data blank number=some (makeG data blank number):=by
 have hd1:=hd.1
 have hb1:=hb.1
 unfold X.group_Make_or makeG
 rw[x_ConcatT _ _ (by omega) (by omega),bd_s,c_labels (by simp;omega),bd_s]
 show (X.group_check data blank (sealI data blank number 0)).bind _=_
 rw[c_gcheck hd hb,bd_s]
 by_cases he:errG data blank (sealI data blank number 0)=0
 ·have hR:=errG_0 he
  rw[if_neg (by simp[he]),if_neg (by simp[he]),x_Par hd (by omega),bd_s]
  by_cases hp:(parG data (blank.length:Int)).2=0
  ·obtain ⟨p1,p2⟩:=parG_row hd hp
   rw[if_neg (by simp[hp]),if_neg (by simp[hp])]
   have k:run (X.group_Make_or_s25 blank (parG data (blank.length:Int)) data) (number,0,(data.length:Int),(blank.length:Int),labsT (data++blank),([]:List Tape_api),(0:Int))=
    some (.inl (tab blank.length fun i=>tapF (tp blank i) (sealI data blank number (data.length+i)) ((parG data (blank.length:Int)).1.getD i []))):=by
    refine run_is _ (fun p=>∃(i:Nat) (ix:Int),i≤blank.length∧p=(number,ix,(data.length:Int),(blank.length:Int),labsT (data++blank),tab i (fun i=>tapF (tp blank i) (sealI data blank number (data.length+i)) ((parG data (blank.length:Int)).1.getD i [])),(i:Int)))
     (fun p=>blank.length-p.2.2.2.2.2.2.toNat) ⟨0,0,by omega,rfl⟩ (by simp only;omega) ?_
    rintro p ⟨i,ix,hi,rfl⟩
    unfold X.group_Make_or_s25
    dsimp only
    rcases Nat.lt_or_ge i blank.length with hlt|hge
    ·left
     have hip:i<(parG data (blank.length:Int)).1.length:=by rw[p1];exact hlt
     have hmem:(parG data (blank.length:Int)).1.getD i []∈(parG data (blank.length:Int)).1:=by
      rw[List.getD_eq_getElem?_getD,List.getElem?_eq_getElem hip,Option.getD_some]
      exact List.getElem_mem hip
     have hT:=c_gtapeO (t:=tp blank i) (sealI_R hR (i:=data.length+i) (by omega)) (p2 _ hmem).2 (by have:=(p2 _ hmem).1;omega) (blank_lab hR hlt)
     have hw:wr ((data.length:Int)+(i:Int))=((data.length+i:Nat):Int):=by rw[wr_id (by omega) (by omega)];omega
     rw[if_pos (by simp;omega),getI_tp hlt,bd_s,getI_getD [] hip,bd_s,hw]
     unfold sealI at hT
     rw[hT,bd_s,if_neg (by simp),need_is (by simp[tab];omega),bd_s,wr_succ (by omega)]
     exact ⟨_,rfl,⟨i+1,_,by omega,by rw[tab_succ];rfl⟩,by simp only;omega⟩
    ·right
     have:i=blank.length:=by omega
     subst this
     rw[if_neg (by simp)]
   show (run (X.group_Make_or_s25 blank (parG data (blank.length:Int)) data) (number,0,(data.length:Int),(blank.length:Int),labsT (data++blank),([]:List Tape_api),(0:Int))).bind _=_
   rw[k,bd_s]
   rfl
  ·rw[if_pos (by simp[hp]),if_pos (by simp[hp])]
 ·rw[if_pos (by simp[he]),if_pos (by simp[he])]
end Go.AX
namespace Go.AX
open Go.AM
set_option linter.unusedSimpArgs false
set_option linter.unusedVariables false
def bkK (i:Nat):Tape_api:=⟨((2+i:Nat):Int),5,[],false⟩
def BKK (P:Nat):List Tape_api:=tab P bkK
def skK (P i:Nat):Seal_api:=sealI [daN 0] (BKK P) 4 (1+i)
def rwK (P i:Nat):List (List UInt8):=(parG [daN 0] ((BKK P).length:Int)).1.getD i []
def tkK (P i:Nat):Tape_api:=tapF (bkK i) (skK P i) (rwK P i)
theorem bk_len {P:Nat}:(BKK P).length=P:=by simp[BKK,tab]
theorem bk_tp {P i:Nat} (h:i<P):tp (BKK P) i=bkK i:=by
 unfold tp BKK
 rw[tab_getD,if_pos h]
theorem bk_small {P:Nat} (hP:P≤6):Small (BKK P):=⟨by rw[bk_len];omega,fun t ht=>by
 obtain ⟨i,_,rfl⟩:=mem_tab.1 ht
 exact ⟨by simp[bkK],fun r hr=>by simp[bkK] at hr⟩⟩
theorem labs_K {P:Nat}:labsT ([daN 0]++BKK P)=1::tab P fun i=>((2+i:Nat):Int):=by
 unfold labsT BKK
 rw[List.map_append]
 show _::_=_
 simp[tab,bkK,daN]
theorem sk_R {P i:Nat} (h1:1≤P) (hP:P≤6) (hi:i<P):RSl (skK P i):=by
 refine ⟨⟨by simp[skK,sealI],by simp[skK,sealI]⟩,⟨by simp[skK,sealI],by simp[skK,sealI]⟩,⟨?_,?_⟩,⟨?_,?_⟩,?_,?_,?_⟩
 ·show (1:Int)≤((BKK P).length:Int);rw[bk_len];omega
 ·show ((BKK P).length:Int)≤14-(([daN 0]:List Tape_api).length:Int);rw[bk_len];simp;omega
 ·show (0:Int)≤((1+i:Nat):Int);omega
 ·show ((1+i:Nat):Int)≤(([daN 0]:List Tape_api).length:Int)+((BKK P).length:Int)-1;rw[bk_len];simp;omega
 ·show ((labsT ([daN 0]++BKK P)).length:Int)=(([daN 0]:List Tape_api).length:Int)+((BKK P).length:Int)
  rw[labs_K,bk_len]
  simp[tab]
  omega
 ·intro x hx
  have hx:x∈labsT ([daN 0]++BKK P):=hx
  rw[labs_K] at hx
  rcases List.mem_cons.1 hx with rfl|hx
  ·omega
  ·obtain ⟨j,hj,rfl⟩:=mem_tab.1 hx
   omega
 ·show (labsT ([daN 0]++BKK P)).Nodup
  rw[labs_K,List.nodup_cons]
  refine ⟨fun hx=>?_,?_⟩
  ·obtain ⟨j,hj,e⟩:=mem_tab.1 hx
   omega
  ·unfold tab
   refine List.Pairwise.map _ (fun a b hab e=>?_) List.nodup_range
   exact hab (by omega)
theorem sk_lab {P i:Nat} (hi:i<P):getI (skK P i).Labels (skK P i).Index=some ((2+i:Nat):Int):=by
 show getI (labsT ([daN 0]++BKK P)) (((1+i:Nat):Int))=_
 rw[labs_K,getI_nat (by simp[tab];omega)]
 simp[Nat.add_comm 1 i,tab]
theorem par_K {P:Nat} (hP:P≤6):(parG [daN 0] ((BKK P).length:Int)).2=0:=by
 have hln:ln [daN 0] [daN 0].length=1:=rfl
 have hc:cell (daN 0) 0=frameL (unN 0):=by
  rw[cell_row (by simp[daN]),if_pos (by show (frameL (unN 0)).length=79;exact unN_len)]
  rfl
 unfold parG
 rw[if_pos (by rw[bk_len];simp;omega),if_neg]
 rw[hln]
 show ¬([0].any (bad [daN 0]))=true
 simp only[List.any_cons,List.any_nil,Bool.or_false,Bool.not_eq_true]
 unfold bad
 have hr:rowS [daN 0] ((0:Nat):Int)=[frameL (unN 0)]:=by
  show [cell (daN 0) 0]=_
  rw[hc]
 rw[hr]
 simp[unN_len]
theorem rw_len {P i:Nat} (hP:P≤6) (hi:i<P):(rwK P i).length=1∧∀r∈rwK P i,r.length≤79:=by
 have hp:=par_K hP
 obtain ⟨p1,p2⟩:=parG_row (daN_small (i:=0)) hp
 have hip:i<(parG [daN 0] ((BKK P).length:Int)).1.length:=by rw[p1,bk_len];exact hi
 have hmem:rwK P i∈(parG [daN 0] ((BKK P).length:Int)).1:=by
  unfold rwK
  rw[List.getD_eq_getElem?_getD,List.getElem?_eq_getElem hip,Option.getD_some]
  exact List.getElem_mem hip
 refine ⟨?_,(p2 _ hmem).2⟩
 unfold rwK
 unfold parG at hp ⊢
 split at hp
 ·rename_i h1
  rw[if_pos h1]
  split at hp
  ·exact absurd hp (by decide)
  ·rename_i h2
   rw[if_neg h2]
   simp only[parS]
   rw[tab_getD,if_pos (by rw[Int.toNat_natCast,bk_len];exact hi)]
   simp[tab]
   rfl
 ·exact absurd hp (by decide)
theorem mk_K {P:Nat} (h1:1≤P) (hP:P≤6):X.group_Make_or [daN 0] (BKK P) 4=some (tab P (tkK P),0):=by
 have hR:RSl (sealI [daN 0] (BKK P) 4 0):=by
  obtain ⟨a1,a2,a3,a4,a5,a6⟩:=sk_R h1 hP (i:=0) (by omega)
  exact ⟨a1,a2,a3,⟨by simp[sealI],by simp only[sealI];rw[bk_len];simp;omega⟩,a5,a6⟩
 have hln:ln [daN 0] [daN 0].length=1:=rfl
 have hag:agB (daN 0)=true:=by
  unfold agB
  show ([0].all fun n=>(goodF (daN 0) (n:Int)).2)=true
  simp only[List.all_cons,List.all_nil,Bool.and_true]
  show (goodF (daN 0) 0).2=true
  rw[daN_good (by omega)]
 have hbl:∀p:Tape_api→Bool,(∀i,p (bkK i)=false)→(BKK P).any p=false:=by
  intro p hp
  unfold BKK tab
  rw[List.any_map,List.any_eq_false]
  intro x _
  simp[hp x]
 have he:errG [daN 0] (BKK P) (sealI [daN 0] (BKK P) 4 0)=0:=by
  have hb:badG [daN 0] (BKK P) (sealI [daN 0] (BKK P) 4 0)=false:=by
   unfold badG
   rw[hln,decide_eq_true hR,hbl _ (fun i=>rfl)]
   simp only[List.any_cons,List.any_nil,List.all_cons,List.all_nil,hag]
   rfl
  unfold errG
  rw[hb,hln,if_neg (by decide),if_neg (by rw[hbl _ (fun i=>by simp[bkK])];decide),if_neg (by rw[hbl _ (fun i=>by simp[bkK])];decide)]
 rw[c_gmakeO daN_small (bk_small hP)]
 unfold makeG
 have key:∀n,n=P→tab n (fun i=>tapF (tp (BKK P) i) (sealI [daN 0] (BKK P) 4 ([daN 0].length+i)) ((parG [daN 0] ((BKK P).length:Int)).1.getD i []))=tab P (tkK P):=by
  intro n hn
  rw[hn]
  refine tab_congr fun i hi=>?_
  rw[bk_tp hi]
  rfl
 rw[if_neg (fun h=>h he),if_neg (fun h=>h (par_K hP)),key _ bk_len]
theorem tk_blocks {P i:Nat} (hP:P≤6) (hi:i<P):(tkK P i).Blocks.length=3∧(tkK P i).Blocks.getD 2 []=frameL ⟨5,((2+i:Nat):Int),2,encS (skK P i)⟩:=by
 obtain ⟨r1,r2⟩:=rw_len hP hi
 have hend:(unT (skK P i) (rwK P i)).getD ((rwK P i).length+1) ⟨0,0,0,[]⟩=⟨5,0,0,encS (skK P i)⟩:=by
  unfold unT
  simp[List.getD_eq_getElem?_getD,List.getElem?_append]
 rw[r1] at hend
 refine ⟨by simp[tkK,tapF,tab,r1],?_⟩
 show (tab ((rwK P i).length+2) (frT _ (unT (skK P i) (rwK P i)))).getD 2 []=_
 rw[tab_getD,if_pos (by omega),frT,hend]
 rfl
theorem tkK_le {P i:Nat} (h1:1≤P) (hP:P≤6) (hi:i<P):∀b∈(tkK P i).Blocks,b.length≤100000:=by
 intro b hb
 obtain ⟨n,hn,rfl⟩:=mem_tab.1 hb
 refine frT_len ?_
 have hiu:n<(unT (skK P i) (rwK P i)).length:=by rw[unT_len];exact hn
 rw[show (unT (skK P i) (rwK P i)).getD n ⟨0,0,0,[]⟩=(unT (skK P i) (rwK P i))[n] by simp[hiu]]
 exact (unT_ok (rw_len hP hi).2 (encS_64 (sk_R h1 hP hi)) _ (List.getElem_mem hiu)).2
theorem tk_79 {P i:Nat} (h1:1≤P) (hP:P≤6) (hi:i<P):((tkK P i).Blocks.getD 2 []).length=79∧(encS (skK P i)).length≤64:=by
 have h64:=encS_64 (sk_R h1 hP hi)
 rw[(tk_blocks hP hi).2,frame_len (u:=⟨5,((2+i:Nat):Int),2,encS (skK P i)⟩) (by simp only[roomN];exact h64)]
 exact ⟨rfl,h64⟩
theorem sealed_bad {t:Tape_api} (h3:t.Blocks.length=3) (hb:∀b∈t.Blocks,b.length≤100000) (h:t.Lost=true∨getU (t.Blocks.getD 2 [])=none):X.volume_Sealed t=some (zeroS,false):=by
 unfold X.volume_Sealed
 have hg:goodF t 2=(zeroU,false):=by
  unfold goodF
  split
  ·rename_i hc
   rcases h with h|h
   ·rw[hc.1] at h;cases h
   ·rw[show (2:Int).toNat=2 from rfl,h]
  ·rfl
 rw[h3,show wr (((3:Nat):Int)-1)=2 by decide,c_good _ _ hb,bd_s,hg,if_pos (by decide)]
 rfl
def InvK (P:Nat) (l:List Tape_api) (h:List Bool):Prop:=l.length=P∧h.length=P∧∀i,i<P→
 (tp l i).Label=((2+i:Nat):Int)∧(tp l i).Blocks.length=3∧((tp l i).Blocks.getD 2 []).length=79∧(∀b∈(tp l i).Blocks,b.length≤100000)∧
 (h.getD i false=false→tp l i=tkK P i)∧(h.getD i false=true→(tp l i).Lost=true∨getU ((tp l i).Blocks.getD 2 [])=none)
theorem tp_set {l:List Tape_api} {k i:Nat} {t:Tape_api} (hk:k<l.length):tp (l.set k t) i=if i=k then t else tp l i:=set_getD hk
theorem inv_set {P:Nat} {l:List Tape_api} {h:List Bool} (I:InvK P l h) {k:Nat} (hk:k<P) {t:Tape_api} (t1:t.Label=(tp l k).Label) (t2:t.Blocks.length=3) (t3:(t.Blocks.getD 2 []).length=79) (t4:∀b∈t.Blocks,b.length≤100000)
 (t5:t.Lost=true∨getU (t.Blocks.getD 2 [])=none):InvK P (l.set k t) (h.set k true):=by
 obtain ⟨i1,i2,i3⟩:=I
 refine ⟨by simp[i1],by simp[i2],fun i hi=>?_⟩
 rw[tp_set (by omega),set_getD (by omega)]
 by_cases hik:i=k
 ·subst hik
  rw[if_pos rfl,if_pos rfl]
  exact ⟨by rw[t1];exact (i3 i hi).1,t2,t3,t4,fun e=>(by cases e),fun _=>t5⟩
 ·rw[if_neg hik,if_neg hik]
  exact i3 i hi
theorem and1023K (x:Int):∃n:Nat,and64 x (1023:Int)=(n:Int):=by
 refine ⟨((BitVec.ofInt 64 x).toNat&&&1023),?_⟩
 unfold and64 bitsI
 have hb:(BitVec.ofInt IntKind.i64.bits (1023:Int)).toNat=1023:=by decide
 simp only
 rw[BitVec.toNat_and,hb]
 have h2:(BitVec.ofInt IntKind.i64.bits x).toNat&&&1023≤1023:=Nat.and_le_right
 exact wr_eq (by omega) (by omega)
theorem at_K (x:Int) {P:Nat} (h1:1≤P):∃k:Nat,(and64 x (1023:Int)).tmod (P:Int)=(k:Int)∧k<P:=by
 obtain ⟨n,hn⟩:=and1023K x
 exact ⟨n%P,by rw[hn];exact (Int.ofNat_tmod n P).symm,Nat.mod_lt _ h1⟩
theorem xor16 (x:UInt8):x^^^(16:UInt8)≠x:=fun h=>by
 have h2:=congrArg (x^^^·) h
 simp only[←UInt8.xor_assoc,UInt8.xor_self,UInt8.zero_xor] at h2
 exact absurd h2 (by decide)
theorem tp_self {l:List Tape_api} {k:Nat} (hk:k<l.length):l.set k (tp l k)=l:=by
 refine list_ext_getD ⟨0,0,[],false⟩ (by simp) fun i hi=>?_
 rw[set_getD hk]
 split
 ·rename_i h;rw[h];rfl
 ·rfl
theorem bset_self {b:List (List UInt8)} (h:b.length=3):b.set 2 (b.getD 2 [])=b:=by
 refine list_ext_getD [] (by simp) fun i hi=>?_
 rw[set_getD (by omega)]
 split
 ·rename_i h;rw[h]
 ·rfl
theorem lost_K {P:Nat} (h1:1≤P) (lost:List Int) (hL:lost.length≤10) {l0:List Tape_api} {h0:List Bool} (I:InvK P l0 h0):
 ∃l h,InvK P l h∧run (X.cartridgelaw14_GroupKnows_s35 lost (P:Int)) (l0,h0,(0:Int))=some (l,h):=by
 have:=run_inv (f:=X.cartridgelaw14_GroupKnows_s35 lost (P:Int)) (s:=(l0,h0,(0:Int))) (fun s=>∃(i:Nat) (l:List Tape_api) (h:List Bool),i≤lost.length∧InvK P l h∧s=(l,h,(i:Int))) (fun r=>∃l h,InvK P l h∧r=(l,h)) (fun s=>lost.length-s.2.2.toNat)
  ⟨0,l0,h0,by omega,I,rfl⟩ (by simp;omega) ?_
 ·obtain ⟨r,e1,l,h,e2,rfl⟩:=this
  exact ⟨l,h,e2,e1⟩
 rintro s ⟨i,l,h,hi,I,rfl⟩
 unfold X.cartridgelaw14_GroupKnows_s35
 dsimp only
 by_cases hlt:i<lost.length
 ·left
  obtain ⟨k,hk,hk2⟩:=at_K (lost.getD i 0) h1
  have I0:=I
  obtain ⟨i1,i2,i3⟩:=I
  obtain ⟨a1,a2,a3,a4,_,_⟩:=i3 k hk2
  rw[if_pos (by simp;omega),getI_getD 0 hlt,bd_s,need_is (by omega),bd_s,hk,getI_tp (by omega),bd_s,getI_getD false (by omega),bd_s,wr_succ (by omega),Int.toNat_natCast]
  exact ⟨_,rfl,⟨i+1,_,_,by omega,inv_set I0 hk2 (t:=⟨(tp l k).Label,(tp l k).Cap,(tp l k).Blocks,true⟩) rfl a2 a3 a4 (.inl rfl),rfl⟩,by dsimp only;omega⟩
 ·right
  rw[if_neg (by simp;omega)]
  exact ⟨_,rfl,l,h,I,rfl⟩
theorem rot_K {P:Nat} (h1:1≤P) (hP:P≤6) (rot:List Int) (hL:rot.length≤10) {l0:List Tape_api} {h0:List Bool} (I:InvK P l0 h0):
 ∃l h,InvK P l h∧run (X.cartridgelaw14_GroupKnows_s47 rot (P:Int)) (l0,h0,(0:Int))=some (.inl (l,h)):=by
 have:=run_inv (f:=X.cartridgelaw14_GroupKnows_s47 rot (P:Int)) (s:=(l0,h0,(0:Int))) (fun s=>∃(i:Nat) (l:List Tape_api) (h:List Bool),i≤rot.length∧InvK P l h∧s=(l,h,(i:Int))) (fun r=>∃l h,InvK P l h∧r= .inl (l,h)) (fun s=>rot.length-s.2.2.toNat)
  ⟨0,l0,h0,by omega,I,rfl⟩ (by simp;omega) ?_
 ·obtain ⟨r,e1,l,h,e2,rfl⟩:=this
  exact ⟨l,h,e2,e1⟩
 rintro s ⟨i,l,h,hi,I,rfl⟩
 unfold X.cartridgelaw14_GroupKnows_s47
 dsimp only
 by_cases hlt:i<rot.length
 ·left
  obtain ⟨k,hk,hk2⟩:=at_K (rot.getD i 0) h1
  have I0:=I
  obtain ⟨i1,i2,i3⟩:=I
  obtain ⟨a1,a2,a3,a4,a5,a6⟩:=i3 k hk2
  have hb2:getI (tp l k).Blocks (2:Int)=some ((tp l k).Blocks.getD 2 []):=getI_getD (i:=2) [] (by omega)
  have hself:l.set k (Tape_api.mk (tp l k).Label (tp l k).Cap ((tp l k).Blocks.set ((2:Int).toNat) ((tp l k).Blocks.getD 2 [])) (tp l k).Lost)=l:=by
   rw[show (2:Int).toNat=2 from rfl,bset_self a2]
   exact tp_self (by omega)
  have hN:(!(((tp l k).Blocks.length:Int) !=3))=true:=by rw[a2];rfl
  rw[if_pos (by simp;omega),getI_getD 0 hlt,bd_s,need_is (by omega),bd_s,hk,getI_tp (by omega),bd_s,hb2,bd_s,bd_s,hN,opt_t,bd_s,opt_t,bd_s,if_neg (by rw[a2,a3];decide),getI_getD false (by omega),bd_s,Int.toNat_natCast,hself]
  cases hh:h.getD k false with
  |true=>
   rw[if_neg (by decide)]
   unfold X.cartridgelaw14_GroupKnows_j77
   rw[wr_succ (by omega)]
   exact ⟨_,rfl,⟨i+1,l,h,by omega,I0,rfl⟩,by dsimp only;omega⟩
  |false=>
   have ht:=a5 hh
   obtain ⟨h79,h64⟩:=tk_79 h1 hP hk2
   have hx:getI ((tp l k).Blocks.getD 2 []) (20:Int)=some (((tp l k).Blocks.getD 2 []).getD 20 0):=getI_getD (i:=20) 0 (by omega)
   rw[if_pos (by decide),getI_tp (by omega),bd_s,hb2,bd_s,bd_s,bd_s,bd_s,bd_s,hx,bd_s,bd_s,bd_s]
   unfold X.cartridgelaw14_GroupKnows_j77
   rw[wr_succ (by omega)]
   refine ⟨_,rfl,⟨i+1,_,_,by omega,inv_set I0 hk2 (t:=⟨(tp l k).Label,(tp l k).Cap,(tp l k).Blocks.set ((2:Int).toNat) (((tp l k).Blocks.getD 2 []).set (20:Int).toNat (((tp l k).Blocks.getD 2 []).getD 20 0^^^16)),(tp l k).Lost⟩) rfl (by simp[a2]) ?_ ?_ (.inr ?_),rfl⟩,by dsimp only;omega⟩
   ·show (((tp l k).Blocks.set 2 _).getD 2 []).length=79
    rw[set_getD (by omega),if_pos rfl,List.length_set,a3]
   ·intro b hb
    rcases List.mem_or_eq_of_mem_set hb with hb|rfl
    ·exact a4 b hb
    ·rw[List.length_set,a3];omega
   ·show getU (((tp l k).Blocks.set 2 _).getD 2 [])=none
    rw[set_getD (by omega),if_pos rfl,ht,(tk_blocks hP hk2).2]
    have hfl:(frameL ⟨5,((2+k:Nat):Int),2,encS (skK P k)⟩).length=79:=by rw[←(tk_blocks hP hk2).2];exact h79
    refine rot_none (u:=⟨5,((2+k:Nat):Int),2,encS (skK P k)⟩) (by simp only[roomN];exact h64) (by simp[roomN]) ?_
    intro he
    have h20:(20:Int).toNat=20:=rfl
    rw[h20,List.getD_eq_getElem?_getD,List.getElem?_eq_getElem (show 20<(frameL ⟨5,((2+k:Nat):Int),2,encS (skK P k)⟩).length by omega)] at he
    injection he with he
    exact xor16 _ he.symm
 ·right
  rw[if_neg (by simp;omega)]
  exact ⟨_,rfl,l,h,I,rfl⟩
theorem fnd_K {P:Nat} (l:List Tape_api) (h:List Bool) (I:InvK P l h):∀i,i≤P→
 (fndG (fun i=>if h.getD i false=true then (zeroS,false) else (skK P i,true)) l i=[]∧∀j,j<i→h.getD j false=true)∨
 ∃j,j<i∧h.getD j false=false∧fndG (fun i=>if h.getD i false=true then (zeroS,false) else (skK P i,true)) l i=[skK P j]
 |0,_=> .inl ⟨rfl,fun j hj=>absurd hj (Nat.not_lt_zero _)⟩
 |i+1,hi=>by
  have ih:=fnd_K l h I i (by omega)
  obtain ⟨i1,i2,i3⟩:=I
  have e:fndG (fun i=>if h.getD i false=true then (zeroS,false) else (skK P i,true)) l (i+1)=fst1 (fndG (fun i=>if h.getD i false=true then (zeroS,false) else (skK P i,true)) l i) (tp l i) (if h.getD i false=true then (zeroS,false) else (skK P i,true)):=rfl
  rw[e]
  cases hh:h.getD i false with
  |true=>
   have:∀out,fst1 out (tp l i) (if true=true then (zeroS,false) else (skK P i,true))=out:=fun out=>by
    unfold fst1
    rw[if_neg (by simp)]
   rw[this]
   rcases ih with ⟨h1,h2⟩|⟨j,h1,h2,h3⟩
   ·refine .inl ⟨h1,fun j hj=>?_⟩
    rcases Nat.lt_succ_iff_lt_or_eq.1 hj with hj|rfl
    ·exact h2 j hj
    ·exact hh
   ·exact .inr ⟨j,by omega,h2,h3⟩
  |false=>
   rw[if_neg (by decide)]
   have hlab:getI (skK P i).Labels (skK P i).Index=some (tp l i).Label:=by
    rw[(i3 i (by omega)).1]
    exact sk_lab (by omega)
   rcases ih with ⟨h1,h2⟩|⟨j,h1,h2,h3⟩
   ·right
    refine ⟨i,by omega,hh,?_⟩
    rw[h1]
    unfold fst1
    rw[if_pos ⟨rfl,hlab,rfl⟩]
    rfl
   ·right
    refine ⟨j,by omega,h2,?_⟩
    rw[h3]
    unfold fst1
    rw[if_neg]
    rintro ⟨_,_,h4⟩
    have h5:([skK P j].any fun x=>x.Number==(skK P i).Number)=true:=by
     show (((4:Int)==4)||false)=true
     rfl
    rw[h5] at h4
    cases h4
theorem any_K {P:Nat} (hP:P≤6) {h:List Bool} (hl:h.length=P):run (X.cartridgelaw14_GroupKnows_s60 (P:Int) h) (false,(0:Int))=some ((List.range P).any fun i=> !h.getD i false):=by
 refine run_G0 (n:=P) (fun i=>(List.range i).any fun i=> !h.getD i false) (by omega) rfl (fun i hi=>?_) ?_
 ·unfold X.cartridgelaw14_GroupKnows_s60
  dsimp only
  rw[if_pos (by simp;omega)]
  cases ha:(List.range i).any fun i=> !h.getD i false with
  |true=>
   rw[show (!true)=false from rfl,opt_f,bd_s,wr_succ (by omega),List.range_succ,List.any_append,ha]
   rfl
  |false=>
   rw[show (!false)=true from rfl,opt_t,getI_getD false (by omega),bd_s,wr_succ (by omega),List.range_succ,List.any_append,ha]
   simp
 ·unfold X.cartridgelaw14_GroupKnows_s60
  dsimp only
  rw[if_neg (by simp)]
theorem group_knows (parity:Int) (lost rot:List Int):X.cartridgelaw14_GroupKnows parity lost rot=some true:=by
 unfold X.cartridgelaw14_GroupKnows
 rw[alive14,bd_s]
 split
 ·rfl
 rename_i hc
 simp at hc
 obtain ⟨P,rfl⟩:∃P:Nat,parity=(P:Int):=⟨parity.toNat,by omega⟩
 have h1:1≤P:=by omega
 have hP:P≤6:=by omega
 have hput:X.cartridgeref1_PutFrame ⟨1,1,0,[68]⟩=some (frameL (unN 0),0):=by
  rw[y_put _ (by simp),put_okU (u:=⟨1,1,0,[68]⟩) (by decide) (by decide)]
  rfl
 rw[hput,bd_s]
 have hbl:run (X.cartridgelaw14_GroupKnows_s17 (P:Int)) (([]:List Tape_api),(0:Int))=some (BKK P):=by
  refine run_G0 (n:=P) (fun i=>tab i bkK) (by omega) rfl (fun i hi=>?_) ?_
  ·unfold X.cartridgelaw14_GroupKnows_s17
   dsimp only
   rw[if_pos (by simp;omega),need_is (by simp[tab];omega),bd_s,wr_succ (by omega),tab_succ]
   have:wr ((2:Int)+(i:Int))=((2+i:Nat):Int):=by rw[wr_id (by omega) (by omega)];omega
   rw[this]
   rfl
  ·unfold X.cartridgelaw14_GroupKnows_s17
   dsimp only
   rw[if_neg (by simp)]
   rfl
 rw[hbl,bd_s]
 show X.cartridgelaw14_GroupKnows_e17 (frameL (unN 0),0) (P:Int) lost rot (BKK P)=_
 unfold X.cartridgelaw14_GroupKnows_e17
 have hmk:=mk_K h1 hP
 unfold daN at hmk
 rw[show (((2*0+1:Nat):Nat):Int)=1 from rfl] at hmk
 rw[hmk,bd_s]
 have htl:(tab P (tkK P)).length=P:=by simp[tab]
 dsimp only
 rw[show X.cartridgelaw14_num 0=some 0 from rfl,bd_s,htl,if_neg (by simp),need_is (by omega),bd_s,Int.toNat_natCast]
 have I:InvK P (tab P (tkK P)) (List.replicate P false):=by
  refine ⟨htl,by simp,fun i hi=>?_⟩
  have e:tp (tab P (tkK P)) i=tkK P i:=by
   unfold tp
   rw[tab_getD,if_pos hi]
  rw[e]
  exact ⟨rfl,(tk_blocks hP hi).1,(tk_79 h1 hP hi).1,tkK_le h1 hP hi,fun _=>rfl,fun hh=>by
   rw[List.getD_eq_getElem?_getD,List.getElem?_replicate,if_pos hi] at hh
   cases hh⟩
 obtain ⟨l2,b2,I2,e2⟩:=lost_K h1 lost (by omega) I
 rw[e2,bd_s]
 show X.cartridgelaw14_GroupKnows_e35 rot (P:Int) l2 b2=_
 unfold X.cartridgelaw14_GroupKnows_e35
 obtain ⟨l3,b3,I3,e3⟩:=rot_K h1 hP rot (by omega) I2
 rw[e3,bd_s]
 show X.cartridgelaw14_GroupKnows_e47 (P:Int) l3 b3=_
 unfold X.cartridgelaw14_GroupKnows_e47
 rw[any_K hP I3.2.1,bd_s]
 show X.cartridgelaw14_GroupKnows_e60 l3 _=_
 unfold X.cartridgelaw14_GroupKnows_e60
 have hq:∀i,i<l3.length→X.volume_Sealed (tp l3 i)=some (if b3.getD i false=true then (zeroS,false) else (skK P i,true))∧((if b3.getD i false=true then (zeroS,false) else (skK P i,true)).2=true→∃e,getI (if b3.getD i false=true then (zeroS,false) else (skK P i,true)).1.Labels (if b3.getD i false=true then (zeroS,false) else (skK P i,true)).1.Index=some e):=by
  intro i hi
  have hiP:i<P:=by rw[I3.1] at hi;exact hi
  obtain ⟨a1,a2,a3,a4,a5,a6⟩:=I3.2.2 i hiP
  cases hh:b3.getD i false with
  |true=>
   rw[if_pos rfl]
   exact ⟨sealed_bad a2 a4 (a6 hh),fun h=>(by cases h)⟩
  |false=>
   rw[if_neg (by decide),a5 hh]
   exact ⟨c_sealedT (sk_R h1 hP hiP) (rw_len hP hiP).2 (by rw[(rw_len hP hiP).1];omega) ⟨by simp only[bkK];omega,by simp only[bkK];omega⟩,fun _=>⟨_,sk_lab hiP⟩⟩
 have hf:=fnd_K l3 b3 I3 P (Nat.le_refl _)
 obtain ⟨r,er,hp,_⟩:=c_find (Q:=fun i=>if b3.getD i false=true then (zeroS,false) else (skK P i,true)) (l:=l3) (by rw[I3.1];omega) hq (by rw[I3.1];have:=fndG_len (Q:=fun i=>if b3.getD i false=true then (zeroS,false) else (skK P i,true)) (l:=l3) P;omega)
 rw[I3.1] at hp
 rw[er,bd_s]
 rcases hf with ⟨f1,f2⟩|⟨j,f1,f2,f3⟩
 ·rw[f1] at hp
  have:=hp.eq_nil
  subst this
  have ha:((List.range P).any fun i=> !b3.getD i false)=false:=by
   rw[List.any_eq_false]
   intro x hx
   rw[f2 x (List.mem_range.1 hx)]
   simp
  rw[ha]
  rfl
 ·rw[f3] at hp
  have:=List.perm_singleton.1 hp
  subst this
  have ha:((List.range P).any fun i=> !b3.getD i false)=true:=by
   rw[List.any_eq_true]
   exact ⟨j,List.mem_range.2 f1,by rw[f2];rfl⟩
  rw[ha]
  rfl
end Go.AX
