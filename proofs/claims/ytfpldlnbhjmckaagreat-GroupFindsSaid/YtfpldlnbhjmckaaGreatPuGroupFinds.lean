import Derived.Test.YtfpldlnbhjmckaaGreatXFn
import Derived.Test.YtfpldlnbhjmckaaGreatLibB
import Derived.Laws.RangeAny
import Derived.Laws.RangeString
set_option linter.unusedVariables false
set_option linter.unusedSimpArgs false
namespace Go.AX
theorem iter_more {σ ρ:Type} {f:σ→Option (σ ⊕ ρ)}:∀{n:Nat} {s:σ} {r:ρ} (k:Nat),iter f n s=some r→iter f (n+k) s=some r
 |0,_,_,_,h=>by simp[iter] at h
 |n+1,s,r,k,h=>by
  rw[Nat.add_right_comm]
  simp only[iter] at h ⊢
  cases hs:f s with
  |none=>rw[hs] at h;cases h
  |some q=>
   rw[hs] at h
   cases q with
   |inl s'=>exact iter_more k h
   |inr r'=>exact h
theorem run_few {σ ρ:Type} {f:σ→Option (σ ⊕ ρ)} {s:σ} {r:ρ} (n:Nat) (hn:n≤1000000) (h:iter f n s=some r):run f s=some r:=by
 unfold run
 rw[FUEL_eq,show (4611686018427387904:Nat)=n+(4611686018427387904-n) from by omega]
 exact iter_more _ h
theorem run_ix {σ ρ:Type} {f:σ×Int→Option ((σ×Int) ⊕ ρ)} {s0:σ} {a n:Nat} (I:Nat→σ→Prop) (R:ρ→Prop) (han:a≤n) (hn:n≤4000000000000000000) (h0:I a s0)
 (step:∀i s,a≤i→i<n→I i s→(∃s',f (s,(i:Int))=some (.inl (s',((i+1:Nat):Int)))∧I (i+1) s')∨∃r,f (s,(i:Int))=some (.inr r)∧R r)
 (fin:∀s,I n s→∃r,f (s,(n:Int))=some (.inr r)∧R r):∃r,run f (s0,(a:Int))=some r∧R r:=by
 refine run_inv (fun p=>∃i:Nat,p.2=(i:Int)∧a≤i∧i≤n∧I i p.1) R (fun p=>n-p.2.toNat) ⟨a,rfl,Nat.le_refl _,han,h0⟩ (by simp only;omega) ?_
 rintro ⟨s,x⟩ ⟨i,rfl,hai,hin,hI⟩
 rcases Nat.lt_or_ge i n with hlt|hge
 ·rcases step i s hai hlt hI with ⟨s',h1,h2⟩|h
  ·exact .inl ⟨_,h1,⟨i+1,rfl,by omega,by omega,h2⟩,by simp only;omega⟩
  ·exact .inr h
 ·have:i=n:=by omega
  subst this
  exact .inr (fin s hI)
theorem run_G {σ ρ:Type} {f:σ×Int→Option ((σ×Int) ⊕ ρ)} (G:Nat→σ) {s0:σ} {a n:Nat} {r:ρ} (han:a≤n) (hn:n≤4000000000000000000) (h0:s0=G a)
 (step:∀i,a≤i→i<n→f (G i,(i:Int))=some (.inl (G (i+1),((i+1:Nat):Int)))) (fin:f (G n,(n:Int))=some (.inr r)):run f (s0,(a:Int))=some r:=by
 obtain ⟨r',h1,h2⟩:=run_ix (f:=f) (s0:=s0) (a:=a) (n:=n) (fun i s=>s=G i) (fun x=>x=r) han hn h0 (fun i s hi hlt e=> .inl ⟨_,by rw[e];exact step i hi hlt,rfl⟩) (fun s e=>⟨r,by rw[e];exact fin,rfl⟩)
 rw[h1,h2]
theorem run_G0 {σ ρ:Type} {f:σ×Int→Option ((σ×Int) ⊕ ρ)} (G:Nat→σ) {s0:σ} {n:Nat} {r:ρ} (hn:n≤4000000000000000000) (h0:s0=G 0)
 (step:∀i,i<n→f (G i,(i:Int))=some (.inl (G (i+1),((i+1:Nat):Int)))) (fin:f (G n,(n:Int))=some (.inr r)):run f (s0,(0:Int))=some r:=
 run_G (a:=0) G (Nat.zero_le _) hn h0 (fun i _ h=>step i h) fin
theorem run_ix0 {σ ρ:Type} {f:σ×Int→Option ((σ×Int) ⊕ ρ)} {s0:σ} {n:Nat} (I:Nat→σ→Prop) (R:ρ→Prop) (hn:n≤4000000000000000000) (h0:I 0 s0)
 (step:∀i s,i<n→I i s→(∃s',f (s,(i:Int))=some (.inl (s',((i+1:Nat):Int)))∧I (i+1) s')∨∃r,f (s,(i:Int))=some (.inr r)∧R r)
 (fin:∀s,I n s→∃r,f (s,(n:Int))=some (.inr r)∧R r):∃r,run f (s0,(0:Int))=some r∧R r:=
 run_ix (a:=0) I R (Nat.zero_le _) hn h0 (fun i s _ h k=>step i s h k) fin
theorem run_se {ρ:Type} {f:Int→Option (Int ⊕ ρ)} {a n:Nat} (R:ρ→Prop) (I:Nat→Prop) (han:a≤n) (hn:n≤4000000000000000000) (h0:I a)
 (step:∀i,a≤i→i<n→I i→(f (i:Int)=some (.inl ((i+1:Nat):Int))∧I (i+1))∨∃r,f (i:Int)=some (.inr r)∧R r)
 (fin:I n→∃r,f (n:Int)=some (.inr r)∧R r):∃r,run f (a:Int)=some r∧R r:=by
 refine run_inv (fun x=>∃i:Nat,x=(i:Int)∧a≤i∧i≤n∧I i) R (fun x=>n-x.toNat) ⟨a,rfl,Nat.le_refl _,han,h0⟩ (by omega) ?_
 rintro x ⟨i,rfl,hai,hin,hI⟩
 rcases Nat.lt_or_ge i n with hlt|hge
 ·rcases step i hai hlt hI with ⟨h1,h2⟩|h
  ·exact .inl ⟨_,h1,⟨i+1,rfl,by omega,by omega,h2⟩,by omega⟩
  ·exact .inr h
 ·have:i=n:=by omega
  subst this
  exact .inr (fin hI)
theorem run_seE {ρ:Type} {f:Int→Option (Int ⊕ ρ)} {a n:Nat} {r:ρ} (I:Nat→Prop) (han:a≤n) (hn:n≤4000000000000000000) (h0:I a)
 (step:∀i,a≤i→i<n→I i→(f (i:Int)=some (.inl ((i+1:Nat):Int))∧I (i+1))∨f (i:Int)=some (.inr r))
 (fin:I n→f (n:Int)=some (.inr r)):run f (a:Int)=some r:=by
 obtain ⟨r',h1,h2⟩:=run_se (f:=f) (fun x=>x=r) I han hn h0 (fun i h1 h2 h3=>(step i h1 h2 h3).imp id fun h=>⟨r,h,rfl⟩) (fun h=>⟨r,fin h,rfl⟩)
 rw[h1,h2]
def tab {α:Type} (n:Nat) (g:Nat→α):List α:=(List.range n).map g
section
variable {α:Type} {n:Nat} {g g':Nat→α}
theorem getI_getD {xs:List α} (z:α) {i:Nat} (h:i<xs.length):getI xs (i:Int)=some (xs.getD i z):=by
 rw[getI_nat h];simp[List.getD_eq_getElem?_getD,h]
theorem set_getD {xs:List α} {z:α} {i j:Nat} {y:α} (h:i<xs.length):(xs.set i y).getD j z=if j=i then y else xs.getD j z:=by
 simp only[List.getD_eq_getElem?_getD,List.getElem?_set]
 by_cases e:i=j
 ·subst e;simp[h]
 ·rw[if_neg e,if_neg fun h:j=i=>e h.symm]
end
end Go.AX
namespace Go.AX
namespace Gf
theorem x4 (a b c d:UInt8):(a^^^b)^^^(c^^^d)=(a^^^c)^^^(b^^^d):=by
 rw[UInt8.xor_assoc,UInt8.xor_assoc,←UInt8.xor_assoc b c d,←UInt8.xor_assoc c b d,UInt8.xor_comm b c]
def p2:List UInt8:=[1,2,4,8,16,32,64,128]
end Gf
end Go.AX
namespace Go.AX
open Go.AM
open Gf
end Go.AX
namespace Go.AX
namespace Gf
def e (r:List UInt8) (j:Nat):UInt8:=r.getD j 0
def row (l:List (List UInt8)) (i:Nat):List UInt8:=l.getD i []
def add (a b:List UInt8):List UInt8:=tab a.length (fun j=>e a j^^^e b j)
theorem getI_row {l:List (List UInt8)} {j:Nat} (h:j<l.length):getI l (j:Int)=some (row l j):=getI_getD [] h
theorem mem_row {l:List (List UInt8)} {r:List UInt8} (h:r∈l):∃j,j<l.length∧row l j=r:=by
 obtain ⟨j,hj,rfl⟩:=List.getElem_of_mem h
 exact ⟨j,hj,by unfold row;rw[List.getD_eq_getElem?_getD,List.getElem?_eq_getElem hj];rfl⟩
end Gf
end Go.AX
namespace Go.AX
open Go.AM
open Gf
theorem wr_inc {a:Nat} (h:a≤4000000000000000000):wr ((a:Int)+(1:Int))=((a+1:Nat):Int):=wr_succ (by omega)
theorem slc_from {α:Type} (xs:List α) (n:Nat):slc xs (n:Int) (xs.length:Int)=xs.drop n:=by
 unfold slc
 rw[Int.toNat_natCast,List.take_of_length_le]
 simp
theorem bind_s {α β:Type} (a:α) (f:α→Option β):(some a).bind f=f a:=rfl
end Go.AX
namespace Go.AX
open Go.AM
open Gf
end Go.AX
namespace Go.AX
open Go.AM
open Gf
end Go.AX
namespace Go.AX
open Go.AM
end Go.AX
namespace Go.AX
open Go.AM
open Gf
end Go.AX
namespace Go.AX
open Go.AM
open Gf
namespace Gf
end Gf
end Go.AX
namespace Go.AX
open Go.AM
open Gf
namespace Gf
end Gf
end Go.AX
namespace Go.AX
open Go.AM
open Gf
end Go.AX
namespace Go.AX
open Go.AM
open Gf
def tp (l:List Tape_api) (i:Nat):Tape_api:=l.getD i ⟨0,0,[],false⟩
theorem getI_tp {l:List Tape_api} {i:Nat} (h:i<l.length):getI l (i:Int)=some (tp l i):=getI_getD _ h
theorem mem_tp {l:List Tape_api} {t:Tape_api} (h:t∈l):∃j,j<l.length∧tp l j=t:=by
 obtain ⟨j,hj,rfl⟩:=List.getElem_of_mem h
 exact ⟨j,hj,by unfold tp;rw[List.getD_eq_getElem?_getD,List.getElem?_eq_getElem hj];rfl⟩
def Small (l:List Tape_api):Prop:=l.length≤14∧∀t∈l,t.Blocks.length≤90∧∀r∈t.Blocks,r.length≤300
def zeros:List UInt8:=List.replicate 79 0
def cell (t:Tape_api) (n:Int):List UInt8:=if t.Lost=true∨n<0∨n≥t.Blocks.length then zeros else if (row t.Blocks n.toNat).length=79 then row t.Blocks n.toNat else []
def rowS (l:List Tape_api) (n:Int):List (List UInt8):=tab l.length (fun i=>cell (tp l i) n)
def bad (l:List Tape_api) (n:Nat):Bool:=(rowS l (n:Int)).any (fun r=>r.length==0)
end Go.AX
namespace Go.AX
open Go.AM
open Gf
end Go.AX
namespace Go.AX
end Go.AX
namespace Go.AX
open Go.AM
set_option linter.unusedSimpArgs false
theorem bd_s {α β:Type} (a:α) (f:α→Option β):(some a).bind f=f a:=rfl
theorem slc_nn {α:Type} (xs:List α) (a b:Nat):slc xs (a:Int) (b:Int)=(xs.drop a).take (b-a):=by
 unfold slc
 simp
theorem slc_0n {α:Type} (xs:List α) (b:Nat):slc xs (0:Int) (b:Int)=xs.take b:=by
 have:=slc_nn xs 0 b
 simpa using this
end Go.AX
namespace Go.AX
open Go.AM
set_option linter.unusedSimpArgs false
def w4 (n:Nat):List UInt8:=[UInt8.ofNat (n/16777216),UInt8.ofNat (n/65536),UInt8.ofNat (n/256),UInt8.ofNat n]
def beN (l:List UInt8):Nat:=l.foldl (fun n c=>n*256+c.toNat) 0
@[simp] theorem w4_len (n:Nat):(w4 n).length=4:=rfl
theorem be_w4 {n:Nat} (h:n<4294967296):beN (w4 n)=n:=by
 simp only[w4,beN,List.foldl_cons,List.foldl_nil,UInt8.toNat_ofNat']
 omega
theorem four {l:List UInt8} (h:l.length=4):∃a b c d,l=[a,b,c,d]:=by
 match l,h with
 |[a,b,c,d],_=>exact ⟨a,b,c,d,rfl⟩
theorem w4_be {l:List UInt8} (h:l.length=4):w4 (beN l)=l:=by
 obtain ⟨a,b,c,d,rfl⟩:=four h
 have ha:=a.toNat_lt
 have hb:=b.toNat_lt
 have hc:=c.toNat_lt
 have hd:=d.toNat_lt
 have e:beN [a,b,c,d]=((a.toNat*256+b.toNat)*256+c.toNat)*256+d.toNat:=by simp[beN]
 have o:∀(x:UInt8) (m:Nat),m%256=x.toNat→UInt8.ofNat m=x:=fun x m hm=>by
  apply UInt8.toNat_inj.1
  rw[UInt8.toNat_ofNat',←hm]
 rw[e]
 unfold w4
 rw[o a _ (by omega),o b _ (by omega),o c _ (by omega),o d _ (by omega)]
theorem be_succ {l:List UInt8} {i:Nat} (h:i<l.length):beN (l.take (i+1))=beN (l.take i)*256+(l[i]).toNat:=by
 rw[List.take_succ_eq_append_getElem h]
 unfold beN
 rw[List.foldl_append];rfl
theorem be_pow:∀(i:Nat) (l:List UInt8),i≤l.length→beN (l.take i)<256^i
 |0,l,_=>by simp[beN]
 |i+1,l,h=>by
  rw[be_succ (by omega),Nat.pow_succ]
  have h1:=be_pow i l (by omega)
  have h2:=(l[i]'(by omega)).toNat_lt
  have h3:(beN (l.take i)+1)*256≤256^i*256:=Nat.mul_le_mul_right _ h1
  omega
theorem or_add {n c:Nat} (h:c<256):n*256|||c=n*256+c:=by
 have:=Nat.shiftLeft_add_eq_or_of_lt (i:=8) (b:=c) (by omega) n
 rw[Nat.shiftLeft_eq] at this
 exact this.symm
def tkA (n:Nat):Option (List UInt8)→List UInt8×Option (List UInt8)
 |none=>([],none)
 |some b=>if n≤b.length then (b.take n,some (b.drop n)) else ([],none)
theorem tkA_none (n:Nat):tkA n none=([],none):=rfl
theorem tkA_some (n:Nat) (b:List UInt8):tkA n (some b)=if n≤b.length then (b.take n,some (b.drop n)) else ([],none):=rfl
def byA (s:Option (List UInt8)):UInt8×Option (List UInt8):=((tkA 1 s).1.headD 0,(tkA 1 s).2)
def inA (s:Option (List UInt8)):Int×Option (List UInt8):=(((beN (tkA 4 s).1:Nat):Int),(tkA 4 s).2)
theorem tk_len (n:Nat) (s:Option (List UInt8)):(tkA n s).1.length=0∨(tkA n s).1.length=n:=by
 cases s with
 |none=>exact .inl rfl
 |some b=>
  rw[tkA_some]
  by_cases h:n≤b.length
  ·rw[if_pos h];right;simp;omega
  ·rw[if_neg h];exact .inl rfl
theorem tk_app {a X:List UInt8}:tkA a.length (some (a++X))=(a,some X):=by
 rw[tkA_some,if_pos (by simp)]
 simp
theorem by_app {c:UInt8} {X:List UInt8}:byA (some (c::X))=(c,some X):=by
 have:tkA 1 (some (c::X))=([c],some X):=tk_app (a:=[c]) (X:=X)
 unfold byA
 rw[this];rfl
theorem in_app {n:Nat} {X:List UInt8} (h:n<4294967296):inA (some (w4 n++X))=((n:Int),some X):=by
 have:tkA 4 (some (w4 n++X))=(w4 n,some X):=tk_app (a:=w4 n) (X:=X)
 unfold inA
 rw[this,be_w4 h]
end Go.AX
namespace Go.AX
open Go.AM
set_option linter.unusedSimpArgs false
def conC:Option (List UInt8)→List UInt8×Bool
 |none=>([],true)
 |some b=>(b,false)
theorem c_take (n:Nat) (s:Option (List UInt8)):X.code_Reader_take (n:Int) (conC s).1 (conC s).2=some ((tkA n s).1,conC (tkA n s).2):=by
 cases s with
 |none=>rfl
 |some b=>
  show X.code_Reader_take (n:Int) b false=_
  unfold X.code_Reader_take
  rw[if_neg (by simp)]
  by_cases h:n≤b.length
  ·rw[if_neg (by simp;omega),need_is (by omega),bd_s,need_is (by omega),bd_s,tkA_some,if_pos h]
   have h1:slc b (0:Int) (n:Int)=b.take n:=by simp[slc]
   have h2:slc b (n:Int) (b.length:Int)=b.drop n:=by
    unfold slc
    rw[Int.toNat_natCast,List.take_of_length_le (by simp)]
   rw[h1,h2]
   rfl
  ·rw[if_pos (by simp;omega),tkA_some,if_neg h]
   rfl
theorem c_byte (s:Option (List UInt8)):X.code_Reader_Byte (conC s).1 (conC s).2=some ((byA s).1,conC (byA s).2):=by
 unfold X.code_Reader_Byte
 have:=c_take 1 s
 rw[show (1:Int)=((1:Nat):Int) from rfl,this,bd_s]
 unfold byA
 cases h:(tkA 1 s).1 with
 |nil=>rfl
 |cons c l=>
  rw[if_neg (by simp;omega)]
  rfl
theorem c_int (s:Option (List UInt8)):X.code_Reader_Int (conC s).1 (conC s).2=some ((inA s).1,conC (inA s).2):=by
 unfold X.code_Reader_Int
 have:=c_take 4 s
 rw[show (4:Int)=((4:Nat):Int) from rfl,this,bd_s]
 have hl:(tkA 4 s).1.length≤4:=by rcases tk_len 4 s with h|h<;>omega
 generalize hx:(tkA 4 s).1=x at hl
 obtain ⟨n,h1,h2⟩:=run_ix0 (f:=X.code_Reader_Int_s10 (x,conC (tkA 4 s).2)) (s0:=(0:UInt32)) (n:=x.length) (fun i n=>n.toNat=beN (x.take i)) (fun n=>n.toNat=beN x) (by omega) rfl
  (fun i n hi hI=>by
    left
    unfold X.code_Reader_Int_s10
    simp only
    rw[if_pos (by simpa using hi),getI_nat hi,bd_s,wr_succ (by omega)]
    refine ⟨_,rfl,?_⟩
    have hp:=be_pow i x (by omega)
    have hi3:i≤3:=by omega
    have hq:256^i≤256^3:=Nat.pow_le_pow_right (by omega) hi3
    have hc:=(x[i]).toNat_lt
    rw[be_succ hi,UInt32.toNat_or]
    have e1:(shl32 n 8).toNat=beN (x.take i)*256:=by
     unfold shl32
     rw[UInt32.toNat_ofNat',hI]
     omega
    have e2:(u32 ((x[i]).toNat:Int)).toNat=(x[i]).toNat:=by
     unfold u32
     rw[UInt32.toNat_ofNat']
     omega
    rw[e1,e2,or_add hc])
  (fun n hI=>by
    unfold X.code_Reader_Int_s10
    simp only
    rw[if_neg (by simp)]
    exact ⟨_,rfl,by simpa using hI⟩)
 rw[h1,bd_s]
 unfold X.code_Reader_Int_e10 inA
 rw[hx]
 simp only[h2]
theorem c_new (b:List UInt8) (h:b.length≤100000):X.code_NewReader b=some (conC (some b)):=by
 unfold X.code_NewReader X.slices_Clone_Lbyte_byte
 rw[nilU_same (r:=b) (fun e=>by subst e;rfl) (by simp only[Bool.false_eq_true,if_false];rw[need_is (by omega),bd_s]),bd_s]
 rfl
end Go.AX
namespace Go.AX
open Go.AM
set_option linter.unusedSimpArgs false
theorem optG_b (g a:Bool):optG g (some a)=some (g&&a):=by cases g<;>rfl
theorem u8_m (m:Nat):u8 (m:Int)=UInt8.ofNat m:=by
 apply UInt8.toNat_inj.1
 unfold u8
 rw[UInt8.toNat_ofNat',UInt8.toNat_ofNat']
 omega
theorem c_wint {n:Int} {b:List UInt8} (h0:0≤n) (h1:n<4294967296) (hb:b.length≤100000):X.code_Writer_Int n b=some (b++w4 n.toNat):=by
 unfold X.code_Writer_Int
 rw[need_is (by simp only[List.length_cons,List.length_nil];omega),bd_s]
 have e:(u32 n).toNat=n.toNat:=by
  unfold u32
  rw[UInt32.toNat_ofNat']
  omega
 have s:∀k,(shr32 (u32 n) k).toNat=n.toNat/2^k:=fun k=>by
  unfold shr32
  rw[UInt32.toNat_ofNat',e]
  exact Nat.mod_eq_of_lt (Nat.lt_of_le_of_lt (Nat.div_le_self _ _) (by omega))
 rw[s,s,s,e]
 simp only[u8_m]
 rfl
theorem c_wbyte {c:UInt8} {b:List UInt8} (hb:b.length≤100000):X.code_Writer_Byte c b=some (b++[c]):=by
 unfold X.code_Writer_Byte
 rw[need_is (by simp only[List.length_cons,List.length_nil];omega),bd_s]
theorem c_bytes {b:List UInt8} (hb:b.length≤100000):X.code_Writer_Bytes b=some b:=by
 unfold X.code_Writer_Bytes X.slices_Clone_Lbyte_byte_own
 rw[nilU_same (r:=b) (fun e=>by subst e;rfl) (by simp only[Bool.false_eq_true,if_false];rw[need_is (by omega),bd_s]),bd_s]
theorem x_equal {a b:List UInt8} (ha:a.length≤1000000):X.slices_Equal_Lbyte_byte a b=some (a==b):=by
 unfold X.slices_Equal_Lbyte_byte
 by_cases hl:a.length=b.length
 ·rw[if_neg (by simp[hl])]
  obtain ⟨o,h1,h2⟩:=run_se (f:=X.slices_Equal_Lbyte_byte_s9 a b) (a:=0) (n:=a.length) (fun o=>(o= .inl ()∧a=b)∨(o= .inr false∧a≠b)) (fun i=>a.take i=b.take i) (Nat.zero_le _) (by omega) (by simp)
   (fun i _ hi hI=>by
     unfold X.slices_Equal_Lbyte_byte_s9
     simp only
     rw[if_pos (by simpa using hi),getI_nat hi,bd_s,getI_nat (by omega),bd_s]
     by_cases e:a[i]=b[i]'(by omega)
     ·left
      rw[if_neg (by simp[e]),wr_succ (by omega)]
      exact ⟨rfl,by rw[List.take_succ_eq_append_getElem hi,List.take_succ_eq_append_getElem (by omega),hI,e]⟩
     ·right
      rw[if_pos (by simp[e])]
      exact ⟨_,rfl,.inr ⟨rfl,fun h=>e (by subst h;rfl)⟩⟩)
   (fun hI=>by
     unfold X.slices_Equal_Lbyte_byte_s9
     simp only
     rw[if_neg (by simp)]
     refine ⟨_,rfl,.inl ⟨rfl,?_⟩⟩
     rw[List.take_length,hl,List.take_length] at hI
     exact hI)
  have h1':run (X.slices_Equal_Lbyte_byte_s9 a b) (0:Int)=some o:=h1
  rw[h1',bd_s]
  rcases h2 with ⟨rfl,rfl⟩|⟨rfl,h3⟩
  ·simp only[beq_self_eq_true];rfl
  ·simp only[beq_eq_false_iff_ne.2 h3]
 ·rw[if_pos (by simp;omega),beq_eq_false_iff_ne.2 (fun e=>hl (by rw[e]))]
end Go.AX
namespace Go.AX
open Go.AM
set_option linter.unusedSimpArgs false
def goodL (L:List Int):Prop:=(∀x∈L,1≤x∧x≤2147483647)∧L.Nodup
instance (L:List Int):Decidable (goodL L):=by unfold goodL;infer_instance
def RSl (s:Seal_api):Prop:=(1≤s.Number∧s.Number≤1073741824)∧(1≤s.Data∧s.Data≤14)∧(1≤s.Parity∧s.Parity≤14-s.Data)∧(0≤s.Index∧s.Index≤s.Data+s.Parity-1)∧(s.Labels.length:Int)=s.Data+s.Parity∧goodL s.Labels
instance (s:Seal_api):Decidable (RSl s):=by unfold RSl;infer_instance
theorem good_succ {L:List Int} {i:Nat} (hi:i<L.length) (h:goodL (L.take i)) (h1:1≤L[i]∧L[i]≤2147483647) (h2:L[i]∉L.take i):goodL (L.take (i+1)):=by
 rw[List.take_succ_eq_append_getElem hi]
 refine ⟨fun x hx=>?_,?_⟩
 ·rcases List.mem_append.1 hx with hx|hx
  ·exact h.1 x hx
  ·simp at hx;subst hx;exact h1
 ·rw[List.nodup_append]
  refine ⟨h.2,by simp,fun a ha b hb e=>?_⟩
  simp at hb
  subst hb;subst e
  exact h2 ha
theorem bad_elem {L:List Int} {i:Nat} (hi:i<L.length) (h:¬(1≤L[i]∧L[i]≤2147483647)):¬goodL L:=fun hg=>h (hg.1 _ (List.getElem_mem hi))
theorem bad_twice {L:List Int} {i:Nat} (hi:i<L.length) (h:L[i]∈L.take i):¬goodL L:=fun hg=>by
 have h1:(L.take (i+1)).Nodup:=List.Nodup.sublist (List.take_sublist _ _) hg.2
 rw[List.take_succ_eq_append_getElem hi,List.nodup_append] at h1
 exact h1.2.2 _ h _ (by simp) rfl
theorem contains_is {L:List Int} {v:Int} (hL:L.length≤100000):X.slices_Contains_Lint_int L v=some (decide (v∈L)):=by
 unfold X.slices_Contains_Lint_int X.slices_Index_Lint_int
 obtain ⟨o,h1,h2⟩:=run_se (f:=X.slices_Index_Lint_int_s6 L v) (a:=0) (n:=L.length) (fun o=>(o= .inl ()∧v∉L)∨(∃k:Nat,o= .inr (k:Int)∧v∈L)) (fun i=>v∉L.take i) (Nat.zero_le _) (by omega) (by simp)
  (fun i _ hi hI=>by
    unfold X.slices_Index_Lint_int_s6
    simp only
    rw[if_pos (by simpa using hi),getI_nat hi,bd_s]
    by_cases e:v=L[i]
    ·right
     rw[if_pos (by simp[e])]
     exact ⟨_,rfl,.inr ⟨i,rfl,by rw[e];exact List.getElem_mem hi⟩⟩
    ·left
     rw[if_neg (by simp[e]),wr_succ (by omega)]
     refine ⟨rfl,?_⟩
     rw[List.take_succ_eq_append_getElem hi,List.mem_append]
     rintro (h|h)
     ·exact hI h
     ·simp at h;exact e h)
  (fun hI=>by
    unfold X.slices_Index_Lint_int_s6
    simp only
    rw[if_neg (by simp)]
    exact ⟨_,rfl,.inl ⟨rfl,by simpa using hI⟩⟩)
 have h1':run (X.slices_Index_Lint_int_s6 L v) (0:Int)=some o:=h1
 rw[h1',bd_s]
 rcases h2 with ⟨rfl,h3⟩|⟨k,rfl,h3⟩
 ·rw[decide_eq_false h3];rfl
 ·rw[decide_eq_true h3]
  show some (decide ((k:Int)≥0))=_
  rw[decide_eq_true (by omega)]
theorem x_sright (s:Seal_api):X.record_RightSeal s=some (decide (RSl s)):=by
 unfold X.record_RightSeal
 simp only[X.record_within,optG_b,bd_s]
 by_cases h1:(1≤s.Number∧s.Number≤1073741824)∧(1≤s.Data∧s.Data≤14)∧(1≤s.Parity∧s.Parity≤14-s.Data)
 ·obtain ⟨⟨a1,a2⟩,⟨a3,a4⟩,a5,a6⟩:=h1
  have w1:wr ((14:Int)-s.Data)=14-s.Data:=wr_eq (by omega) (by omega)
  have w2:wr (s.Data+s.Parity)=s.Data+s.Parity:=wr_eq (by omega) (by omega)
  have w3:wr (s.Data+s.Parity-(1:Int))=s.Data+s.Parity-1:=wr_eq (by omega) (by omega)
  rw[w1,w2,w3,if_neg (by simp[a1,a2,a3,a4,a5,a6])]
  by_cases h2:(0≤s.Index∧s.Index≤s.Data+s.Parity-1)∧(s.Labels.length:Int)=s.Data+s.Parity
  ·obtain ⟨⟨b1,b2⟩,b3⟩:=h2
   rw[if_neg (by simp[b1,b2,b3])]
   have hlen:s.Labels.length≤14:=by omega
   obtain ⟨o,h1,h2⟩:=run_se (f:=X.record_RightSeal_s16 s) (a:=0) (n:=s.Labels.length) (fun o=>(o= .inl ()∧goodL s.Labels)∨(o= .inr false∧¬goodL s.Labels)) (fun i=>goodL (s.Labels.take i)) (Nat.zero_le _) (by omega) (by simp[goodL])
    (fun i _ hi hI=>by
      unfold X.record_RightSeal_s16 X.record_within
      simp only
      rw[if_pos (by simpa using hi),getI_nat hi,bd_s,bd_s]
      by_cases hr:1≤s.Labels[i]∧s.Labels[i]≤2147483647
      ·have hd:(decide (s.Labels[i]≥(1:Int))&&decide (s.Labels[i]≤(2147483647:Int)))=true:=by simp[hr.1,hr.2]
       rw[hd,Bool.not_true,Bool.not_false,optG_true,need_is (by omega),bd_s,optG_true]
       have hs:slc s.Labels (0:Int) (i:Int)=s.Labels.take i:=by simp[slc]
       rw[hs,contains_is (by simp;omega),bd_s]
       by_cases hm:s.Labels[i]∈s.Labels.take i
       ·right
        rw[decide_eq_true hm,if_pos (by simp)]
        exact ⟨_,rfl,.inr ⟨rfl,bad_twice hi hm⟩⟩
       ·left
        rw[decide_eq_false hm,if_neg (by simp),wr_succ (by omega)]
        exact ⟨rfl,good_succ hi hI hr hm⟩
      ·right
       have hd:(decide (s.Labels[i]≥(1:Int))&&decide (s.Labels[i]≤(2147483647:Int)))=false:=by simp;omega
       rw[hd,Bool.not_false,Bool.not_true,optG_false,bd_s,optG_false,bd_s,if_pos (by simp)]
       exact ⟨_,rfl,.inr ⟨rfl,bad_elem hi hr⟩⟩)
    (fun hI=>by
      unfold X.record_RightSeal_s16
      simp only
      rw[if_neg (by simp)]
      exact ⟨_,rfl,.inl ⟨rfl,by simpa using hI⟩⟩)
   have h1':run (X.record_RightSeal_s16 s) (0:Int)=some o:=h1
   rw[h1',bd_s]
   rcases h2 with ⟨rfl,h3⟩|⟨rfl,h3⟩
   ·rw[decide_eq_true (show RSl s from ⟨⟨a1,a2⟩,⟨a3,a4⟩,⟨a5,a6⟩,⟨b1,b2⟩,b3,h3⟩)];rfl
   ·rw[decide_eq_false (show ¬RSl s from fun hR=>h3 hR.2.2.2.2.2)]
  ·rw[decide_eq_false (show ¬RSl s from fun hR=>h2 ⟨hR.2.2.2.1,hR.2.2.2.2.1⟩),if_pos ?_]
   simp
   omega
 ·rw[decide_eq_false (show ¬RSl s from fun hR=>h1 ⟨hR.1,hR.2.1,hR.2.2.1⟩),if_pos ?_]
  by_cases hD:1≤s.Data∧s.Data≤14
  ·rw[wr_eq (by omega) (by omega)]
   simp
   omega
  ·simp
   omega
def flatL (L:List Int):List UInt8:=L.flatMap fun n=>w4 n.toNat
theorem flatL_len (L:List Int):(flatL L).length=4*L.length:=by
 unfold flatL
 rw[List.length_flatMap]
 simp only[w4_len]
 rw[List.map_const',List.sum_replicate_nat]
 omega
def encS (s:Seal_api):List UInt8:=w4 s.Number.toNat++(UInt8.ofNat s.Index.toNat::UInt8.ofNat s.Data.toNat::UInt8.ofNat s.Parity.toNat::flatL s.Labels)
theorem encS_len (s:Seal_api):(encS s).length=7+4*s.Labels.length:=by
 unfold encS
 simp[flatL_len]
 omega
theorem u8_i {n:Int} (h:0≤n):u8 n=UInt8.ofNat n.toNat:=by
 have:=u8_m n.toNat
 rwa [Int.toNat_of_nonneg h] at this
def labs:List UInt8→Option (List Int)
 |[]=>some []
 |a::b::c::d::r=>(labs r).map (((beN [a,b,c,d]:Nat):Int)::·)
 |_=>none
theorem labs_flat:∀{L:List Int},(∀x∈L,0≤x∧x<4294967296)→labs (flatL L)=some L
 |[],_=>rfl
 |x::L,h=>by
  obtain ⟨h1,h2⟩:=h x (by simp)
  have e:flatL (x::L)=w4 x.toNat++flatL L:=rfl
  have e2:labs (w4 x.toNat++flatL L)=(labs (flatL L)).map (((beN (w4 x.toNat):Nat):Int)::·):=rfl
  rw[e,e2,labs_flat (fun y hy=>h y (List.mem_cons_of_mem _ hy)),be_w4 (by omega),Int.toNat_of_nonneg h1];rfl
theorem flat_labs:∀{t:List UInt8} {L:List Int},labs t=some L→flatL L=t
 |[],L,h=>by simp[labs] at h;subst h;rfl
 |[_],L,h=>by simp[labs] at h
 |[_,_],L,h=>by simp[labs] at h
 |[_,_,_],L,h=>by simp[labs] at h
 |a::b::c::d::r,L,h=>by
  rw[labs,Option.map_eq_some_iff] at h
  obtain ⟨M,h1,rfl⟩:=h
  have e:flatL (((beN [a,b,c,d]:Nat):Int)::M)=w4 (beN [a,b,c,d])++flatL M:=rfl
  rw[e,w4_be rfl,flat_labs h1];rfl
theorem in_inv {b X:List UInt8} (h:(inA (some b)).2=some X):b=w4 (inA (some b)).1.toNat++X:=by
 unfold inA at h ⊢
 rw[tkA_some] at h ⊢
 by_cases hl:4≤b.length
 ·rw[if_pos hl] at h ⊢
  simp only[Option.some.injEq] at h
  subst h
  simp only[Int.toNat_natCast]
  rw[w4_be (by simp;omega),List.take_append_drop]
 ·rw[if_neg hl] at h;cases h
theorem by_inv {b X:List UInt8} (h:(byA (some b)).2=some X):b=(byA (some b)).1::X:=by
 unfold byA at h ⊢
 rw[tkA_some] at h ⊢
 by_cases hl:1≤b.length
 ·rw[if_pos hl] at h ⊢
  simp only[Option.some.injEq] at h
  subst h
  cases b with
  |nil=>simp at hl
  |cons c l=>rfl
 ·rw[if_neg hl] at h;cases h
theorem by_some {s:Option (List UInt8)} {X:List UInt8} (h:(byA s).2=some X):∃b,s=some b:=by
 cases s with
 |none=>cases h
 |some b=>exact ⟨b,rfl⟩
def p7 (b:List UInt8):Int×UInt8×UInt8×UInt8×Option (List UInt8):=
 let n:=inA (some b);let i:=byA n.2;let d:=byA i.2;let p:=byA d.2
 (n.1,i.1,d.1,p.1,p.2)
theorem p7_app {n:Nat} {i d p:UInt8} {X:List UInt8} (h:n<4294967296):p7 (w4 n++(i::d::p::X))=((n:Int),i,d,p,some X):=by
 unfold p7
 simp only[in_app h,by_app]
theorem p7_inv {b X:List UInt8} (h:(p7 b).2.2.2.2=some X):b=w4 (p7 b).1.toNat++((p7 b).2.1::(p7 b).2.2.1::(p7 b).2.2.2.1::X):=by
 unfold p7 at h ⊢
 simp only at h ⊢
 obtain ⟨b3,e3⟩:=by_some h
 obtain ⟨b2,e2⟩:=by_some e3
 obtain ⟨b1,e1⟩:=by_some e2
 rw[e3] at h ⊢
 rw[e2] at e3 ⊢
 rw[e1] at e2 ⊢
 have q1:=in_inv e1
 have q2:=by_inv e2
 have q3:=by_inv e3
 have q4:=by_inv h
 rw[←q4,←q3,←q2,←q1]
def okS (b:List UInt8) (s:Seal_api):Prop:=RSl s∧encS s=b
def zeroS:Seal_api:=⟨0,0,0,0,[]⟩
def Rd (b:List UInt8) (r:Seal_api×Int):Prop:=(∃s,okS b s∧r=(s,0))∨((¬∃s,okS b s)∧r=(zeroS,2))
theorem ofNat_toNat (x:UInt8):UInt8.ofNat x.toNat=x:=by
 apply UInt8.toNat_inj.1
 rw[UInt8.toNat_ofNat']
 have:=x.toNat_lt
 omega
theorem p7_enc {s:Seal_api} (h:RSl s) (X:List UInt8):p7 (encS s++X)=(s.Number,UInt8.ofNat s.Index.toNat,UInt8.ofNat s.Data.toNat,UInt8.ofNat s.Parity.toNat,some (flatL s.Labels++X)):=by
 obtain ⟨⟨a1,a2⟩,_⟩:=h
 have e:encS s++X=w4 s.Number.toNat++(UInt8.ofNat s.Index.toNat::UInt8.ofNat s.Data.toNat::UInt8.ofNat s.Parity.toNat::(flatL s.Labels++X)):=by simp[encS]
 rw[e,p7_app (by omega),Int.toNat_of_nonneg (by omega)]
theorem small {n:Int} (h0:0≤n) (h1:n<256):((UInt8.ofNat n.toNat).toNat:Int)=n:=by
 rw[UInt8.toNat_ofNat']
 omega
theorem p7_seal {b:List UInt8} {s:Seal_api} (h:okS b s):p7 b=(s.Number,UInt8.ofNat s.Index.toNat,UInt8.ofNat s.Data.toNat,UInt8.ofNat s.Parity.toNat,some (flatL s.Labels))∧labs (flatL s.Labels)=some s.Labels∧
 s=⟨(p7 b).1,((p7 b).2.1.toNat:Int),((p7 b).2.2.1.toNat:Int),((p7 b).2.2.2.1.toNat:Int),s.Labels⟩:=by
 obtain ⟨hR,rfl⟩:=h
 have h7:=p7_enc hR []
 rw[List.append_nil,List.append_nil] at h7
 obtain ⟨⟨a1,a2⟩,⟨a3,a4⟩,⟨a5,a6⟩,⟨b1,b2⟩,b3,hg⟩:=hR
 refine ⟨h7,labs_flat fun x hx=>by have:=hg.1 x hx;omega,?_⟩
 rw[h7]
 obtain ⟨n,i,d,p,L⟩:=s
 simp only at a3 a5 b1 b2 a4 a6 ⊢
 rw[small b1 (by omega),small (by omega) (by omega),small (by omega) (by omega)]
theorem okS_inj {b:List UInt8} {s s':Seal_api} (h:okS b s) (h':okS b s'):s=s':=by
 obtain ⟨h1,h2,h3⟩:=p7_seal h
 obtain ⟨k1,k2,k3⟩:=p7_seal h'
 rw[h1] at k1
 have hf:flatL s.Labels=flatL s'.Labels:=by simpa using (Prod.mk.inj (Prod.mk.inj (Prod.mk.inj (Prod.mk.inj k1).2).2).2).2
 rw[hf,k2] at h2
 injection h2 with h2
 rw[h3,k3,h2]
theorem Rd_uniq {b:List UInt8} {r r':Seal_api×Int} (h:Rd b r) (h':Rd b r'):r=r':=by
 rcases h with ⟨s,h1,rfl⟩|⟨h1,rfl⟩<;>rcases h' with ⟨s',h2,rfl⟩|⟨h2,rfl⟩
 ·rw[okS_inj h1 h2]
 ·exact absurd ⟨s,h1⟩ h2
 ·exact absurd ⟨s',h2⟩ h1
 ·rfl
theorem x_labels (n i d p:Int) (st:Option (List UInt8)) (hb:∀t,st=some t→t.length≤100000):∃(q:Option (List UInt8)) (L:List Int),run X.record_ReadSeal_s37 ((conC st).1,(conC st).2,n,i,d,p,([]:List Int))=some ((conC q).1,(conC q).2,n,i,d,p,L)∧
 ((∃t,st=some t∧labs t=some L∧q=some [])∨((st=none∨∃t,st=some t∧labs t=none)∧q=none)):=by
 obtain ⟨o,h1,q,L,rfl,h2⟩:=run_inv (f:=X.record_ReadSeal_s37) (s:=((conC st).1,(conC st).2,n,i,d,p,([]:List Int)))
  (fun x=>∃(st':Option (List UInt8)) (l:List Int),x=((conC st').1,(conC st').2,n,i,d,p,l)∧l.length≤100000∧(∀t',st'=some t'→l.length+t'.length≤100000)∧
    ((∃t t',st=some t∧st'=some t'∧labs t=(labs t').map (l++·))∨((st=none∨∃t,st=some t∧labs t=none)∧st'=none)))
  (fun o=>∃(q:Option (List UInt8)) (L:List Int),o=((conC q).1,(conC q).2,n,i,d,p,L)∧((∃t,st=some t∧labs t=some L∧q=some [])∨((st=none∨∃t,st=some t∧labs t=none)∧q=none)))
  (fun x=>x.1.length) ⟨st,[],rfl,by simp,fun t' h=>by have:=hb t' h;simpa using this,by
    cases st with
    |none=>exact .inr ⟨.inl rfl,rfl⟩
    |some t=>exact .inl ⟨t,t,rfl,rfl,by simp⟩⟩ (by
    cases st with
    |none=>simp[conC]
    |some t=>have:=hb t rfl;simp only[conC];omega) (by
    rintro _ ⟨st',l,rfl,hl,hl2,hI⟩
    have stop:∀q,conC q=([],(conC q).2)→((∃t,st=some t∧labs t=some l∧q=some [])∨((st=none∨∃t,st=some t∧labs t=none)∧q=none))→
     ∃r,X.record_ReadSeal_s37 ((conC q).1,(conC q).2,n,i,d,p,l)=some (.inr r)∧∃(q:Option (List UInt8)) (L:List Int),r=((conC q).1,(conC q).2,n,i,d,p,L)∧((∃t,st=some t∧labs t=some L∧q=some [])∨((st=none∨∃t,st=some t∧labs t=none)∧q=none)):=by
     intro q hq hR
     refine ⟨_,?_,q,l,rfl,hR⟩
     unfold X.record_ReadSeal_s37 X.code_Reader_Left
     simp only
     rw[bd_s,if_neg (by rw[hq];simp)]
    rcases hI with ⟨t,t',e1,rfl,e3⟩|⟨e1,rfl⟩
    ·cases t' with
     |nil=>
      right
      exact stop (some []) rfl (.inl ⟨t,e1,by rw[e3];simp[labs],rfl⟩)
     |cons c t2=>
      left
      unfold X.record_ReadSeal_s37 X.code_Reader_Left
      simp only
      rw[bd_s,if_pos (by simp[conC]),c_int,bd_s,need_is (by simp;omega),bd_s]
      have hll:=hl2 _ rfl
      refine ⟨_,rfl,⟨(inA (some (c::t2))).2,l++[(inA (some (c::t2))).1],rfl,(by simp at hll ⊢<;>omega),fun t'' h=>?_,?_⟩,?_⟩
      ·have:=in_inv h
       have h4:=congrArg List.length this
       simp at h4 hll ⊢
       omega
      ·by_cases h4:4≤(c::t2).length
       ·left
        match t2,h4 with
        |x::y::z::r,_=>
         refine ⟨t,r,e1,?_,?_⟩
         ·unfold inA;rw[tkA_some,if_pos (by simp)];rfl
         ·have ev:(inA (some (c::x::y::z::r))).1=((beN [c,x,y,z]:Nat):Int):=by unfold inA;rw[tkA_some,if_pos (by simp)];rfl
          rw[e3,labs,ev]
          cases labs r<;>simp
       ·right
        refine ⟨.inr ⟨t,e1,?_⟩,?_⟩
        ·rw[e3]
         match t2,h4 with
         |[],_=>rfl
         |[x],_=>rfl
         |[x,y],_=>rfl
         |x::y::z::r,h4=>simp at h4
        ·unfold inA;rw[tkA_some,if_neg h4]
      ·simp only
       by_cases h4:4≤(c::t2).length
       ·have e:(inA (some (c::t2))).2=some ((c::t2).drop 4):=by unfold inA;rw[tkA_some,if_pos h4]
        rw[e]
        simp only[conC,List.length_drop]
        omega
       ·have e:(inA (some (c::t2))).2=none:=by unfold inA;rw[tkA_some,if_neg h4]
        rw[e]
        simp[conC]
    ·right
     exact stop none rfl (.inr ⟨e1,rfl⟩))
 exact ⟨q,L,h1,h2⟩
theorem x_sread (b:List UInt8) (hb:b.length≤100000):∃r,X.record_ReadSeal b=some r∧Rd b r:=by
 unfold X.record_ReadSeal
 rw[c_new b hb,bd_s,c_int,bd_s]
 simp only[c_byte,bd_s]
 have hp:p7 b=((inA (some b)).1,(byA (inA (some b)).2).1,(byA (byA (inA (some b)).2).2).1,(byA (byA (byA (inA (some b)).2).2).2).1,(byA (byA (byA (inA (some b)).2).2).2).2):=rfl
 obtain ⟨q,L,h1,h2⟩:=x_labels (inA (some b)).1 ((byA (inA (some b)).2).1.toNat:Int) ((byA (byA (inA (some b)).2).2).1.toNat:Int) ((byA (byA (byA (inA (some b)).2).2).2).1.toNat:Int) (byA (byA (byA (inA (some b)).2).2).2).2 (fun t ht=>by
  have h5:(p7 b).2.2.2.2=some t:=by rw[hp];exact ht
  have h6:=congrArg List.length (p7_inv h5)
  simp at h6
  omega)
 rw[h1,bd_s]
 simp only
 unfold X.record_ReadSeal_e37 X.code_Reader_Bad
 rw[bd_s,x_sright]
 rcases h2 with ⟨t,e1,e2,rfl⟩|⟨e1,rfl⟩
 ·have e5:(p7 b).2.2.2.2=some t:=by rw[hp];exact e1
  have hb7:=p7_inv e5
  have hq:(⟨(inA (some b)).1,((byA (inA (some b)).2).1.toNat:Int),((byA (byA (inA (some b)).2).2).1.toNat:Int),((byA (byA (byA (inA (some b)).2).2).2).1.toNat:Int),L⟩:Seal_api)=⟨(p7 b).1,((p7 b).2.1.toNat:Int),((p7 b).2.2.1.toNat:Int),((p7 b).2.2.2.1.toNat:Int),L⟩:=by rw[hp]
  rw[hq]
  have henc:encS ⟨(p7 b).1,((p7 b).2.1.toNat:Int),((p7 b).2.2.1.toNat:Int),((p7 b).2.2.2.1.toNat:Int),L⟩=b:=by
   unfold encS
   simp only[Int.toNat_natCast,ofNat_toNat]
   rw[flat_labs e2]
   exact hb7.symm
  by_cases hR:RSl ⟨(p7 b).1,((p7 b).2.1.toNat:Int),((p7 b).2.2.1.toNat:Int),((p7 b).2.2.2.1.toNat:Int),L⟩
  ·rw[decide_eq_true hR]
   exact ⟨_,rfl,.inl ⟨_,⟨hR,henc⟩,rfl⟩⟩
  ·rw[decide_eq_false hR]
   refine ⟨_,rfl,.inr ⟨?_,rfl⟩⟩
   rintro ⟨s,hs⟩
   obtain ⟨k1,k2,k3⟩:=p7_seal hs
   have:some (flatL s.Labels)=some t:=by rw[←e5,k1]
   injection this with this
   rw[this,e2] at k2
   injection k2 with k2
   rw[k2,←k3] at hR
   exact hR hs.1
 ·refine ⟨(zeroS,2),rfl,.inr ⟨?_,rfl⟩⟩
  rintro ⟨s,hs⟩
  obtain ⟨k1,k2,_⟩:=p7_seal hs
  have e5:(byA (byA (byA (inA (some b)).2).2).2).2=some (flatL s.Labels):=by
   have:(p7 b).2.2.2.2=some (flatL s.Labels):=by rw[k1]
   rw[hp] at this;exact this
  rcases e1 with e1|⟨t,e1,e2⟩
  ·rw[e1] at e5;cases e5
  ·rw[e1] at e5
   injection e5 with e5
   rw[e5,k2] at e2
   cases e2
end Go.AX
namespace Go.AX
open Go.AM
set_option linter.unusedSimpArgs false
theorem y_sright (s:Seal_api):X.cartridgeref10_RightSeal s=some (decide (RSl s)):=by
 unfold X.cartridgeref10_RightSeal
 by_cases h1:(1≤s.Number∧s.Number≤1073741824)∧(1≤s.Data∧s.Data≤14)∧(1≤s.Parity∧s.Parity≤14-s.Data)∧(0≤s.Index∧s.Index≤s.Data+s.Parity-1)∧(s.Labels.length:Int)=s.Data+s.Parity
 ·obtain ⟨⟨a1,a2⟩,⟨a3,a4⟩,⟨a5,a6⟩,⟨b1,b2⟩,b3⟩:=h1
  have w2:wr (s.Data+s.Parity)=s.Data+s.Parity:=wr_eq (by omega) (by omega)
  rw[w2,if_neg (by simp;omega)]
  have hlen:s.Labels.length≤14:=by omega
  obtain ⟨o,h1,h2⟩:=run_se (f:=X.cartridgeref10_RightSeal_s8 s) (a:=0) (n:=s.Labels.length) (fun o=>(o= .inl ()∧goodL s.Labels)∨(o= .inr false∧¬goodL s.Labels)) (fun i=>goodL (s.Labels.take i)) (Nat.zero_le _) (by omega) (by simp[goodL])
   (fun i _ hi hI=>by
     unfold X.cartridgeref10_RightSeal_s8
     simp only
     rw[if_pos (by simpa using hi),getI_nat hi,bd_s]
     by_cases hr:1≤s.Labels[i]∧s.Labels[i]≤2147483647
     ·have hd:decide (s.Labels[i]<(1:Int))=false:=by simp;omega
      rw[hd,Bool.not_false,optG_true,bd_s,if_neg (by simp;omega)]
      obtain ⟨o2,g1,g2⟩:=run_se (f:=X.cartridgeref10_RightSeal_s20 (i:Int) s) (a:=0) (n:=i) (fun o=>(o= .inl ()∧s.Labels[i]∉s.Labels.take i)∨(o= .inr false∧s.Labels[i]∈s.Labels.take i)) (fun k=>s.Labels[i]∉s.Labels.take k) (Nat.zero_le _) (by omega) (by simp)
       (fun k _ hk hK=>by
         unfold X.cartridgeref10_RightSeal_s20
         simp only
         rw[if_pos (by simpa using hk),getI_nat (by omega),bd_s,getI_nat hi,bd_s]
         by_cases e:s.Labels[k]'(by omega)=s.Labels[i]
         ·right
          rw[if_pos (by simp[e])]
          refine ⟨_,rfl,.inr ⟨rfl,?_⟩⟩
          rw[←e,List.mem_take_iff_getElem]
          exact ⟨k,by omega,rfl⟩
         ·left
          rw[if_neg (by simp[e]),wr_succ (by omega)]
          refine ⟨rfl,?_⟩
          rw[List.take_succ_eq_append_getElem (by omega),List.mem_append]
          rintro (h|h)
          ·exact hK h
          ·simp at h;exact e h.symm)
       (fun hK=>by
         unfold X.cartridgeref10_RightSeal_s20
         simp only
         rw[if_neg (by simp)]
         exact ⟨_,rfl,.inl ⟨rfl,hK⟩⟩)
      have g1':run (X.cartridgeref10_RightSeal_s20 (i:Int) s) (0:Int)=some o2:=g1
      rw[g1',bd_s]
      rcases g2 with ⟨rfl,hm⟩|⟨rfl,hm⟩
      ·left
       simp only
       unfold X.cartridgeref10_RightSeal_e20
       rw[wr_succ (by omega)]
       exact ⟨rfl,good_succ hi hI hr hm⟩
      ·right
       exact ⟨_,rfl,.inr ⟨rfl,bad_twice hi hm⟩⟩
     ·right
      by_cases hlt:s.Labels[i]<1
      ·have hd:decide (s.Labels[i]<(1:Int))=true:=by simpa using hlt
       rw[hd,Bool.not_true,optG_false,bd_s,if_pos (by simp)]
       exact ⟨_,rfl,.inr ⟨rfl,bad_elem hi hr⟩⟩
      ·have hd:decide (s.Labels[i]<(1:Int))=false:=by simpa using hlt
       rw[hd,Bool.not_false,optG_true,bd_s,if_pos (by simp;omega)]
       exact ⟨_,rfl,.inr ⟨rfl,bad_elem hi hr⟩⟩)
   (fun hI=>by
     unfold X.cartridgeref10_RightSeal_s8
     simp only
     rw[if_neg (by simp)]
     exact ⟨_,rfl,.inl ⟨rfl,by simpa using hI⟩⟩)
  have h1':run (X.cartridgeref10_RightSeal_s8 s) (0:Int)=some o:=h1
  rw[h1',bd_s]
  rcases h2 with ⟨rfl,h3⟩|⟨rfl,h3⟩
  ·rw[decide_eq_true (show RSl s from ⟨⟨a1,a2⟩,⟨a3,a4⟩,⟨a5,a6⟩,⟨b1,b2⟩,b3,h3⟩)];rfl
  ·rw[decide_eq_false (show ¬RSl s from fun hR=>h3 hR.2.2.2.2.2)]
 ·rw[decide_eq_false (show ¬RSl s from fun hR=>h1 ⟨hR.1,hR.2.1,hR.2.2.1,hR.2.2.2.1,hR.2.2.2.2.1⟩),if_pos ?_]
  by_cases hD:(1≤s.Data∧s.Data≤14)∧(1≤s.Parity∧s.Parity≤14)
  ·rw[wr_eq (by omega) (by omega)]
   simp
   omega
  ·simp
   omega
end Go.AX
namespace Go.AX
open Go.AM
set_option linter.unusedSimpArgs false
def ab (b:List UInt8) (bad:Bool):Option (List UInt8):=if bad=true then none else some b
theorem r_take (n:Nat) (b:List UInt8) (bad:Bool):∃q:List UInt8×Bool,X.cartridgeref1_Reader_take (n:Int) b bad=some ((tkA n (ab b bad)).1,q)∧ab q.1 q.2=(tkA n (ab b bad)).2:=by
 unfold X.cartridgeref1_Reader_take
 cases bad
 ·show ∃q:List UInt8×Bool,_=some ((tkA n (some b)).1,q)∧ab q.1 q.2=(tkA n (some b)).2
  by_cases h:n≤b.length
  ·rw[if_neg (by simp;omega),need_is (by omega),bd_s,need_is (by omega),bd_s,tkA_some,if_pos h]
   have h1:slc b (0:Int) (n:Int)=b.take n:=by simp[slc]
   have h2:slc b (n:Int) (b.length:Int)=b.drop n:=by
    unfold slc
    rw[Int.toNat_natCast,List.take_of_length_le (by simp)]
   rw[h1,h2]
   exact ⟨_,rfl,rfl⟩
  ·rw[if_pos (by simp;omega),tkA_some,if_neg h]
   exact ⟨_,rfl,rfl⟩
 ·exact ⟨_,rfl,rfl⟩
theorem r_byte (b:List UInt8) (bad:Bool):∃q:List UInt8×Bool,X.cartridgeref1_Reader_Byte b bad=some ((byA (ab b bad)).1,q)∧ab q.1 q.2=(byA (ab b bad)).2:=by
 unfold X.cartridgeref1_Reader_Byte
 obtain ⟨q,h1,h2⟩:=r_take 1 b bad
 rw[show (1:Int)=((1:Nat):Int) from rfl,h1,bd_s]
 refine ⟨q,?_,h2⟩
 unfold byA
 cases h:(tkA 1 (ab b bad)).1 with
 |nil=>rfl
 |cons c l=>
  rw[if_neg (by simp;omega)]
  rfl
theorem or64_nat {a c:Nat} (ha:a<16777216) (hc:c<256):or64 (shl64 (a:Int) (((8:UInt64).toNat:Nat):Int)) (c:Int)=((a*256+c:Nat):Int):=by
 have e:shl64 (a:Int) (((8:UInt64).toNat:Nat):Int)=((a*256:Nat):Int):=by
  unfold shl64
  have:min (((8:UInt64).toNat:Nat):Int).toNat 64=8:=by decide
  rw[this]
  have h:=wr_eq (x:=(a:Int)*2^8) (by omega) (by omega)
  unfold wr at h
  rw[h]
  omega
 rw[e]
 unfold or64 bitsI
 have hb:∀n:Nat,n<18446744073709551616→(BitVec.ofInt IntKind.i64.bits (n:Int)).toNat=n:=by
  intro n hn
  show (BitVec.ofInt 64 (n:Int)).toNat=n
  simp
  omega
 simp only
 rw[BitVec.toNat_or,hb _ (by omega),hb _ (by omega),or_add hc]
 exact wr_eq (by omega) (by omega)
theorem r_int (b:List UInt8) (bad:Bool):∃q:List UInt8×Bool,X.cartridgeref1_Reader_Int b bad=some ((inA (ab b bad)).1,q)∧ab q.1 q.2=(inA (ab b bad)).2:=by
 unfold X.cartridgeref1_Reader_Int
 obtain ⟨q,h1,h2⟩:=r_take 4 b bad
 rw[show (4:Int)=((4:Nat):Int) from rfl,h1,bd_s]
 have hl:(tkA 4 (ab b bad)).1.length≤4:=by rcases tk_len 4 (ab b bad) with h|h<;>omega
 refine ⟨q,?_,h2⟩
 unfold inA
 generalize hx:(tkA 4 (ab b bad)).1=x at hl
 have key:run (X.cartridgeref1_Reader_Int_s11 (x,q)) ((0:Int),(0:Int))=some ((beN x:Nat):Int):=by
  refine run_G0 (n:=x.length) (fun i=>((beN (x.take i):Nat):Int)) (by omega) rfl ?_ ?_
  ·intro i hi
   unfold X.cartridgeref1_Reader_Int_s11
   simp only
   rw[if_pos (by simpa using hi),getI_nat hi,bd_s,wr_succ (by omega)]
   have hp:=be_pow i x (by omega)
   have hq:256^i≤256^3:=Nat.pow_le_pow_right (by omega) (by omega)
   rw[or64_nat (by omega) (x[i]).toNat_lt,be_succ hi]
  ·unfold X.cartridgeref1_Reader_Int_s11
   simp only
   rw[if_neg (by simp),List.take_length]
 rw[key,bd_s]
 rfl
end Go.AX
namespace Go.AX
open Go.AM
set_option linter.unusedSimpArgs false
theorem y_wint {n:Int} {b:List UInt8} (h0:0≤n) (h1:n<4294967296) (hb:b.length≤100000):X.cartridgeref1_Writer_Int n b=some (b++w4 n.toNat):=by
 unfold X.cartridgeref1_Writer_Int
 rw[need_is (by simp only[List.length_cons,List.length_nil];omega),bd_s]
 have e:(u64 n).toNat=n.toNat:=by
  unfold u64
  rw[UInt64.toNat_ofNat']
  omega
 have s:∀k,(shru64 (u64 n) k).toNat=n.toNat/2^k:=fun k=>by
  unfold shru64
  rw[UInt64.toNat_ofNat',e]
  exact Nat.mod_eq_of_lt (Nat.lt_of_le_of_lt (Nat.div_le_self _ _) (by omega))
 have m:∀x:UInt64,u8 (((x&&&255).toNat:Nat):Int)=UInt8.ofNat x.toNat:=fun x=>by
  rw[u8_m,UInt64.toNat_and]
  apply UInt8.toNat_inj.1
  rw[UInt8.toNat_ofNat',UInt8.toNat_ofNat']
  have:x.toNat&&&(255:UInt64).toNat=x.toNat%256:=Nat.and_two_pow_sub_one_eq_mod x.toNat 8
  rw[this]
  omega
 rw[m,m,m,m,s,s,s,e]
 rfl
theorem y_wbyte {c:UInt8} {b:List UInt8} (hb:b.length≤100000):X.cartridgeref1_Writer_Byte c b=some (b++[c]):=by
 unfold X.cartridgeref1_Writer_Byte
 rw[need_is (by simp only[List.length_cons,List.length_nil];omega),bd_s]
end Go.AX
namespace Go.AX
open Go.AM
set_option linter.unusedSimpArgs false
theorem y_sbytes (s:Seal_api):X.cartridgeref10_SealBytes s=some (if RSl s then encS s else []):=by
 unfold X.cartridgeref10_SealBytes
 rw[y_sright,bd_s]
 by_cases hR:RSl s
 ·rw[decide_eq_true hR,if_neg (by simp),if_pos hR]
  obtain ⟨⟨a1,a2⟩,⟨a3,a4⟩,⟨a5,a6⟩,⟨b1,b2⟩,b3,hg⟩:=hR
  have hlen:s.Labels.length≤14:=by omega
  rw[y_wint (by omega) (by omega) (by simp),bd_s,List.nil_append,u8_i b1,u8_i (by omega),u8_i (by omega),y_wbyte (by simp),bd_s,y_wbyte (by simp),bd_s,y_wbyte (by simp),bd_s]
  have key2:run (X.cartridgeref10_SealBytes_s28 s) (w4 s.Number.toNat++[UInt8.ofNat s.Index.toNat]++[UInt8.ofNat s.Data.toNat]++[UInt8.ofNat s.Parity.toNat],(0:Int))=some (encS s):=by
   refine run_G0 (n:=s.Labels.length) (fun i=>w4 s.Number.toNat++[UInt8.ofNat s.Index.toNat]++[UInt8.ofNat s.Data.toNat]++[UInt8.ofNat s.Parity.toNat]++flatL (s.Labels.take i)) (by omega) (by simp[flatL]) ?_ ?_
   ·intro i hi
    unfold X.cartridgeref10_SealBytes_s28
    simp only
    obtain ⟨q1,q2⟩:=hg.1 _ (List.getElem_mem hi)
    rw[if_pos (by simpa using hi),getI_nat hi,bd_s,y_wint (by omega) (by omega) (by simp[flatL_len];omega),bd_s,wr_succ (by omega),List.take_succ_eq_append_getElem hi]
    simp only[flatL,List.flatMap_append,List.flatMap_cons,List.flatMap_nil,List.append_nil,List.append_assoc]
   ·unfold X.cartridgeref10_SealBytes_s28
    simp only
    rw[if_neg (by simp),List.take_length]
    simp[encS]
  rw[key2,bd_s]
  rfl
 ·rw[decide_eq_false hR,if_pos (by simp),if_neg hR]
theorem y_labels (n i d p:Int) (b:List UInt8) (bad:Bool):∃L:List Int,run X.cartridgeref10_ReadSeal_s20 (b,bad,n,i,d,p,([]:List Int))=some (n,i,d,p,L)∧
 ∀M:List Int,ab b bad=some (flatL M)→M.length≤14→(∀x∈M,0≤x∧x<4294967296)→L=M:=by
 obtain ⟨o,h1,L,rfl,h2⟩:=run_inv (f:=X.cartridgeref10_ReadSeal_s20) (s:=(b,bad,n,i,d,p,([]:List Int)))
  (fun x=>∃(q:List UInt8×Bool) (l:List Int),x=(q.1,q.2,n,i,d,p,l)∧l.length≤14∧
    ∀M:List Int,ab b bad=some (flatL M)→M.length≤14→(∀x∈M,0≤x∧x<4294967296)→∃M2,l++M2=M∧ab q.1 q.2=some (flatL M2))
  (fun o=>∃L:List Int,o=(n,i,d,p,L)∧∀M:List Int,ab b bad=some (flatL M)→M.length≤14→(∀x∈M,0≤x∧x<4294967296)→L=M)
  (fun x=>14-x.2.2.2.2.2.2.length) ⟨(b,bad),[],rfl,by simp,fun M h _ _=>⟨M,rfl,h⟩⟩ (by simp) (by
    rintro _ ⟨q,l,rfl,hl,hI⟩
    unfold X.cartridgeref10_ReadSeal_s20 X.cartridgeref1_Reader_Left
    simp only
    have hleft:(if q.2=true then some (0:Int) else some (q.1.length:Int))=some (match ab q.1 q.2 with|none=>(0:Int)|some t=>(t.length:Int)):=by
     unfold ab
     cases q.2<;>rfl
    rw[hleft,bd_s]
    by_cases hc:(decide ((match ab q.1 q.2 with|none=>(0:Int)|some t=>(t.length:Int))≥(4:Int))&&decide ((l.length:Int)<(14:Int)))=true
    ·left
     rw[if_pos hc]
     obtain ⟨q',g1,g2⟩:=r_int q.1 q.2
     simp at hc
     rw[g1,bd_s,need_is (by simp;omega),bd_s]
     refine ⟨_,rfl,⟨q',l++[(inA (ab q.1 q.2)).1],rfl,by simp;omega,fun M h4 h5 h6=>?_⟩,by simp;omega⟩
     obtain ⟨M2,k1,k2⟩:=hI M h4 h5 h6
     cases M2 with
     |nil=>rw[k2] at hc;simp[flatL] at hc
     |cons x M3=>
      have hx:=h6 x (by rw[←k1];simp)
      have e:flatL (x::M3)=w4 x.toNat++flatL M3:=rfl
      have e3:inA (ab q.1 q.2)=(x,some (flatL M3)):=by rw[k2,e,in_app (by omega),Int.toNat_of_nonneg hx.1]
      refine ⟨M3,?_,?_⟩
      ·rw[e3,←k1];simp
      ·rw[g2,e3]
    ·right
     rw[if_neg hc]
     refine ⟨_,rfl,l,rfl,fun M h4 h5 h6=>?_⟩
     obtain ⟨M2,k1,k2⟩:=hI M h4 h5 h6
     rw[k2] at hc
     simp at hc
     cases M2 with
     |nil=>rw[←k1];simp
     |cons x M3=>
      exfalso
      have h7:=congrArg List.length k1
      simp at h7
      have h8:=flatL_len (x::M3)
      simp at h8
      omega)
 exact ⟨L,h1,h2⟩
theorem y_sread (b:List UInt8):∃r,X.cartridgeref10_ReadSeal b=some r∧Rd b r:=by
 unfold X.cartridgeref10_ReadSeal X.cartridgeref1_NewReader
 rw[bd_s]
 simp only
 obtain ⟨q0,h0,e0⟩:=r_int b false
 rw[h0,bd_s]
 obtain ⟨q1,h1,e1⟩:=r_byte q0.1 q0.2
 simp only
 rw[h1,bd_s]
 obtain ⟨q2,h2,e2⟩:=r_byte q1.1 q1.2
 simp only
 rw[h2,bd_s]
 obtain ⟨q3,h3,e3⟩:=r_byte q2.1 q2.2
 simp only
 rw[h3,bd_s]
 simp only
 have hab:ab b false=some b:=rfl
 rw[hab] at e0
 rw[e0] at e1
 rw[e1] at e2
 rw[e2] at e3
 rw[e2,e1,e0,hab]
 obtain ⟨L,g1,g2⟩:=y_labels (inA (some b)).1 ((byA (inA (some b)).2).1.toNat:Int) ((byA (byA (inA (some b)).2).2).1.toNat:Int) ((byA (byA (byA (inA (some b)).2).2).2).1.toNat:Int) q3.1 q3.2
 rw[g1,bd_s]
 simp only
 unfold X.cartridgeref10_ReadSeal_e20
 rw[y_sbytes,bd_s]
 have hp:p7 b=((inA (some b)).1,(byA (inA (some b)).2).1,(byA (byA (inA (some b)).2).2).1,(byA (byA (byA (inA (some b)).2).2).2).1,(byA (byA (byA (inA (some b)).2).2).2).2):=rfl
 have hq:(⟨(inA (some b)).1,((byA (inA (some b)).2).1.toNat:Int),((byA (byA (inA (some b)).2).2).1.toNat:Int),((byA (byA (byA (inA (some b)).2).2).2).1.toNat:Int),L⟩:Seal_api)=⟨(p7 b).1,((p7 b).2.1.toNat:Int),((p7 b).2.2.1.toNat:Int),((p7 b).2.2.2.1.toNat:Int),L⟩:=by rw[hp]
 rw[hq]
 have back:∀s,okS b s→s=⟨(p7 b).1,((p7 b).2.1.toNat:Int),((p7 b).2.2.1.toNat:Int),((p7 b).2.2.2.1.toNat:Int),L⟩:=by
  intro s hs
  obtain ⟨k1,k2,k3⟩:=p7_seal hs
  obtain ⟨hR,_⟩:=hs
  obtain ⟨⟨a1,a2⟩,⟨a3,a4⟩,⟨a5,a6⟩,⟨b1,b2⟩,b3,hg⟩:=hR
  have hL:L=s.Labels:=g2 s.Labels (by
   have:(p7 b).2.2.2.2=some (flatL s.Labels):=by rw[k1]
   rw[hp] at this
   rw[e3];exact this) (by omega) (fun x hx=>by have:=hg.1 x hx;omega)
  rw[hL]
  exact k3
 generalize (⟨(p7 b).1,((p7 b).2.1.toNat:Int),((p7 b).2.2.1.toNat:Int),((p7 b).2.2.2.1.toNat:Int),L⟩:Seal_api)=z at back
 by_cases hR:RSl z
 ·rw[if_pos hR]
  by_cases hE:encS z=b
  ·have hlen:=encS_len z
   rw[if_neg (by simp[hE];rw[←hE];intro h0;rw[h0] at hlen;simp at hlen;omega)]
   exact ⟨_,rfl,.inl ⟨z,⟨hR,hE⟩,rfl⟩⟩
  ·rw[if_pos (by simp[hE])]
   refine ⟨_,rfl,.inr ⟨?_,rfl⟩⟩
   rintro ⟨s,hs⟩
   have:=back s hs
   subst this
   exact hE hs.2
 ·rw[if_neg hR]
  refine ⟨(zeroS,2),rfl,.inr ⟨?_,rfl⟩⟩
  rintro ⟨s,hs⟩
  have:=back s hs
  subst this
  exact hR hs.1
theorem same_seal (s:Seal_api) (h:s.Labels.length≤100000):X.cartridgeref10_SameSeal s s=some true:=by
 unfold X.cartridgeref10_SameSeal
 rw[if_neg (by simp)]
 have:run (X.cartridgeref10_SameSeal_s9 s s) (0:Int)=some (.inl ()):=
  run_seE (a:=0) (n:=s.Labels.length) (fun _=>True) (Nat.zero_le _) (by omega) trivial (fun i _ hi _=> .inl ⟨by
   unfold X.cartridgeref10_SameSeal_s9
   simp only
   rw[if_pos (by simpa using hi),getI_nat hi,bd_s,bd_s,if_neg (by simp),wr_succ (by omega)],trivial⟩) (fun _=>by
   unfold X.cartridgeref10_SameSeal_s9
   simp only
   rw[if_neg (by simp)])
 rw[this,bd_s];rfl
end Go.AX
namespace Go.AX
open Go.AM
set_option linter.unusedSimpArgs false
set_option linter.unusedVariables false
def bitC (x:UInt32):UInt32:=if (x&&&(1:UInt32))==(1:UInt32) then (shr32 x 1)^^^(2197175160:UInt32) else shr32 x 1
def bitsC:Nat→UInt32→UInt32
 |0,x=>x
 |n+1,x=>bitC (bitsC n x)
def bytC (x:UInt32) (b:UInt8):UInt32:=bitsC 8 (x^^^u32 (b.toNat:Int))
def crc (b:List UInt8):UInt32:=(b.foldl bytC (4294967295:UInt32))^^^(4294967295:UInt32)
theorem fold_succ {b:List UInt8} {i:Nat} (h:i<b.length) (x:UInt32):(b.take (i+1)).foldl bytC x=bytC ((b.take i).foldl bytC x) b[i]:=by
 rw[List.take_add_one,List.getElem?_eq_getElem h,List.foldl_append];rfl
theorem xor0:((0:UInt32)^^^(4294967295:UInt32))=(4294967295:UInt32):=by decide
theorem c_bits (x:UInt32):run X.castagnoli_More_s19 (x,(0:Int))=some (bitsC 8 x):=by
 refine run_G0 (n:=8) (fun i=>bitsC i x) (by omega) rfl (fun i hi=>?_) ?_
 ·show X.castagnoli_More_s19 (bitsC i x,(i:Int))=some (.inl (bitC (bitsC i x),_))
  unfold X.castagnoli_More_s19 bitC
  simp only[]
  rw[if_pos (by simp;omega),wr_succ (by omega)]
  split<;>rfl
 ·rfl
theorem c_crc {b:List UInt8} (hb:b.length≤1000000):X.castagnoli_Sum b=some (crc b):=by
 have hr:run (X.castagnoli_More_s7 b) ((4294967295:UInt32),(0:Int))=some (b.foldl bytC (4294967295:UInt32)):=by
  refine run_G0 (n:=b.length) (fun i=>(b.take i).foldl bytC (4294967295:UInt32)) (by omega) rfl (fun i hi=>?_) ?_
  ·show X.castagnoli_More_s7 b ((b.take i).foldl bytC (4294967295:UInt32),(i:Int))=some (.inl ((b.take (i+1)).foldl bytC (4294967295:UInt32),_))
   unfold X.castagnoli_More_s7
   simp only[]
   rw[if_pos (by simp;omega),getI_nat hi,bd_s,c_bits,bd_s]
   unfold X.castagnoli_More_e19
   rw[wr_succ (by omega),fold_succ hi]
   rfl
  ·unfold X.castagnoli_More_s7
   simp only[]
   rw[if_neg (by simp),List.take_length]
 unfold X.castagnoli_Sum X.castagnoli_More
 rw[xor0,hr]
 rfl
theorem y_bits (x:UInt32):run X.cartridgeref1_More_s18 (x,(0:Int))=some (bitsC 8 x):=by
 refine run_G0 (n:=8) (fun i=>bitsC i x) (by omega) rfl (fun i hi=>?_) ?_
 ·show X.cartridgeref1_More_s18 (bitsC i x,(i:Int))=some (.inl (bitC (bitsC i x),_))
  unfold X.cartridgeref1_More_s18 bitC X.cartridgeref1_More_j24
  simp only[]
  rw[if_pos (by simp;omega),wr_succ (by omega)]
  split<;>rfl
 ·rfl
theorem y_crc {b:List UInt8} (hb:b.length≤1000000):X.cartridgeref1_Crc b=some (crc b):=by
 have hr:run (X.cartridgeref1_More_s7 b) ((4294967295:UInt32),(0:Int))=some (b.foldl bytC (4294967295:UInt32)):=by
  refine run_G0 (n:=b.length) (fun i=>(b.take i).foldl bytC (4294967295:UInt32)) (by omega) rfl (fun i hi=>?_) ?_
  ·show X.cartridgeref1_More_s7 b ((b.take i).foldl bytC (4294967295:UInt32),(i:Int))=some (.inl ((b.take (i+1)).foldl bytC (4294967295:UInt32),_))
   unfold X.cartridgeref1_More_s7
   simp only[]
   rw[if_pos (by simp;omega),getI_nat hi,bd_s,y_bits,bd_s]
   unfold X.cartridgeref1_More_e18
   rw[wr_succ (by omega),fold_succ hi]
   rfl
  ·unfold X.cartridgeref1_More_s7
   simp only[]
   rw[if_neg (by simp),List.take_length]
 unfold X.cartridgeref1_Crc X.cartridgeref1_More
 rw[xor0,hr]
 rfl
def roomN (k:Int):Nat:=if k=6 then 79 else 64
def OKU (u:Unit_api):Prop:=(1≤u.Kind∧u.Kind≤6)∧(1≤u.Label∧u.Label≤2147483647)∧(0≤u.Number∧u.Number≤2147483647)
instance (u:Unit_api):Decidable (OKU u):=by unfold OKU;infer_instance
def bodyF (u:Unit_api):List UInt8:=(UInt8.ofNat u.Kind.toNat::(w4 u.Label.toNat++(w4 u.Number.toNat++(UInt8.ofNat (u.Load.length/256)::UInt8.ofNat u.Load.length::(u.Load++List.replicate (roomN u.Kind-u.Load.length) 0)))))
def frameL (u:Unit_api):List UInt8:=bodyF u++w4 (crc (bodyF u)).toNat
theorem room_le (k:Int):roomN k≤79:=by unfold roomN;split<;>omega
theorem body_len {u:Unit_api} (h:u.Load.length≤roomN u.Kind):(bodyF u).length=11+roomN u.Kind:=by
 unfold bodyF
 simp only[List.length_cons,List.length_append,w4_len,List.length_replicate]
 omega
def zeroU:Unit_api:=⟨0,0,0,[]⟩
def putF (u:Unit_api):List UInt8×Int:=if OKU u then if u.Load.length≤roomN u.Kind then (frameL u,0) else ([],4) else ([],1)
theorem shr8F {n:Nat} (h:n≤1000000):u8 (shr64 (n:Int) ((8:UInt64).toNat:Int))=UInt8.ofNat (n/256):=by
 have e:shr64 (n:Int) ((8:UInt64).toNat:Int)=((n/256:Nat):Int):=by
  unfold shr64
  have:min (((8:UInt64).toNat:Nat):Int).toNat 64=8:=by decide
  rw[this]
  have h1:(n:Int).fdiv (2^8)=((n/256:Nat):Int):=by rw[Int.fdiv_eq_ediv_of_nonneg _ (by decide)];omega
  first
   |exact h1
   |(rw[h1];exact wr_eq (by omega) (by omega))
 rw[e,u8_m]
theorem y_put (u:Unit_api) (hl:u.Load.length≤100000):X.cartridgeref1_PutFrame u=some (putF u):=by
 have hj:X.cartridgeref1_PutFrame u=X.cartridgeref1_PutFrame_j4 u (roomN u.Kind:Nat):=by
  unfold X.cartridgeref1_PutFrame roomN
  by_cases h:u.Kind=6
  ·rw[if_pos (by simp[h]),if_pos h];rfl
  ·rw[if_neg (by simp[h]),if_neg h];rfl
 rw[hj]
 unfold X.cartridgeref1_PutFrame_j4 putF
 have hr:=room_le u.Kind
 by_cases h:OKU u
 ·obtain ⟨⟨a1,a2⟩,⟨a3,a4⟩,a5,a6⟩:=h
  rw[if_pos (show OKU u from ⟨⟨a1,a2⟩,⟨a3,a4⟩,a5,a6⟩),if_neg (by simp;omega)]
  by_cases hm:u.Load.length≤roomN u.Kind
  ·rw[if_neg (by simp;omega),if_pos hm,y_wbyte (by simp),bd_s,y_wint (by omega) (by omega) (by simp),bd_s,y_wint (by omega) (by omega) (by simp[w4_len]),bd_s]
   rw[need_is (by simp[w4_len]),bd_s,need_is (by simp[w4_len];omega),bd_s]
   have hw:wr (((roomN u.Kind:Nat):Int)-(u.Load.length:Int))=((roomN u.Kind-u.Load.length:Nat):Int):=by
    rw[wr_eq (by omega) (by omega)];omega
   have ha:u8 (and64 (u.Load.length:Int) (255:Int))=UInt8.ofNat u.Load.length:=by
    unfold and64 bitsI
    have hb:∀n:Nat,n<18446744073709551616→(BitVec.ofInt IntKind.i64.bits (n:Int)).toNat=n:=by
     intro n hn
     show (BitVec.ofInt 64 (n:Int)).toNat=n
     simp
     omega
    simp only
    rw[BitVec.toNat_and,hb _ (by omega),show (255:Int)=((255:Nat):Int) from rfl,hb _ (by omega)]
    have:u.Load.length&&&255=u.Load.length%256:=Nat.and_two_pow_sub_one_eq_mod _ 8
    rw[this]
    have h2:=wr_eq (x:=((u.Load.length%256:Nat):Int)) (by omega) (by omega)
    unfold wr at h2
    rw[h2,u8_m]
    apply UInt8.toNat_inj.1
    rw[UInt8.toNat_ofNat',UInt8.toNat_ofNat']
    omega
   rw[hw,need_is (by simp[w4_len];omega),bd_s,shr8F (by omega),ha,Int.toNat_natCast,u8_i (by omega)]
   have hbody:((((([]++[UInt8.ofNat u.Kind.toNat])++w4 u.Label.toNat)++w4 u.Number.toNat)++([UInt8.ofNat (u.Load.length/256),UInt8.ofNat u.Load.length]:List UInt8))++u.Load)++List.replicate (roomN u.Kind-u.Load.length) (0:UInt8)=bodyF u:=by
    unfold bodyF
    simp
   rw[hbody,y_crc (by rw[body_len hm];omega),bd_s,y_wint (by omega) (by have:=(crc (bodyF u)).toNat_lt;omega) (by rw[body_len hm];omega),bd_s,Int.toNat_natCast]
   rfl
  ·rw[if_pos (by simp;omega),if_neg hm]
 ·rw[if_neg h,if_pos ?_]
  unfold OKU at h
  simp
  omega
theorem c_check (u:Unit_api):X.frame_check u=some (if OKU u then if u.Load.length≤roomN u.Kind then 0 else 4 else 1):=by
 have hj:(1≤u.Kind∧u.Kind≤6)→X.frame_check_j8 u=some (if u.Load.length≤roomN u.Kind then 0 else 4):=by
  intro hk
  unfold X.frame_check_j8 X.frame_room roomN
  by_cases h:u.Kind=6
  ·rw[if_pos (by simp[h]),bd_s,if_pos h]
   by_cases hm:u.Load.length≤79
   ·rw[if_neg (by simp;omega),if_pos hm]
   ·rw[if_pos (by simp;omega),if_neg hm]
  ·rw[if_neg (by simp[h]),bd_s,if_neg h]
   by_cases hm:u.Load.length≤64
   ·rw[if_neg (by simp;omega),if_pos hm]
   ·rw[if_pos (by simp;omega),if_neg hm]
 unfold X.frame_check
 by_cases hb:(1≤u.Label∧u.Label≤2147483647)∧(0≤u.Number∧u.Number≤2147483647)
 ·rw[if_neg (by simp;omega)]
  by_cases hk:1≤u.Kind∧u.Kind≤6
  ·rw[if_pos (show OKU u from ⟨hk,hb⟩)]
   have:=hj hk
   rw[this]
   repeat' split
   all_goals first
    |rfl
    |(exfalso;rename_i h1 h2 h3 h4 h5 h6;simp at h1 h2 h3 h4 h5 h6;omega)
    |(exfalso;simp_all;omega)
  ·rw[if_neg (show ¬OKU u from fun h=>hk h.1)]
   rw[if_neg (by simp;omega),if_neg (by simp;omega),if_neg (by simp;omega),if_neg (by simp;omega),if_neg (by simp;omega),if_neg (by simp;omega)]
 ·rw[if_neg (show ¬OKU u from fun h=>hb h.2),if_pos (by simp;omega)]
end Go.AX
namespace Go.AX
open Go.AM
set_option linter.unusedSimpArgs false
set_option linter.unusedVariables false
theorem opt_t {α:Type} [Inhabited α] (o:Option α):optG true o=o:=by unfold optG;rw[if_pos rfl]
theorem opt_f {α:Type} [Inhabited α] (o:Option α):optG false o=some default:=by unfold optG;rw[if_neg (by decide)]
def p5 (b:List UInt8):Unit_api×Option (List UInt8):=
 let k:=byA (some b);let l:=inA k.2;let n:=inA l.2;let h:=byA n.2;let m:=byA h.2;let t:=tkA (h.1.toNat*256+m.1.toNat) m.2
 (⟨(k.1.toNat:Int),l.1,n.1,t.1⟩,t.2)
def getU (b:List UInt8):Option Unit_api:=if (p5 b).2.isSome=true∧OKU (p5 b).1∧(p5 b).1.Load.length≤roomN (p5 b).1.Kind∧frameL (p5 b).1=b then some (p5 b).1 else none
def getF (b:List UInt8):Unit_api×Int:=match getU b with|some u=>(u,0)|none=>(zeroU,2)
theorem of_get {b:List UInt8} {u:Unit_api} (h:getU b=some u):OKU u∧u.Load.length≤roomN u.Kind∧frameL u=b:=by
 unfold getU at h
 split at h
 ·rename_i hc
  injection h with h
  subst h
  exact hc.2
 ·cases h
theorem c_made {u:Unit_api} (h:OKU u) (hl:u.Load.length≤roomN u.Kind):X.frame_made u=some (frameL u):=by
 obtain ⟨⟨a1,a2⟩,⟨a3,a4⟩,a5,a6⟩:=h
 have hr:=room_le u.Kind
 have hrm:X.frame_room u.Kind=some ((roomN u.Kind:Nat):Int):=by
  unfold X.frame_room roomN
  by_cases h:u.Kind=6
  ·rw[if_pos (by simp[h]),if_pos h];rfl
  ·rw[if_neg (by simp[h]),if_neg h];rfl
 have hcp:cpy (List.replicate (roomN u.Kind) (0:UInt8)) u.Load=u.Load++List.replicate (roomN u.Kind-u.Load.length) 0:=by
  unfold cpy
  rw[List.length_replicate,List.take_of_length_le hl,List.drop_replicate]
 have hbo:∀b:List UInt8,b.length≤100000→X.code_Writer_Bytes_or b=some b:=fun b hb=>by
  unfold X.code_Writer_Bytes_or X.slices_Clone_Lbyte_byte_own_or
  have:nilU b (fun z6=>if z6=true then some ([]:List UInt8) else (need (b.length*1≤140737488355328)).bind fun u10=>some b)=some b:=by
   refine nilU_same (fun e=>?_) ?_
   ·rw[if_pos rfl,e]
   ·rw[if_neg (by decide),need_is (by omega),bd_s]
  rw[this,bd_s]
 have hbody:((((([]++[UInt8.ofNat u.Kind.toNat])++w4 u.Label.toNat)++w4 u.Number.toNat)++[UInt8.ofNat (u.Load.length/256)])++[UInt8.ofNat u.Load.length])++(u.Load++List.replicate (roomN u.Kind-u.Load.length) (0:UInt8))=bodyF u:=by
  unfold bodyF
  simp
 unfold X.frame_made
 rw[c_wbyte (by simp),bd_s,c_wint (by omega) (by omega) (by simp),bd_s,c_wint (by omega) (by omega) (by simp[w4_len]),bd_s,shr8F (by omega),c_wbyte (by simp[w4_len]),bd_s,u8_m,c_wbyte (by simp[w4_len]),bd_s,hrm,bd_s]
 rw[need_is (by omega),bd_s,Int.toNat_natCast,hcp,hbo _ (by simp[w4_len]),bd_s,u8_i (by omega)]
 rw[hbody,need_is (by simp[w4_len];omega),bd_s,c_crc (by rw[body_len hl];omega),bd_s,c_wint (by omega) (by have:=(crc (bodyF u)).toNat_lt;omega) (by simp),bd_s,Int.toNat_natCast,List.nil_append,c_bytes (by simp[w4_len]),bd_s]
 rw[need_is (by rw[body_len hl,w4_len];omega),bd_s]
 rfl
theorem c_raw (n:Nat) (s:Option (List UInt8)) (hs:∀t,s=some t→t.length≤100000):X.code_Reader_Raw (n:Int) (conC s).1 (conC s).2=some ((tkA n s).1,conC (tkA n s).2):=by
 unfold X.code_Reader_Raw
 rw[show max (0:Int) (n:Int)=(n:Int) by omega,c_take,bd_s]
 have hl:(tkA n s).1.length≤100000:=by
  cases s with
  |none=>simp[tkA_none]
  |some b=>
   have:=hs b rfl
   rw[tkA_some]
   split
   ·simp;omega
   ·simp
 have hc:X.slices_Clone_Lbyte_byte (tkA n s).1=some (tkA n s).1:=by
  unfold X.slices_Clone_Lbyte_byte
  refine nilU_same (fun e=>?_) ?_
  ·rw[if_pos rfl,e]
  ·rw[if_neg (by decide),need_is (by omega),bd_s]
 rw[hc,bd_s]
theorem by_le {s:Option (List UInt8)} {N:Nat} (h:∀t,s=some t→t.length≤N):∀t,(byA s).2=some t→t.length≤N:=by
 intro t ht
 cases s with
 |none=>cases ht
 |some b=>
  have:=h b rfl
  have:=by_inv ht
  have h2:=congrArg List.length this
  simp at h2
  omega
theorem in_le {s:Option (List UInt8)} {N:Nat} (h:∀t,s=some t→t.length≤N):∀t,(inA s).2=some t→t.length≤N:=by
 intro t ht
 cases s with
 |none=>cases ht
 |some b=>
  have:=h b rfl
  have:=in_inv ht
  have h2:=congrArg List.length this
  simp at h2
  omega
theorem c_get (b:List UInt8) (hb:b.length≤100000):X.frame_Get b=some (getF b):=by
 unfold X.frame_Get
 rw[c_new b hb,bd_s,c_byte,bd_s,c_int,bd_s,c_int,bd_s,c_byte,bd_s,c_byte,bd_s]
 dsimp only
 rw[or64_nat (by have:=(byA (inA (inA (byA (some b)).2).2).2).1.toNat_lt;omega) (byA (byA (inA (inA (byA (some b)).2).2).2).2).1.toNat_lt]
 have hlen:∀t,(byA (byA (inA (inA (byA (some b)).2).2).2).2).2=some t→t.length≤100000:=by_le (by_le (in_le (in_le (by_le (fun t e=>by injection e with e;rw[←e];exact hb)))))
 rw[c_raw _ _ hlen,bd_s]
 unfold X.code_Reader_Bad
 rw[bd_s,c_check]
 have hp:p5 b=(⟨((byA (some b)).1.toNat:Int),(inA (byA (some b)).2).1,(inA (inA (byA (some b)).2).2).1,(tkA ((byA (inA (inA (byA (some b)).2).2).2).1.toNat*256+(byA (byA (inA (inA (byA (some b)).2).2).2).2).1.toNat) (byA (byA (inA (inA (byA (some b)).2).2).2).2).2).1⟩,
  (tkA ((byA (inA (inA (byA (some b)).2).2).2).1.toNat*256+(byA (byA (inA (inA (byA (some b)).2).2).2).2).1.toNat) (byA (byA (inA (inA (byA (some b)).2).2).2).2).2).2):=rfl
 generalize hk:((byA (some b)).1.toNat:Int)=k at hp ⊢
 generalize hl:(inA (byA (some b)).2).1=l at hp ⊢
 generalize hn:(inA (inA (byA (some b)).2).2).1=n at hp ⊢
 generalize ht:tkA ((byA (inA (inA (byA (some b)).2).2).2).1.toNat*256+(byA (byA (inA (inA (byA (some b)).2).2).2).2).1.toNat) (byA (byA (inA (inA (byA (some b)).2).2).2).2).2=t at hp ⊢
 obtain ⟨d,s⟩:=t
 dsimp only at hp ⊢
 unfold getF getU
 rw[hp]
 simp only
 cases s with
 |none=>
  rw[if_neg (show ¬((none:Option (List UInt8)).isSome=true∧OKU ⟨k,l,n,d⟩∧d.length≤roomN k∧frameL ⟨k,l,n,d⟩=b) from fun h=>by cases h.1)]
  rfl
 |some q=>
  show ((optG (!false) _).bind _)=_
  rw[show (conC (some q)).2=false from rfl,Bool.not_false,opt_t,bd_s]
  by_cases h1:OKU ⟨k,l,n,d⟩
  ·by_cases h2:d.length≤roomN k
   ·rw[if_pos h1,if_pos h2,Bool.false_or,show ((0:Int) !=0)=false from rfl,Bool.not_false,opt_t,c_made h1 h2,bd_s,opt_t,x_equal (by omega),bd_s]
    by_cases h3:frameL ⟨k,l,n,d⟩=b
    ·rw[if_pos (show (some q).isSome=true∧OKU ⟨k,l,n,d⟩∧d.length≤roomN k∧frameL ⟨k,l,n,d⟩=b from ⟨rfl,h1,h2,h3⟩),if_neg (by rw[h3];simp)]
    ·rw[if_neg (show ¬((some q).isSome=true∧OKU ⟨k,l,n,d⟩∧d.length≤roomN k∧frameL ⟨k,l,n,d⟩=b) from fun h=>h3 h.2.2.2),if_pos (by simp;exact fun e=>h3 e.symm)]
     rfl
   ·rw[if_pos h1,if_neg h2,if_neg (show ¬((some q).isSome=true∧OKU ⟨k,l,n,d⟩∧d.length≤roomN k∧frameL ⟨k,l,n,d⟩=b) from fun h=>h2 h.2.2.1)]
    rfl
  ·rw[if_neg h1,if_neg (show ¬((some q).isSome=true∧OKU ⟨k,l,n,d⟩∧d.length≤roomN k∧frameL ⟨k,l,n,d⟩=b) from fun h=>h1 h.2.1)]
   rfl
end Go.AX
namespace Go.AX
open Go.AM
set_option linter.unusedSimpArgs false
set_option linter.unusedVariables false
theorem tk_le {n:Nat} {s:Option (List UInt8)} {N:Nat} (h:∀t,s=some t→t.length≤N):(tkA n s).1.length≤N:=by
 cases s with
 |none=>simp[tkA_none]
 |some b=>
  have:=h b rfl
  rw[tkA_some]
  split
  ·simp;omega
  ·simp
theorem y_get (b:List UInt8) (hb:b.length≤100000):X.cartridgeref1_GetFrame b=some (getF b):=by
 unfold X.cartridgeref1_GetFrame X.cartridgeref1_NewReader
 rw[bd_s]
 dsimp only
 obtain ⟨q1,e1,f1⟩:=r_byte b false
 rw[e1,bd_s]
 obtain ⟨q2,e2,f2⟩:=r_int q1.1 q1.2
 rw[e2,bd_s]
 obtain ⟨q3,e3,f3⟩:=r_int q2.1 q2.2
 rw[e3,bd_s]
 obtain ⟨q4,e4,f4⟩:=r_byte q3.1 q3.2
 rw[e4,bd_s]
 obtain ⟨q5,e5,f5⟩:=r_byte q4.1 q4.2
 rw[e5,bd_s]
 dsimp only
 rw[f4] at f5 ⊢
 rw[f3] at f5 ⊢
 rw[f2] at f5 ⊢
 rw[f1] at f5 ⊢
 rw[show ab b false=some b from rfl] at f5 ⊢
 clear e1 e2 e3 e4 e5 f1 f2 f3 f4
 unfold X.cartridgeref1_Reader_Bad
 rw[bd_s]
 have hlen:∀t,(byA (byA (inA (inA (byA (some b)).2).2).2).2).2=some t→t.length≤100000:=by_le (by_le (in_le (in_le (by_le (fun t e=>by injection e with e;rw[←e];exact hb)))))
 have hp:p5 b=(⟨((byA (some b)).1.toNat:Int),(inA (byA (some b)).2).1,(inA (inA (byA (some b)).2).2).1,(tkA ((byA (inA (inA (byA (some b)).2).2).2).1.toNat*256+(byA (byA (inA (inA (byA (some b)).2).2).2).2).1.toNat) (byA (byA (inA (inA (byA (some b)).2).2).2).2).2).1⟩,
  (tkA ((byA (inA (inA (byA (some b)).2).2).2).1.toNat*256+(byA (byA (inA (inA (byA (some b)).2).2).2).2).1.toNat) (byA (byA (inA (inA (byA (some b)).2).2).2).2).2).2):=rfl
 have hw:wr (wr ((256:Int)*((byA (inA (inA (byA (some b)).2).2).2).1.toNat:Int))+((byA (byA (inA (inA (byA (some b)).2).2).2).2).1.toNat:Int))=(((byA (inA (inA (byA (some b)).2).2).2).1.toNat*256+(byA (byA (inA (inA (byA (some b)).2).2).2).2).1.toNat:Nat):Int):=by
  have h1:=(byA (inA (inA (byA (some b)).2).2).2).1.toNat_lt
  have h2:=(byA (byA (inA (inA (byA (some b)).2).2).2).2).1.toNat_lt
  rw[wr_eq (x:=(256:Int)*_) (by omega) (by omega),wr_eq (by omega) (by omega)]
  omega
 rw[hw]
 generalize hk:((byA (some b)).1.toNat:Int)=k at hp ⊢
 generalize hl:(inA (byA (some b)).2).1=l at hp ⊢
 generalize hn:(inA (inA (byA (some b)).2).2).1=n at hp ⊢
 generalize hs:(byA (byA (inA (inA (byA (some b)).2).2).2).2).2=s at hp f5 hlen ⊢
 generalize hm:(byA (inA (inA (byA (some b)).2).2).2).1.toNat*256+(byA (byA (inA (inA (byA (some b)).2).2).2).2).1.toNat=m at hp ⊢
 obtain ⟨c,bad⟩:=q5
 dsimp only at f5 ⊢
 unfold getF getU
 rw[hp]
 dsimp only
 unfold X.cartridgeref1_Reader_Left
 cases bad with
 |true=>
  have hs:s=none:=f5.symm
  subst hs
  rw[Bool.not_true,opt_f,bd_s,if_pos (by rw[Bool.true_or]),tkA_none,if_neg (show ¬((none:Option (List UInt8)).isSome=true∧_) from fun h=>by cases h.1)]
  rfl
 |false=>
  have hs:s=some c:=f5.symm
  subst hs
  rw[Bool.not_false,opt_t,if_neg (by decide),bd_s,Bool.false_or]
  have hc:=hlen c rfl
  by_cases hm:m≤c.length
  ·obtain ⟨q,e1,e2⟩:=r_take m c false
   rw[if_neg (by simp;omega),e1,bd_s]
   dsimp only
   rw[show ab c false=some c from rfl]
   have hd:=tk_le (n:=m) (s:=some c) (N:=100000) hlen
   generalize ht:tkA m (some c)=t at hd ⊢
   have ht2:t.2.isSome=true:=by rw[←ht,tkA_some,if_pos hm];rfl
   obtain ⟨d,s2⟩:=t
   dsimp only at hd ht2 ⊢
   rw[need_is (by omega),bd_s,y_put _ hd,bd_s]
   unfold putF
   dsimp only
   by_cases h1:OKU ⟨k,l,n,d⟩
   ·by_cases h2:d.length≤roomN k
    ·rw[if_pos h1,if_pos h2]
     by_cases h3:frameL ⟨k,l,n,d⟩=b
     ·rw[if_pos (show s2.isSome=true∧OKU ⟨k,l,n,d⟩∧d.length≤roomN k∧frameL ⟨k,l,n,d⟩=b from ⟨ht2,h1,h2,h3⟩),if_neg (by rw[h3];simp)]
     ·rw[if_neg (show ¬(s2.isSome=true∧OKU ⟨k,l,n,d⟩∧d.length≤roomN k∧frameL ⟨k,l,n,d⟩=b) from fun h=>h3 h.2.2.2),if_pos (by simp;exact h3)]
      rfl
    ·rw[if_pos h1,if_neg h2,if_neg (show ¬(s2.isSome=true∧OKU ⟨k,l,n,d⟩∧d.length≤roomN k∧frameL ⟨k,l,n,d⟩=b) from fun h=>h2 h.2.2.1)]
     rfl
   ·rw[if_neg h1,if_neg (show ¬(s2.isSome=true∧OKU ⟨k,l,n,d⟩∧d.length≤roomN k∧frameL ⟨k,l,n,d⟩=b) from fun h=>h1 h.2.1)]
    rfl
  ·rw[if_pos (by simp;omega),tkA_some,if_neg hm,if_neg (show ¬((none:Option (List UInt8)).isSome=true∧_) from fun h=>by cases h.1)]
   rfl
def goodF (t:Tape_api) (n:Int):Unit_api×Bool:=
 if t.Lost=false∧0≤n∧n<t.Blocks.length then
  match getU (t.Blocks.getD n.toNat []) with
  |some u=>if u.Label=t.Label∧u.Number=n then (u,true) else (zeroU,false)
  |none=>(zeroU,false)
 else (zeroU,false)
theorem c_good (t:Tape_api) (n:Int) (hb:∀b∈t.Blocks,b.length≤100000):X.volume_Good t n=some (goodF t n):=by
 unfold X.volume_Good goodF
 by_cases h:t.Lost=false∧0≤n∧n<t.Blocks.length
 ·obtain ⟨h1,h2,h3⟩:=h
  obtain ⟨m,rfl⟩:∃m:Nat,n=(m:Int):=⟨n.toNat,by omega⟩
  have hm:m<t.Blocks.length:=by omega
  rw[if_neg (by rw[h1];simp;omega),if_pos ⟨h1,h2,h3⟩,getI_getD [] hm,bd_s,c_get _ (hb _ (by rw[List.getD_eq_getElem?_getD,List.getElem?_eq_getElem hm];exact List.getElem_mem hm)),bd_s,Int.toNat_natCast]
  unfold getF
  cases hu:getU (t.Blocks.getD m []) with
  |none=>rfl
  |some u=>
   dsimp only
   by_cases hc:u.Label=t.Label∧u.Number=(m:Int)
   ·rw[if_pos hc,if_neg (by simp[hc])]
   ·rw[if_neg hc,if_pos (by simp;omega)]
    rfl
 ·rw[if_neg h,if_pos (by simp;cases hL:t.Lost<;>simp_all<;>omega)]
  rfl
theorem y_good (t:Tape_api) (n:Int) (hb:∀b∈t.Blocks,b.length≤100000):X.cartridgeref10_Good t n=some (goodF t n):=by
 unfold X.cartridgeref10_Good goodF
 by_cases h:t.Lost=false∧0≤n∧n<t.Blocks.length
 ·obtain ⟨h1,h2,h3⟩:=h
  obtain ⟨m,rfl⟩:∃m:Nat,n=(m:Int):=⟨n.toNat,by omega⟩
  have hm:m<t.Blocks.length:=by omega
  rw[if_neg (by rw[h1];simp;omega),if_pos ⟨h1,h2,h3⟩,getI_getD [] hm,bd_s,y_get _ (hb _ (by rw[List.getD_eq_getElem?_getD,List.getElem?_eq_getElem hm];exact List.getElem_mem hm)),bd_s,Int.toNat_natCast]
  unfold getF
  cases hu:getU (t.Blocks.getD m []) with
  |none=>rfl
  |some u=>
   dsimp only
   by_cases hc:u.Label=t.Label∧u.Number=(m:Int)
   ·rw[if_pos hc,if_neg (by simp[hc])]
   ·rw[if_neg hc,if_pos (by simp;omega)]
    rfl
 ·rw[if_neg h,if_pos (by simp;cases hL:t.Lost<;>simp_all<;>omega)]
  rfl
end Go.AX
namespace Go.AX
open Go.AM
open Gf
theorem x_Few8 (t:Tape_api):∃b,X.cartridgelaw8_Few t=some b∧(b=true→t.Blocks.length≤90∧∀r∈t.Blocks,r.length≤300):=by
 unfold X.cartridgelaw8_Few
 obtain ⟨r,h1,h2⟩:∃r,run (X.cartridgelaw8_Few_s5 t) ((0:Nat):Int)=some r∧(r= .inr false∨(r= .inl ()∧∀j,j<min t.Blocks.length 100→(row t.Blocks j).length≤300)):=by
  refine run_se (n:=min t.Blocks.length 100) (fun (r:Unit ⊕ Bool)=>r= .inr false∨(r= .inl ()∧∀j,j<min t.Blocks.length 100→(row t.Blocks j).length≤300)) (fun n=>∀j,j<n→(row t.Blocks j).length≤300) (Nat.zero_le _) (by omega) (fun j h=>by omega) (fun i _ hi hI=>?_) (fun hI=>?_)
  ·unfold X.cartridgelaw8_Few_s5
   simp only
   rw[if_pos (by simp only[Bool.and_eq_true,decide_eq_true_eq];omega),getI_row (by omega),bind_s]
   by_cases h:(row t.Blocks i).length≤300
   ·left
    rw[if_neg (by simp only[decide_eq_true_eq];omega),wr_inc (by omega)]
    refine ⟨rfl,fun j hj=>?_⟩
    rcases Nat.lt_succ_iff_lt_or_eq.1 hj with h1|rfl
    ·exact hI j h1
    ·exact h
   ·right
    rw[if_pos (by simp only[decide_eq_true_eq];omega)]
    exact ⟨_,rfl,.inl rfl⟩
  ·unfold X.cartridgelaw8_Few_s5
   simp only
   rw[if_neg (by simp only[Bool.and_eq_true,decide_eq_true_eq];omega)]
   exact ⟨_,rfl,.inr ⟨rfl,hI⟩⟩
 rw[show (0:Int)=((0:Nat):Int) from rfl,h1,bind_s]
 rcases h2 with rfl|⟨rfl,h3⟩
 ·exact ⟨false,rfl,fun h=>by cases h⟩
 ·refine ⟨_,rfl,fun h=>?_⟩
  have h4:t.Blocks.length≤90:=by have:=of_decide_eq_true h;omega
  refine ⟨h4,fun r hr=>?_⟩
  obtain ⟨j,hj,rfl⟩:=mem_row hr
  exact h3 j (by omega)
theorem x_Few13 (l:List Tape_api):∃b,X.cartridgelaw13_Few l=some b∧(b=true→Small l):=by
 unfold X.cartridgelaw13_Few
 obtain ⟨r,h1,h2⟩:∃r,run (X.cartridgelaw13_Few_s6 l) ((0:Int),(0:Int))=some r∧(r= .inr false∨∃n,r= .inl n∧∀j,j<min l.length 20→(tp l j).Blocks.length≤90∧∀r∈(tp l j).Blocks,r.length≤300):=by
  refine run_ix0 (fun i (n:Int)=>0≤n∧n≤90*i∧∀j,j<i→(tp l j).Blocks.length≤90∧∀r∈(tp l j).Blocks,r.length≤300) (fun (r:Int ⊕ Bool)=>r= .inr false∨∃n,r= .inl n∧∀j,j<min l.length 20→(tp l j).Blocks.length≤90∧∀r∈(tp l j).Blocks,r.length≤300) (n:=min l.length 20) (by omega) ⟨by omega,by omega,fun j h=>by omega⟩ (fun i n hi hI=>?_) (fun n hI=>?_)
  ·obtain ⟨g1,g2,g3⟩:=hI
   unfold X.cartridgelaw13_Few_s6
   simp only
   obtain ⟨b,f1,f2⟩:=x_Few8 (tp l i)
   rw[if_pos (by simp only[Bool.and_eq_true,decide_eq_true_eq];omega),getI_tp (by omega),bind_s,f1,bind_s]
   cases b with
   |false=>right;exact ⟨_,rfl,.inl rfl⟩
   |true=>
    left
    obtain ⟨k1,k2⟩:=f2 rfl
    rw[if_neg (by simp),bind_s,wr_inc (by omega),wr_eq (by omega) (by omega)]
    refine ⟨_,rfl,by omega,by omega,fun j hj=>?_⟩
    rcases Nat.lt_succ_iff_lt_or_eq.1 hj with h|rfl
    ·exact g3 j h
    ·exact ⟨k1,k2⟩
  ·obtain ⟨_,_,g3⟩:=hI
   unfold X.cartridgelaw13_Few_s6
   simp only
   rw[if_neg (by simp only[Bool.and_eq_true,decide_eq_true_eq];omega)]
   exact ⟨_,rfl,.inr ⟨n,rfl,g3⟩⟩
 rw[h1,bind_s]
 rcases h2 with rfl|⟨n,rfl,h3⟩
 ·exact ⟨false,rfl,fun h=>by cases h⟩
 ·refine ⟨_,rfl,fun h=>?_⟩
  have h4:l.length≤14:=by
   simp only[Bool.and_eq_true,decide_eq_true_eq] at h
   omega
  refine ⟨h4,fun t ht=>?_⟩
  obtain ⟨j,hj,rfl⟩:=mem_tp ht
  exact h3 j (by omega)
end Go.AX
namespace Go.AX
open Go.AM
set_option linter.unusedSimpArgs false
set_option linter.unusedVariables false
abbrev zq:Seal_api:=default
def Nq (l:List Seal_api) (k:Nat):Int:=(l.getD k zq).Number
def swq (l:List Seal_api) (i j:Nat):List Seal_api:=(l.set i (l.getD j zq)).set j (l.getD i zq)
theorem Nq_swq {l:List Seal_api} {i j k:Nat} (hi:i<l.length) (hj:j<l.length):Nq (swq l i j) k=if k=j then Nq l i else if k=i then Nq l j else Nq l k:=by
 unfold Nq swq
 rw[set_getD (by simpa using hj),set_getD hi]
 by_cases h1:k=j
 ·rw[if_pos h1,if_pos h1]
 ·rw[if_neg h1,if_neg h1]
  by_cases h2:k=i
  ·rw[if_pos h2,if_pos h2]
  ·rw[if_neg h2,if_neg h2]
theorem getD_q {l:List Seal_api} {i:Nat} (hi:i<l.length):l.getD i zq=l[i]:=by simp[List.getD_eq_getElem?_getD,hi]
theorem swq_perm {l:List Seal_api} {i j:Nat} (hi:i<l.length) (hj:j<l.length):(swq l i j).Perm l:=by
 unfold swq
 rw[getD_q hi,getD_q hj]
 exact List.set_set_perm hi hj
structure Rg (a b:Nat) (l l':List Seal_api):Prop where
 pm:l'.Perm l
 out:∀k,(k<a∨b≤k)→Nq l' k=Nq l k
 ins:∀k,a≤k→k<b→∃k',a≤k'∧k'<b∧Nq l' k=Nq l k'
theorem Rg.refl (a b:Nat) (l:List Seal_api):Rg a b l l:=⟨.refl _,fun _ _=>rfl,fun k h1 h2=>⟨k,h1,h2,rfl⟩⟩
theorem Rg.trans {a b:Nat} {l m r:List Seal_api} (h:Rg a b l m) (g:Rg a b m r):Rg a b l r:=
 ⟨g.pm.trans h.pm,fun k hk=>(g.out k hk).trans (h.out k hk),fun k h1 h2=>by
   obtain ⟨k',p1,p2,p3⟩:=g.ins k h1 h2
   obtain ⟨k2,q1,q2,q3⟩:=h.ins k' p1 p2
   exact ⟨k2,q1,q2,p3.trans q3⟩⟩
theorem Rg.len {a b:Nat} {l l':List Seal_api} (h:Rg a b l l'):l'.length=l.length:=h.pm.length_eq
theorem Rg.mono {a b a' b':Nat} {l l':List Seal_api} (h:Rg a b l l') (ha:a'≤a) (hb:b≤b'):Rg a' b' l l':=
 ⟨h.pm,fun k hk=>h.out k (by omega),fun k h1 h2=>by
   by_cases hk:a≤k∧k<b
   ·obtain ⟨k',p1,p2,p3⟩:=h.ins k hk.1 hk.2
    exact ⟨k',by omega,by omega,p3⟩
   ·exact ⟨k,h1,h2,h.out k (by omega)⟩⟩
theorem Rg.sw {a b i j:Nat} {l:List Seal_api} (hb:b≤l.length) (hi:a≤i∧i<b) (hj:a≤j∧j<b):Rg a b l (swq l i j):=by
 refine ⟨swq_perm (by omega) (by omega),fun k hk=>?_,fun k h1 h2=>?_⟩
 ·rw[Nq_swq (by omega) (by omega),if_neg (by omega),if_neg (by omega)]
 ·rw[Nq_swq (by omega) (by omega)]
  by_cases e:k=j
  ·rw[if_pos e];exact ⟨i,hi.1,hi.2,rfl⟩
  ·rw[if_neg e]
   by_cases e2:k=i
   ·rw[if_pos e2];exact ⟨j,hj.1,hj.2,rfl⟩
   ·rw[if_neg e2];exact ⟨k,h1,h2,rfl⟩
def cq (x y:Seal_api):Int:=if x.Number<y.Number then-1 else if x.Number>y.Number then 1 else 0
theorem cq_lt (x y:Seal_api):decide (cq x y<0)=decide (x.Number<y.Number):=by
 unfold cq
 by_cases h:x.Number<y.Number
 ·simp[h]
 ·rw[if_neg h]
  by_cases h2:x.Number>y.Number
  ·simp[h,h2]
  ·simp[h,h2]
theorem sw_get {β:Type} {l:List Seal_api} {i j:Nat} (hi:i<l.length) (hj:j<l.length) (f:Seal_api→Seal_api→Option β):
 ((getI l (j:Int)).bind fun e1=>(getI l (i:Int)).bind fun e2=>(getI l (i:Int)).bind fun _=>(getI (l.set (i:Int).toNat e1) (j:Int)).bind fun _=>f e1 e2)=f (l.getD j zq) (l.getD i zq):=by
 rw[getI_getD zq hj,bd_s,getI_getD zq hi,bd_s,bd_s,Int.toNat_natCast,getI_getD zq (by simpa using hj),bd_s]
theorem wr_n {n:Nat} (h:n≤1000000):wr (n:Int)=(n:Int):=wr_id (by omega) (by omega)
section
variable {g:Seal_api→Seal_api→Option Int} (hg:∀x y,g x y=some (cq x y))
include hg
theorem q_s17 {l:List Seal_api} {a j:Nat} (hj:j<l.length) (hl:l.length≤1000) (haj:a≤j):X.slices_insertionSortCmpFunc_api_Seal_s17 (a:Int) g (l,(j:Int))=
 if a<j∧Nq l j<Nq l (j-1) then some (.inl (swq l j (j-1),((j-1:Nat):Int))) else some (.inr l):=by
 unfold X.slices_insertionSortCmpFunc_api_Seal_s17
 dsimp only
 by_cases h:a<j
 ·have hd:decide ((j:Int)>(a:Int))=true:=by simpa using h
  have hw:wr ((j:Int)-1)=((j-1:Nat):Int):=by rw[wr_id (by omega) (by omega)];omega
  rw[hd,optG_true,getI_getD zq hj,bd_s,optG_true,hw,getI_getD zq (by omega),bd_s,optG_true,hg,bd_s,Bool.true_and,cq_lt]
  by_cases h2:Nq l j<Nq l (j-1)
  ·rw[if_pos (by simpa[Nq] using h2),if_pos ⟨h,h2⟩,bd_s,bd_s,bd_s,Int.toNat_natCast,getI_getD zq (by simp;omega),bd_s]
   rfl
  ·rw[if_neg (by simpa[Nq] using h2),if_neg (fun x=>h2 x.2)]
 ·have hd:decide ((j:Int)>(a:Int))=false:=by simpa using h
  rw[hd,optG_false,bd_s,optG_false,bd_s,optG_false,bd_s,Bool.false_and,if_neg (by simp),if_neg (fun x=>h x.1)]
theorem q_in {l:List Seal_api} {a i:Nat} (hi:i<l.length) (hl:l.length≤1000) (hai:a≤i) (hs:∀p q,a≤p→p<q→q<i→Nq l p≤Nq l q):
 ∃r,run (X.slices_insertionSortCmpFunc_api_Seal_s17 (a:Int) g) (l,(i:Int))=some r∧Rg a (i+1) l r∧∀p q,a≤p→p<q→q≤i→Nq r p≤Nq r q:=by
 refine run_inv (fun s=>∃(m:List Seal_api) (j:Nat),s=(m,(j:Int))∧a≤j∧j≤i∧Rg a (i+1) l m∧∀p q,a≤p→p<q→q≤i→q≠j→Nq m p≤Nq m q) _ (fun s=>s.2.toNat)
  ⟨l,i,rfl,hai,Nat.le_refl _,Rg.refl _ _ _,fun p q h1 h2 h3 h4=>hs p q h1 h2 (by omega)⟩ (by simp;omega) ?_
 rintro ⟨m,x⟩ ⟨m',j,h0,h1,h2,h3,h4⟩
 injection h0 with h0 h0'
 subst h0 h0'
 have hm:=h3.len
 rw[q_s17 hg (by omega) (by omega) h1]
 by_cases hc:a<j∧Nq m j<Nq m (j-1)
 ·left
  rw[if_pos hc]
  have hsw:=Rg.sw (l:=m) (a:=a) (b:=i+1) (i:=j) (j:=j-1) (by omega) (by omega) (by omega)
  refine ⟨_,rfl,⟨_,j-1,rfl,by omega,by omega,h3.trans hsw,fun p q p1 p2 p3 p4=>?_⟩,by simp only[Int.toNat_natCast];omega⟩
  obtain ⟨c1,c2⟩:=hc
  rw[Nq_swq (by omega) (by omega),Nq_swq (by omega) (by omega)]
  rw[if_neg p4]
  by_cases e1:p=j-1
  ·rw[if_pos e1]
   by_cases e2:q=j
   ·rw[if_pos e2];omega
   ·rw[if_neg e2]
    exact h4 j q h1 (by omega) p3 e2
  ·rw[if_neg e1]
   by_cases e3:p=j
   ·subst e3
    rw[if_pos rfl,if_neg (by omega)]
    exact h4 (p-1) q (by omega) (by omega) p3 (by omega)
   ·rw[if_neg e3]
    by_cases e2:q=j
    ·subst e2
     rw[if_pos rfl]
     exact h4 p (q-1) p1 (by omega) (by omega) (by omega)
    ·rw[if_neg e2]
     exact h4 p q p1 p2 p3 e2
 ·right
  rw[if_neg hc]
  refine ⟨m,rfl,h3,fun p q p1 p2 p3=>?_⟩
  by_cases e:q=j
  ·subst e
   have h5:Nq m (q-1)≤Nq m q:=Int.not_lt.1 fun h=>hc ⟨by omega,h⟩
   by_cases e2:p=q-1
   ·rw[e2];exact h5
   ·exact Int.le_trans (h4 p (q-1) p1 (by omega) (by omega) (by omega)) h5
  ·exact h4 p q p1 p2 p3 e
theorem q_ins {l:List Seal_api} {a b:Nat} (hb:b≤l.length) (hl:l.length≤1000) (hab:a≤b):
 ∃r,X.slices_insertionSortCmpFunc_api_Seal (a:Int) (b:Int) g l=some r∧Rg a b l r∧∀p q,a≤p→p<q→q<b→Nq r p≤Nq r q:=by
 unfold X.slices_insertionSortCmpFunc_api_Seal
 rw[wr_succ (by omega)]
 by_cases h0:a+1≤b
 ·obtain ⟨r,h1,h2⟩:=run_ix (f:=X.slices_insertionSortCmpFunc_api_Seal_s7 (b:Int) (a:Int) g) (s0:=l) (a:=a+1) (n:=b)
   (fun i m=>Rg a b l m∧∀p q,a≤p→p<q→q<i→Nq m p≤Nq m q) (fun r=>Rg a b l r∧∀p q,a≤p→p<q→q<b→Nq r p≤Nq r q) h0 (by omega)
   ⟨Rg.refl _ _ _,fun p q h1 h2 h3=>by omega⟩
   (fun i m hi hlt hI=>by
     obtain ⟨i1,i2⟩:=hI
     have hm:=i1.len
     obtain ⟨r,e1,e2,e3⟩:=q_in hg (l:=m) (a:=a) (i:=i) (by omega) (by omega) (by omega) i2
     left
     unfold X.slices_insertionSortCmpFunc_api_Seal_s7
     dsimp only
     rw[if_pos (by simp;omega),e1,bd_s]
     unfold X.slices_insertionSortCmpFunc_api_Seal_e17
     rw[wr_succ (by omega)]
     exact ⟨r,rfl,i1.trans (e2.mono (Nat.le_refl _) (by omega)),fun p q p1 p2 p3=>e3 p q p1 p2 (by omega)⟩)
   (fun m hI=>by
     unfold X.slices_insertionSortCmpFunc_api_Seal_s7
     dsimp only
     rw[if_neg (by simp)]
     exact ⟨m,rfl,hI⟩)
  refine ⟨r,?_,h2⟩
  rw[h1,bd_s]
  rfl
 ·refine ⟨l,?_,Rg.refl _ _ _,fun p q h1 h2 h3=>by omega⟩
  have h1:run (X.slices_insertionSortCmpFunc_api_Seal_s7 (b:Int) (a:Int) g) (l,((a+1:Nat):Int))=some l:=by
   refine run_few 1 (by omega) ?_
   unfold iter X.slices_insertionSortCmpFunc_api_Seal_s7
   dsimp only
   rw[if_neg (by simp;omega)]
  rw[h1,bd_s]
  rfl
end
theorem wr_sbq {a b:Nat} (h:a≤b) (hb:b≤1000000):wr ((b:Int)-(a:Int))=((b-a:Nat):Int):=by rw[wr_id (by omega) (by omega)];omega
theorem wr_adq {a b:Nat} (hb:a+b≤1000000):wr ((a:Int)+(b:Int))=((a+b:Nat):Int):=by rw[wr_id (by omega) (by omega)];omega
theorem wr_mlq {a b:Nat} (hb:a*b≤1000000):wr ((a:Int)*(b:Int))=((a*b:Nat):Int):=by rw[←Int.natCast_mul,wr_n hb]
theorem wr_div4 {d:Nat} (hd:d≤1000000):wr ((d:Int).tdiv (4:Int))=((d/4:Nat):Int):=by
 have h:(d:Int).tdiv (4:Int)=((d/4:Nat):Int):=rfl
 rw[h,wr_n (by omega)]
section
variable {g:Seal_api→Seal_api→Option Int} (hg:∀x y,g x y=some (cq x y))
include hg
theorem q_o2 {l:List Seal_api} {i j:Nat} (hi:i<l.length) (hj:j<l.length) {x:Nat} (hx:x≤1000):
 ∃i' j' x':Nat,X.slices_order2CmpFunc_api_Seal (i:Int) (j:Int) g l (x:Int)=some ((i':Int),(j':Int),(x':Int))∧((i'=i∧j'=j)∨(i'=j∧j'=i))∧x'≤x+1:=by
 unfold X.slices_order2CmpFunc_api_Seal
 rw[getI_getD zq hj,bd_s,getI_getD zq hi,bd_s,hg,bd_s,cq_lt]
 by_cases h:(l.getD j zq).Number<(l.getD i zq).Number
 ·rw[if_pos (by simpa using h),wr_succ (by omega)]
  exact ⟨j,i,x+1,rfl,.inr ⟨rfl,rfl⟩,by omega⟩
 ·rw[if_neg (by simpa using h)]
  exact ⟨i,j,x,rfl,.inl ⟨rfl,rfl⟩,by omega⟩
theorem q_med {l:List Seal_api} {i j k:Nat} (hi:i<l.length) (hj:j<l.length) (hk:k<l.length) {x:Nat} (hx:x≤100):
 ∃p x':Nat,X.slices_medianCmpFunc_api_Seal (i:Int) (j:Int) (k:Int) g l (x:Int)=some ((p:Int),(x':Int))∧(p=i∨p=j∨p=k)∧x'≤x+3:=by
 obtain ⟨i1,j1,x1,e1,o1,b1⟩:=q_o2 hg hi hj (x:=x) (by omega)
 obtain ⟨j2,k2,x2,e2,o2,b2⟩:=q_o2 hg (l:=l) (i:=j1) (j:=k) (by omega) hk (x:=x1) (by omega)
 obtain ⟨i3,j3,x3,e3,o3,b3⟩:=q_o2 hg (l:=l) (i:=i1) (j:=j2) (by omega) (by omega) (x:=x2) (by omega)
 unfold X.slices_medianCmpFunc_api_Seal
 rw[e1,bd_s,e2,bd_s,e3,bd_s]
 exact ⟨j3,x3,rfl,by omega,by omega⟩
theorem q_piv {l:List Seal_api} {a b:Nat} (hb:b≤l.length) (hl:l.length≤1000) (h8:a+8≤b) (h50:b<a+50):
 ∃(p:Nat) (h:Int),X.slices_choosePivotCmpFunc_api_Seal (a:Int) (b:Int) g l=some ((p:Int),h)∧a≤p∧p<b∧(h==2)=false:=by
 unfold X.slices_choosePivotCmpFunc_api_Seal
 rw[wr_sbq (by omega) (by omega),if_pos (by simp;omega),if_neg (by simp;omega),wr_div4 (by omega)]
 rw[show (1:Int)=((1:Nat):Int) from rfl,show (2:Int)=((2:Nat):Int) from rfl,show (3:Int)=((3:Nat):Int) from rfl,wr_mlq (by omega),wr_mlq (by omega),wr_mlq (by omega),wr_adq (by omega),wr_adq (by omega),wr_adq (by omega)]
 unfold X.slices_choosePivotCmpFunc_api_Seal_j25
 obtain ⟨p,x,e,o,bx⟩:=q_med hg (l:=l) (i:=a+(b-a)/4*1) (j:=a+(b-a)/4*2) (k:=a+(b-a)/4*3) (by omega) (by omega) (by omega) (x:=0) (by omega)
 rw[show (0:Int)=((0:Nat):Int) from rfl,e,bd_s]
 unfold X.slices_choosePivotCmpFunc_api_Seal_j13
 have hx:((x:Int)==12)=false:=by simp;omega
 by_cases h:((x:Int)==0)=true
 ·rw[if_pos h]
  exact ⟨p,_,rfl,by omega,by omega,rfl⟩
 ·rw[if_neg h,hx,if_neg (by decide)]
  exact ⟨p,_,rfl,by omega,by omega,rfl⟩
theorem q_pis {l:List Seal_api} {a b:Nat} (hb:b≤l.length) (hl:l.length≤1000) (hab:a<b) (h50:b<a+50):
 ∃t:Bool,X.slices_partialInsertionSortCmpFunc_api_SealL (a:Int) (b:Int) g l=some (t,l)∧(t=true→∀p q,a≤p→p<q→q<b→Nq l p≤Nq l q):=by
 unfold X.slices_partialInsertionSortCmpFunc_api_SealL X.slices_partialInsertionSortCmpFunc_api_Seal
 rw[wr_succ (by omega)]
 obtain ⟨i,e1,i1,i2,i3⟩:∃i:Nat,run (X.slices_partialInsertionSortCmpFunc_api_Seal_s25 (b:Int) l g) ((a+1:Nat):Int)=some (i:Int)∧a+1≤i∧i≤b∧∀q,a<q→q<i→Nq l (q-1)≤Nq l q:=by
  obtain ⟨r,e1,i,e2,e3⟩:=run_se (f:=X.slices_partialInsertionSortCmpFunc_api_Seal_s25 (b:Int) l g) (a:=a+1) (n:=b)
   (fun r=>∃i:Nat,r=(i:Int)∧a+1≤i∧i≤b∧∀q,a<q→q<i→Nq l (q-1)≤Nq l q) (fun i=>∀q,a<q→q<i→Nq l (q-1)≤Nq l q) (by omega) (by omega) (fun q h1 h2=>by omega)
   (fun i h1 h2 hI=>by
     unfold X.slices_partialInsertionSortCmpFunc_api_Seal_s25
     dsimp only
     have hd:decide ((i:Int)<(b:Int))=true:=by simpa using h2
     rw[hd,optG_true,getI_getD zq (by omega),bd_s,optG_true,show (1:Int)=((1:Nat):Int) from rfl,wr_sbq (by omega) (by omega),getI_getD zq (by omega),bd_s,optG_true,hg,bd_s,cq_lt,Bool.true_and]
     by_cases h:(l.getD i zq).Number<(l.getD (i-1) zq).Number
     ·right
      rw[if_neg (by simpa using h)]
      exact ⟨_,rfl,i,rfl,h1,by omega,hI⟩
     ·left
      rw[if_pos (by simpa using h),wr_adq (by omega)]
      refine ⟨rfl,fun q q1 q2=>?_⟩
      by_cases e:q=i
      ·subst e;exact Int.not_lt.1 h
      ·exact hI q q1 (by omega))
   (fun hI=>by
     unfold X.slices_partialInsertionSortCmpFunc_api_Seal_s25
     dsimp only
     have hd:decide ((b:Int)<(b:Int))=false:=by simp
     rw[hd,optG_false,bd_s,optG_false,bd_s,optG_false,bd_s,Bool.false_and,if_neg (by decide)]
     exact ⟨_,rfl,b,rfl,by omega,Nat.le_refl _,hI⟩)
  exact ⟨i,by rw[e1,e2],e3⟩
 have hrun:run (X.slices_partialInsertionSortCmpFunc_api_Seal_s10 (b:Int) g (a:Int)) (l,((a+1:Nat):Int),(0:Int))=some (.inr (decide (i=b),l)):=by
  refine run_few 1 (by omega) ?_
  unfold iter X.slices_partialInsertionSortCmpFunc_api_Seal_s10
  dsimp only
  rw[if_pos (by decide),e1,bd_s]
  unfold X.slices_partialInsertionSortCmpFunc_api_Seal_e25
  by_cases h:i=b
  ·rw[if_pos (by simp[h])];simp[h]
  ·rw[if_neg (by simp;omega),wr_sbq (by omega) (by omega),if_pos (by simp;omega)];simp[h]
 rw[hrun,bd_s]
 refine ⟨decide (i=b),?_,fun h=>?_⟩
 ·show (some (decide (i=b),l)).bind _=_
  rw[bd_s,if_pos rfl]
 ·have h:i=b:=by simpa using h
  subst h
  intro p q h1 h2 h3
  obtain ⟨n,rfl⟩:∃n,q=p+1+n:=⟨q-p-1,by omega⟩
  clear h2
  induction n with
  |zero=>exact i3 (p+1) (by omega) (by omega)
  |succ n ih=>exact Int.le_trans (ih (by omega)) (by have:=i3 (p+1+(n+1)) (by omega) (by omega);rwa [show p+1+(n+1)-1=p+1+n from by omega] at this)
omit hg in
theorem q_up {m:List Seal_api} {V:Int} {jb i0:Nat} {f:Int→Option (Int ⊕ Int)} (hf:∀i:Nat,i≤jb+1→i0≤i→f (i:Int)=some (if i≤jb∧Nq m i<V then .inl ((i+1:Nat):Int) else .inr (i:Int))) (h0:i0≤jb+1) (hj:jb≤1000):
 ∃i:Nat,run f (i0:Int)=some (i:Int)∧i0≤i∧i≤jb+1∧(∀k,i0≤k→k<i→Nq m k<V)∧(i≤jb→V≤Nq m i):=by
 obtain ⟨r,e1,i,e2,e3⟩:=run_se (f:=f) (a:=i0) (n:=jb+1)
  (fun r=>∃i:Nat,r=(i:Int)∧i0≤i∧i≤jb+1∧(∀k,i0≤k→k<i→Nq m k<V)∧(i≤jb→V≤Nq m i)) (fun i=>∀k,i0≤k→k<i→Nq m k<V) h0 (by omega) (fun k h1 h2=>by omega)
  (fun i h1 h2 hI=>by
    rw[hf i (by omega) h1]
    by_cases h:Nq m i<V
    ·left
     rw[if_pos ⟨by omega,h⟩]
     refine ⟨rfl,fun k k1 k2=>?_⟩
     by_cases e:k=i
     ·subst e;exact h
     ·exact hI k k1 (by omega)
    ·right
     rw[if_neg (fun x=>h x.2)]
     exact ⟨_,rfl,i,rfl,h1,by omega,hI,fun _=>Int.not_lt.1 h⟩)
  (fun hI=>by
    rw[hf (jb+1) (Nat.le_refl _) h0,if_neg (by omega)]
    exact ⟨_,rfl,jb+1,rfl,h0,Nat.le_refl _,hI,fun h=>by omega⟩)
 exact ⟨i,by rw[e1,e2],e3⟩
omit hg in
theorem q_dn {m:List Seal_api} {V:Int} {ib j0:Nat} {f:Int→Option (Int ⊕ Int)} (hf:∀j:Nat,j≤j0→ib≤j+1→f (j:Int)=some (if ib≤j∧¬Nq m j<V then .inl ((j-1:Nat):Int) else .inr (j:Int))) (h0:ib≤j0+1) (h1:1≤ib) (hj:j0≤1000):
 ∃j:Nat,run f (j0:Int)=some (j:Int)∧j≤j0∧ib≤j+1∧(∀k,j<k→k≤j0→V≤Nq m k)∧(ib≤j→Nq m j<V):=by
 obtain ⟨r,e1,j,e2,e3⟩:=run_inv (f:=f) (s:=(j0:Int)) (fun x=>∃j:Nat,x=(j:Int)∧j≤j0∧ib≤j+1∧∀k,j<k→k≤j0→V≤Nq m k)
  (fun r=>∃j:Nat,r=(j:Int)∧j≤j0∧ib≤j+1∧(∀k,j<k→k≤j0→V≤Nq m k)∧(ib≤j→Nq m j<V)) (fun x=>x.toNat) ⟨j0,rfl,Nat.le_refl _,h0,fun k a b=>by omega⟩ (by omega)
  (by
    rintro x ⟨j,rfl,j1,j2,j3⟩
    rw[hf j j1 j2]
    by_cases h:ib≤j∧¬Nq m j<V
    ·left
     rw[if_pos h]
     refine ⟨_,rfl,⟨j-1,rfl,by omega,by omega,fun k k1 k2=>?_⟩,by omega⟩
     by_cases e:k=j
     ·subst e;exact Int.not_lt.1 h.2
     ·exact j3 k (by omega) k2
    ·right
     rw[if_neg h]
     exact ⟨_,rfl,j,rfl,j1,j2,j3,fun hi=>by by_cases hh:Nq m j<V;exact hh;exact absurd ⟨hi,hh⟩ h⟩)
 exact ⟨j,by rw[e1,e2],e3⟩
end
theorem pow_all:((List.range 15).all fun d=>decide (d<8)||decide (X.slices_nextPowerOfTwo (d:Int)=some 16))=true:=by decide+kernel
theorem pow_is {d:Nat} (h8:8≤d) (h14:d≤14):X.slices_nextPowerOfTwo (d:Int)=some 16:=by
 have h:=List.all_eq_true.1 pow_all d (List.mem_range.2 (by omega))
 simp only[Bool.or_eq_true,decide_eq_true_eq] at h
 rcases h with h|h
 ·omega
 ·exact h
theorem and15 (x:UInt64):∃n:Nat,wr (((x&&&(u64 (((16:UInt64).toNat:Int)-(1:UInt64).toNat))).toNat:Int))=(n:Int)∧n≤15:=by
 have h:(u64 (((16:UInt64).toNat:Int)-(1:UInt64).toNat))=15:=by decide
 rw[h]
 have h2:(x&&&15).toNat≤15:=by
  rw[UInt64.toNat_and]
  exact Nat.and_le_right
 exact ⟨_,wr_n (by omega),h2⟩
theorem q_brk {g:Seal_api→Seal_api→Option Int} {l:List Seal_api} {a b:Nat} (hb:b≤l.length) (hl:l.length≤1000) (h8:a+8≤b) (h14:b≤a+14):
 ∃r,X.slices_breakPatternsCmpFunc_api_SealL (a:Int) (b:Int) g l=some r∧Rg a b l r:=by
 unfold X.slices_breakPatternsCmpFunc_api_SealL X.slices_breakPatternsCmpFunc_api_Seal
 have hd:wr ((b:Int)-(a:Int))=((b-a:Nat):Int):=wr_sbq (by omega) (by omega)
 have hq:wr (((b-a:Nat):Int).tdiv (4:Int))=(((b-a)/4:Nat):Int):=wr_div4 (by omega)
 have hm:wr ((((b-a)/4:Nat):Int)*(2:Int))=(((b-a)/4*2:Nat):Int):=wr_mlq (b:=2) (by omega)
 have ha:wr ((a:Int)+(((b-a)/4*2:Nat):Int))=((a+(b-a)/4*2:Nat):Int):=wr_adq (by omega)
 have ht:wr (((a+(b-a)/4*2:Nat):Int)+(1:Int))=((a+(b-a)/4*2+1:Nat):Int):=wr_succ (by omega)
 have hi:wr (((a+(b-a)/4*2:Nat):Int)-(1:Int))=((a+(b-a)/4*2-1:Nat):Int):=wr_sbq (a:=1) (by omega) (by omega)
 rw[hd,if_pos (by simp;omega),pow_is (by omega) (by omega),bd_s,hq,hm,ha,hi]
 obtain ⟨r,e1,e2⟩:=run_inv (f:=X.slices_breakPatternsCmpFunc_api_Seal_s13 (a:Int) (b:Int) 16) (s:=(l,u64 ((b-a:Nat):Int),((a+(b-a)/4*2-1:Nat):Int)))
  (fun s=>∃k:Nat,s.2.2=(k:Int)∧a≤k∧k≤a+(b-a)/4*2+2∧Rg a b l s.1) (Rg a b l) (fun s=>1000000-s.2.2.toNat)
  ⟨_,rfl,by omega,by omega,Rg.refl _ _ _⟩ (by simp only;omega) (by
    rintro ⟨m,c,x⟩ ⟨k,h0,h1,h2,h3⟩
    dsimp only at h0 h3
    subst h0
    have hml:=h3.len
    unfold X.slices_breakPatternsCmpFunc_api_Seal_s13
    dsimp only
    rw[hd,hq,hm,ha,ht]
    by_cases hk:k≤a+(b-a)/4*2+1
    ·left
     rw[if_pos (by simp;omega)]
     have hn:∃q,X.slices_xorshift_Next c=some q:=⟨_,rfl⟩
     obtain ⟨q,hn⟩:=hn
     rw[hn,bd_s]
     obtain ⟨n,n1,n2⟩:=and15 q.1
     rw[n1]
     have key:∀o:Nat,o<b-a→∃s',X.slices_breakPatternsCmpFunc_api_Seal_j27 m (a:Int) (k:Int) q (o:Int)=some (.inl s')∧(∃k:Nat,s'.2.2=(k:Int)∧a≤k∧k≤a+(b-a)/4*2+2∧Rg a b l s'.1)∧1000000-s'.2.2.toNat<1000000-k:=by
      intro o ho
      unfold X.slices_breakPatternsCmpFunc_api_Seal_j27
      have hao:wr ((a:Int)+(o:Int))=((a+o:Nat):Int):=wr_adq (by omega)
      rw[hao]
      rw[sw_get (i:=k) (j:=a+o) (by omega) (by omega) (fun e1 e2=>some (Sum.inl ((m.set (k:Int).toNat e1).set ((a+o:Nat):Int).toNat e2,q.2,wr ((k:Int)+1))))]
      rw[wr_succ (by omega)]
      refine ⟨_,rfl,⟨k+1,rfl,by omega,by omega,?_⟩,by simp only;omega⟩
      exact h3.trans (Rg.sw (by omega) (by omega) (by omega))
     by_cases h:(b-a:Nat)≤n
     ·rw[if_pos (by simp;omega),wr_sbq h (by omega)]
      exact key _ (by omega)
     ·rw[if_neg (by simp;omega)]
      exact key _ (by omega)
    ·right
     rw[if_neg (by simp;omega)]
     exact ⟨m,rfl,h3⟩)
 rw[e1,bd_s]
 show ∃r',(X.slices_breakPatternsCmpFunc_api_Seal_e13 r).bind _=some r'∧_
 unfold X.slices_breakPatternsCmpFunc_api_Seal_e13
 rw[bd_s,if_pos e2.len]
 exact ⟨r,rfl,e2⟩
structure Prt (a b m:Nat) (l':List Seal_api):Prop where
 am:a≤m
 mb:m<b
 lo:∀k,a≤k→k<m→Nq l' k<Nq l' m
 hi:∀k,m<k→k<b→Nq l' m≤Nq l' k
theorem prt_end {l:List Seal_api} {a b j:Nat} (hb:b≤l.length) (ha:a≤j) (hj:j<b) (h1:∀k,a<k→k≤j→Nq l k<Nq l a) (h2:∀k,j<k→k<b→Nq l a≤Nq l k):Prt a b j (swq l j a):=by
 refine ⟨ha,hj,fun k p1 p2=>?_,fun k p1 p2=>?_⟩
 ·rw[Nq_swq (by omega) (by omega),Nq_swq (by omega) (by omega)]
  rw[if_neg (show ¬j=a by omega),if_pos rfl]
  by_cases e:k=a
  ·rw[if_pos e];exact h1 j (by omega) (Nat.le_refl _)
  ·rw[if_neg e,if_neg (by omega)];exact h1 k (by omega) (by omega)
 ·rw[Nq_swq (by omega) (by omega),Nq_swq (by omega) (by omega)]
  rw[if_neg (show ¬k=a by omega),if_neg (show ¬k=j by omega)]
  by_cases e:j=a
  ·rw[if_pos e,e];exact h2 k p1 p2
  ·rw[if_neg e,if_pos rfl];exact h2 k p1 p2
section
variable {g:Seal_api→Seal_api→Option Int} (hg:∀x y,g x y=some (cq x y))
include hg
theorem q_s57 {m:List Seal_api} {a jb i:Nat} (ha:a<m.length) (hjb:jb<m.length) (hi:i≤jb+1) (hm:m.length≤1000):
 X.slices_partitionCmpFunc_api_Seal_s57 (jb:Int) m (a:Int) g (i:Int)=some (if i≤jb∧Nq m i<Nq m a then .inl ((i+1:Nat):Int) else .inr (i:Int)):=by
 unfold X.slices_partitionCmpFunc_api_Seal_s57
 dsimp only
 by_cases h:i≤jb
 ·have hd:decide ((i:Int)≤(jb:Int))=true:=by simpa using h
  rw[hd,optG_true,getI_getD zq (by omega),bd_s,optG_true,getI_getD zq ha,bd_s,optG_true,hg,bd_s,cq_lt,Bool.true_and]
  by_cases h2:(m.getD i zq).Number<(m.getD a zq).Number
  ·rw[if_pos (by simpa using h2),if_pos ⟨h,h2⟩,wr_succ (by omega)]
  ·rw[if_neg (by simpa using h2),if_neg (fun x=>h2 x.2)]
 ·have hd:decide ((i:Int)≤(jb:Int))=false:=by simp;omega
  rw[hd,optG_false,bd_s,optG_false,bd_s,optG_false,bd_s,Bool.false_and,if_neg (by decide),if_neg (fun x=>h x.1)]
theorem q_s63 {m:List Seal_api} {a ib j:Nat} (ha:a<m.length) (hj:j<m.length) (hi:1≤ib) (hm:m.length≤1000):
 X.slices_partitionCmpFunc_api_Seal_s63 (ib:Int) m (a:Int) g (j:Int)=some (if ib≤j∧¬Nq m j<Nq m a then .inl ((j-1:Nat):Int) else .inr (j:Int)):=by
 unfold X.slices_partitionCmpFunc_api_Seal_s63
 dsimp only
 by_cases h:ib≤j
 ·have hd:decide ((ib:Int)≤(j:Int))=true:=by simpa using h
  rw[hd,optG_true,getI_getD zq hj,bd_s,optG_true,getI_getD zq ha,bd_s,optG_true,hg,bd_s,cq_lt,Bool.true_and]
  by_cases h2:(m.getD j zq).Number<(m.getD a zq).Number
  ·rw[if_neg (by simpa using h2),if_neg (fun x=>x.2 h2)]
  ·rw[if_pos (by simpa using h2),if_pos ⟨h,h2⟩,show (1:Int)=((1:Nat):Int) from rfl,wr_sbq (by omega) (by omega)]
 ·have hd:decide ((ib:Int)≤(j:Int))=false:=by simp;omega
  rw[hd,optG_false,bd_s,optG_false,bd_s,optG_false,bd_s,Bool.false_and,if_neg (by decide),if_neg (fun x=>h x.1)]
omit hg in
theorem q_s15_eq {l:List Seal_api} {a p:Nat} {b:Nat} (h1:1≤b) (hb:b≤1000) (i:Int):X.slices_partitionCmpFunc_api_Seal_s15 (b:Int) l (a:Int) (l.getD p zq) (p:Int) (l.getD a zq) g i=X.slices_partitionCmpFunc_api_Seal_s57 ((b-1:Nat):Int) (swq l a p) (a:Int) g i:=by
 unfold X.slices_partitionCmpFunc_api_Seal_s15 X.slices_partitionCmpFunc_api_Seal_s57
 rw[show (1:Int)=((1:Nat):Int) from rfl,wr_sbq h1 (by omega)]
 rfl
theorem q_rnd {m:List Seal_api} {a i j:Nat} (ha:a<i) (hj:j<m.length) (hij:i≤j+1) (hm:m.length≤1000):
 ∃i' j':Nat,run (X.slices_partitionCmpFunc_api_Seal_s57 (j:Int) m (a:Int) g) (i:Int)=some (i':Int)∧run (X.slices_partitionCmpFunc_api_Seal_s63 (i':Int) m (a:Int) g) (j:Int)=some (j':Int)∧
  i≤i'∧i'≤j'+1∧j'≤j∧(∀k,i≤k→k<i'→Nq m k<Nq m a)∧(∀k,j'<k→k≤j→Nq m a≤Nq m k)∧(i'≤j'→Nq m a≤Nq m i'∧Nq m j'<Nq m a):=by
 obtain ⟨i',e1,a1,a2,a3,a4⟩:=q_up (m:=m) (V:=Nq m a) (jb:=j) (i0:=i) (f:=X.slices_partitionCmpFunc_api_Seal_s57 (j:Int) m (a:Int) g) (fun k h1 h2=>q_s57 hg (by omega) hj h1 hm) hij (by omega)
 obtain ⟨j',e2,b1,b2,b3,b4⟩:=q_dn (m:=m) (V:=Nq m a) (ib:=i') (j0:=j) (f:=X.slices_partitionCmpFunc_api_Seal_s63 (i':Int) m (a:Int) g) (fun k h1 h2=>q_s63 hg (by omega) (by omega) (by omega) hm) (by omega) (by omega) (by omega)
 exact ⟨i',j',e1,e2,a1,b2,b1,a3,b3,fun h=>⟨a4 (by omega),b4 h⟩⟩
theorem q_s42 {l m:List Seal_api} {a b i j:Nat} (hb:b≤l.length) (hl:l.length≤1000) (hr:Rg a b l m) (ha:a<i) (hij:i≤j+1) (hjb:j<b) (h1:∀k,a<k→k<i→Nq m k<Nq m a) (h2:∀k,j<k→k<b→Nq m a≤Nq m k):
 ∃(r:List Seal_api) (j':Nat),run (X.slices_partitionCmpFunc_api_Seal_s42 (a:Int) g) (m,(i:Int),(j:Int))=some (r,(j':Int))∧Rg a b l r∧a≤j'∧j'<b∧(∀k,a<k→k≤j'→Nq r k<Nq r a)∧∀k,j'<k→k<b→Nq r a≤Nq r k:=by
 obtain ⟨⟨r,x⟩,e,j',e0,e1⟩:=run_inv (f:=X.slices_partitionCmpFunc_api_Seal_s42 (a:Int) g) (s:=(m,(i:Int),(j:Int)))
  (fun s=>∃i j:Nat,s.2=((i:Int),(j:Int))∧Rg a b l s.1∧a<i∧i≤j+1∧j<b∧(∀k,a<k→k<i→Nq s.1 k<Nq s.1 a)∧∀k,j<k→k<b→Nq s.1 a≤Nq s.1 k)
  (fun r=>∃j':Nat,r.2=(j':Int)∧Rg a b l r.1∧a≤j'∧j'<b∧(∀k,a<k→k≤j'→Nq r.1 k<Nq r.1 a)∧∀k,j'<k→k<b→Nq r.1 a≤Nq r.1 k)
  (fun s=>s.2.2.toNat) ⟨i,j,rfl,hr,ha,hij,hjb,h1,h2⟩ (by simp only;omega) (by
    rintro ⟨m,x⟩ ⟨i,j,h0,hr,ha,hij,hjb,h1,h2⟩
    dsimp only at h0 hr h1 h2
    subst h0
    have hml:=hr.len
    obtain ⟨i',j',e1,e2,c1,c2,c3,c4,c5,c6⟩:=q_rnd hg (m:=m) (a:=a) (i:=i) (j:=j) ha (by omega) hij (by omega)
    have low:∀k,a<k→k<i'→Nq m k<Nq m a:=fun k k1 k2=>by
     by_cases hk:k<i
     ·exact h1 k k1 hk
     ·exact c4 k (by omega) k2
    have high:∀k,j'<k→k<b→Nq m a≤Nq m k:=fun k k1 k2=>by
     by_cases hk:k≤j
     ·exact c5 k k1 hk
     ·exact h2 k (by omega) k2
    unfold X.slices_partitionCmpFunc_api_Seal_s42
    dsimp only
    rw[e1,bd_s]
    show (∃s',X.slices_partitionCmpFunc_api_Seal_e57 m (a:Int) g (j:Int) (i':Int)=some (.inl s')∧_)∨∃r,X.slices_partitionCmpFunc_api_Seal_e57 m (a:Int) g (j:Int) (i':Int)=some (.inr r)∧_
    unfold X.slices_partitionCmpFunc_api_Seal_e57
    rw[e2,bd_s]
    show (∃s',X.slices_partitionCmpFunc_api_Seal_e63 (i':Int) m (j':Int)=some (.inl s')∧_)∨∃r,X.slices_partitionCmpFunc_api_Seal_e63 (i':Int) m (j':Int)=some (.inr r)∧_
    unfold X.slices_partitionCmpFunc_api_Seal_e63
    by_cases hgt:j'<i'
    ·right
     rw[if_pos (by simp;omega)]
     exact ⟨_,rfl,j',rfl,hr,by omega,by omega,fun k k1 k2=>low k k1 (by omega),high⟩
    ·left
     rw[if_neg (by simp;omega)]
     obtain ⟨c7,c8⟩:=c6 (by omega)
     have hne:i'≠j':=fun e=>by subst e;omega
     rw[sw_get (i:=i') (j:=j') (by omega) (by omega) (fun e1 e2=>some (Sum.inl ((m.set (i':Int).toNat e1).set (j':Int).toNat e2,wr ((i':Int)+1),wr ((j':Int)-1))))]
     rw[wr_succ (by omega),show (1:Int)=((1:Nat):Int) from rfl,wr_sbq (by omega) (by omega)]
     refine ⟨_,rfl,⟨i'+1,j'-1,rfl,hr.trans (Rg.sw (by omega) (by omega) (by omega)),by omega,by omega,by omega,fun k k1 k2=>?_,fun k k1 k2=>?_⟩,by simp only;omega⟩
     ·show Nq (swq m i' j') k<Nq (swq m i' j') a
      rw[Nq_swq (by omega) (by omega),Nq_swq (by omega) (by omega),if_neg (by omega),if_neg (show ¬a=j' by omega),if_neg (show ¬a=i' by omega)]
      by_cases e:k=i'
      ·rw[if_pos e];exact c8
      ·rw[if_neg e];exact low k k1 (by omega)
     ·show Nq (swq m i' j') a≤Nq (swq m i' j') k
      rw[Nq_swq (by omega) (by omega),Nq_swq (by omega) (by omega),if_neg (show ¬a=j' by omega),if_neg (show ¬a=i' by omega)]
      by_cases e:k=j'
      ·rw[if_pos e];exact c7
      ·rw[if_neg e,if_neg (by omega)];exact high k (by omega) k2)
 dsimp only at e0 e1
 subst e0
 exact ⟨r,j',e,e1⟩
theorem q_part {l:List Seal_api} {a b p:Nat} (hb:b≤l.length) (hl:l.length≤1000) (hab:a+1<b) (hp:a≤p) (hpb:p<b):
 ∃(m:Nat) (t:Bool) (r:List Seal_api),X.slices_partitionCmpFunc_api_SealL (a:Int) (b:Int) (p:Int) g l=some ((m:Int),t,r)∧Rg a b l r∧Prt a b m r:=by
 have key:∃(m:Nat) (t:Bool) (r:List Seal_api),X.slices_partitionCmpFunc_api_Seal (a:Int) (b:Int) (p:Int) g l=some ((m:Int),t,r)∧Rg a b l r∧Prt a b m r:=by
  have hr1:Rg a b l (swq l a p):=Rg.sw hb (by omega) (by omega)
  have hl1:=hr1.len
  obtain ⟨i',j',e1,e2,c1,c2,c3,c4,c5,c6⟩:=q_rnd hg (m:=swq l a p) (a:=a) (i:=a+1) (j:=b-1) (by omega) (by omega) (by omega) (by omega)
  have f1:run (X.slices_partitionCmpFunc_api_Seal_s15 (b:Int) l (a:Int) (l.getD p zq) (p:Int) (l.getD a zq) g) ((a+1:Nat):Int)=some (i':Int):=by
   rw[show X.slices_partitionCmpFunc_api_Seal_s15 (b:Int) l (a:Int) (l.getD p zq) (p:Int) (l.getD a zq) g=X.slices_partitionCmpFunc_api_Seal_s57 ((b-1:Nat):Int) (swq l a p) (a:Int) g from funext fun i=>q_s15_eq (by omega) (by omega) i]
   exact e1
  have f2:run (X.slices_partitionCmpFunc_api_Seal_s21 (i':Int) l (a:Int) (l.getD p zq) (p:Int) (l.getD a zq) g) ((b-1:Nat):Int)=some (j':Int):=e2
  unfold X.slices_partitionCmpFunc_api_Seal
  rw[getI_getD zq (by omega),bd_s,getI_getD zq (by omega),bd_s,bd_s,Int.toNat_natCast,getI_getD zq (by simp;omega),bd_s,wr_succ (by omega),f1,bd_s]
  show ∃m t r,X.slices_partitionCmpFunc_api_Seal_e15 l (a:Int) (l.getD p zq) (p:Int) (l.getD a zq) g (b:Int) (i':Int)=_∧_
  unfold X.slices_partitionCmpFunc_api_Seal_e15
  rw[show (1:Int)=((1:Nat):Int) from rfl,wr_sbq (by omega) (by omega),f2,bd_s]
  show ∃m t r,X.slices_partitionCmpFunc_api_Seal_e21 (i':Int) l (a:Int) (l.getD p zq) (p:Int) (l.getD a zq) g (j':Int)=_∧_
  unfold X.slices_partitionCmpFunc_api_Seal_e21
  rw[show (l.set (a:Int).toNat (l.getD p zq)).set (p:Int).toNat (l.getD a zq)=swq l a p from rfl]
  by_cases hgt:j'<i'
  ·rw[if_pos (by simp;omega),sw_get (i:=j') (j:=a) (by omega) (by omega) (fun e1 e2=>some ((j':Int),true,((swq l a p).set (j':Int).toNat e1).set (a:Int).toNat e2))]
   exact ⟨j',true,_,rfl,hr1.trans (Rg.sw (by omega) (by omega) (by omega)),prt_end (by omega) (by omega) (by omega) (fun k k1 k2=>c4 k (by omega) (by omega)) (fun k k1 k2=>c5 k k1 (by omega))⟩
  ·rw[if_neg (by simp;omega)]
   obtain ⟨c7,c8⟩:=c6 (by omega)
   have hne:i'≠j':=fun e=>by subst e;omega
   rw[sw_get (i:=i') (j:=j') (by omega) (by omega) (fun x1 x2=>(run (X.slices_partitionCmpFunc_api_Seal_s42 (a:Int) g) (((swq l a p).set (i':Int).toNat x1).set (j':Int).toNat x2,wr ((i':Int)+(1:Int)),wr ((j':Int)-(1:Int)))).bind fun o42=>match o42 with|(l48,j49)=>X.slices_partitionCmpFunc_api_Seal_e42 (a:Int) l48 j49)]
   rw[wr_succ (by omega),show (1:Int)=((1:Nat):Int) from rfl,wr_sbq (by omega) (by omega)]
   obtain ⟨r,j2,g1,g2,g3,g4,g5,g6⟩:=q_s42 hg (l:=l) (m:=swq (swq l a p) i' j') (a:=a) (b:=b) (i:=i'+1) (j:=j'-1) hb hl (hr1.trans (Rg.sw (by omega) (by omega) (by omega))) (by omega) (by omega) (by omega)
    (fun k k1 k2=>by
      rw[Nq_swq (l:=swq l a p) (i:=i') (j:=j') (k:=k) (by omega) (by omega),Nq_swq (l:=swq l a p) (i:=i') (j:=j') (k:=a) (by omega) (by omega),if_neg (by omega),if_neg (show ¬a=j' by omega),if_neg (show ¬a=i' by omega)]
      by_cases e:k=i'
      ·rw[if_pos e];exact c8
      ·rw[if_neg e];exact c4 k (by omega) (by omega))
    (fun k k1 k2=>by
      rw[Nq_swq (l:=swq l a p) (i:=i') (j:=j') (k:=k) (by omega) (by omega),Nq_swq (l:=swq l a p) (i:=i') (j:=j') (k:=a) (by omega) (by omega),if_neg (show ¬a=j' by omega),if_neg (show ¬a=i' by omega)]
      by_cases e:k=j'
      ·rw[if_pos e];exact c7
      ·rw[if_neg e,if_neg (by omega)];exact c5 k (by omega) (by omega))
   have g1':run (X.slices_partitionCmpFunc_api_Seal_s42 (a:Int) g) (((swq l a p).set (i':Int).toNat ((swq l a p).getD j' zq)).set (j':Int).toNat ((swq l a p).getD i' zq),((i'+1:Nat):Int),((j'-1:Nat):Int))=some (r,(j2:Int)):=g1
   rw[g1',bd_s]
   have hrl:=g2.len
   show ∃m t r',X.slices_partitionCmpFunc_api_Seal_e42 (a:Int) r (j2:Int)=_∧_
   unfold X.slices_partitionCmpFunc_api_Seal_e42
   rw[sw_get (i:=j2) (j:=a) (by omega) (by omega) (fun e1 e2=>some ((j2:Int),false,(r.set (j2:Int).toNat e1).set (a:Int).toNat e2))]
   exact ⟨j2,false,_,rfl,g2.trans (Rg.sw (by omega) (by omega) (by omega)),prt_end (by omega) (by omega) (by omega) g5 g6⟩
 obtain ⟨m,t,r,e,h1,h2⟩:=key
 unfold X.slices_partitionCmpFunc_api_SealL
 rw[e,bd_s]
 exact ⟨m,t,r,by rw[if_pos h1.len],h1,h2⟩
end
theorem Rg.at {a b:Nat} {l r:List Seal_api} (h:Rg a b l r) (k:Nat):∃k',Nq r k=Nq l k'∧(((k<a∨b≤k)∧k'=k)∨(a≤k∧k<b∧a≤k'∧k'<b)):=by
 by_cases hk:a≤k∧k<b
 ·obtain ⟨k',h1,h2,h3⟩:=h.ins k hk.1 hk.2
  exact ⟨k',h3,.inr ⟨hk.1,hk.2,h1,h2⟩⟩
 ·exact ⟨k,h.out k (by omega),.inl ⟨by omega,rfl⟩⟩
def Ord (n a b:Nat) (m:List Seal_api):Prop:=∀p q,p<q→q<n→(p<a∨b≤q)→Nq m p≤Nq m q
theorem Ord.rg {n a b:Nat} {m r:List Seal_api} (h:Ord n a b m) (hr:Rg a b m r) (hb:b≤n):Ord n a b r:=by
 intro p q h1 h2 h3
 obtain ⟨p',e1,o1⟩:=hr.at p
 obtain ⟨q',e2,o2⟩:=hr.at q
 rw[e1,e2]
 exact h p' q' (by omega) (by omega) (by omega)
theorem Ord.fin {n a b:Nat} {m:List Seal_api} (h:Ord n a b m) (hs:∀p q,a≤p→p<q→q<b→Nq m p≤Nq m q):∀p q,p<q→q<n→Nq m p≤Nq m q:=by
 intro p q h1 h2
 by_cases h3:p<a∨b≤q
 ·exact h p q h1 h2 h3
 ·exact hs p q (by omega) h1 (by omega)
theorem Ord.left {n a b mid:Nat} {l1 l2:List Seal_api} (h:Ord n a b l1) (hb:b≤n) (hp:Prt a b mid l1) (hr:Rg a mid l1 l2) (hs:∀p q,a≤p→p<q→q<mid→Nq l2 p≤Nq l2 q):Ord n (mid+1) b l2:=by
 have hp1:=hp.am
 have hp2:=hp.mb
 intro p q h1 h2 h3
 by_cases h4:p<a∨b≤q
 ·exact h.rg (hr.mono (Nat.le_refl _) (by omega)) hb p q h1 h2 h4
 ·by_cases h5:q<mid
  ·exact hs p q (by omega) h1 h5
  ·have hm:Nq l2 mid=Nq l1 mid:=hr.out mid (by omega)
   have hq:Nq l1 mid≤Nq l2 q:=by
    rw[hr.out q (by omega)]
    by_cases e:q=mid
    ·rw[e];exact Int.le_refl _
    ·exact hp.hi q (by omega) (by omega)
   by_cases e:p=mid
   ·rw[e,hm];exact hq
   ·obtain ⟨p',e1,o1⟩:=hr.at p
    rw[e1]
    exact Int.le_trans (Int.le_of_lt (hp.lo p' (by omega) (by omega))) hq
theorem Ord.right {n a b mid:Nat} {l1 l2:List Seal_api} (h:Ord n a b l1) (hb:b≤n) (hp:Prt a b mid l1) (hr:Rg (mid+1) b l1 l2) (hs:∀p q,mid+1≤p→p<q→q<b→Nq l2 p≤Nq l2 q):Ord n a mid l2:=by
 have hp1:=hp.am
 have hp2:=hp.mb
 intro p q h1 h2 h3
 by_cases h4:p<a∨b≤q
 ·exact h.rg (hr.mono (by omega) (Nat.le_refl _)) hb p q h1 h2 h4
 ·by_cases h5:mid<p
  ·exact hs p q (by omega) h1 (by omega)
  ·have hm:Nq l2 mid=Nq l1 mid:=hr.out mid (by omega)
   have hq:Nq l2 p≤Nq l1 mid:=by
    rw[hr.out p (by omega)]
    by_cases e:p=mid
    ·rw[e];exact Int.le_refl _
    ·exact Int.le_of_lt (hp.lo p (by omega) (by omega))
   by_cases e:q=mid
   ·rw[e,hm];exact hq
   ·obtain ⟨q',e1,o1⟩:=hr.at q
    rw[e1]
    exact Int.le_trans hq (hp.hi q' (by omega) (by omega))
def Dst (l:List Seal_api):Prop:=l.Pairwise fun a b=>a.Number≠b.Number
theorem Dst.perm {l m:List Seal_api} (h:Dst l) (hp:m.Perm l):Dst m:=(hp.pairwise_iff fun {_ _} hxy=>Ne.symm hxy).2 h
theorem Dst.at {l:List Seal_api} (h:Dst l) {p q:Nat} (h1:p<q) (h2:q<l.length):Nq l p≠Nq l q:=by
 unfold Nq
 rw[getD_q (by omega),getD_q h2]
 exact List.pairwise_iff_getElem.1 h p q (by omega) h2 h1
section
variable {g:Seal_api→Seal_api→Option Int} (hg:∀x y,g x y=some (cq x y))
include hg
theorem q_0L {l:List Seal_api} {a b:Nat} (lim:Int) (hb:b≤l.length) (hl:l.length≤1000) (hab:a≤b) (h12:b≤a+12):
 ∃r,X.slices_pdqsortCmpFunc_api_Seal_0L (a:Int) (b:Int) lim g l=some r∧Rg a b l r∧∀p q,a≤p→p<q→q<b→Nq r p≤Nq r q:=by
 obtain ⟨r,e1,e2,e3⟩:=q_ins hg hb hl hab
 unfold X.slices_pdqsortCmpFunc_api_Seal_0L X.slices_pdqsortCmpFunc_api_Seal_0
 rw[wr_sbq hab (by omega),if_pos (by simp;omega),e1,bd_s,bd_s,if_pos e2.len]
 exact ⟨r,rfl,e2,e3⟩
def InvQ (l0:List Seal_api) (s:List Seal_api×Int×Int×Int×Bool×Bool):Prop:=
 ∃a b:Nat,s.2.1=(a:Int)∧s.2.2.1=(b:Int)∧a≤b∧b≤l0.length∧s.1.Perm l0∧Ord l0.length a b s.1∧(b:Int)-a-10≤s.2.2.2.1∧s.2.2.2.1≤1000
def mQ (s:List Seal_api×Int×Int×Int×Bool×Bool):Nat:=(s.2.2.1-s.2.1).toNat
def FinQ (l0 r:List Seal_api):Prop:=r.Perm l0∧∀p q,p<q→q<l0.length→Nq r p≤Nq r q
theorem q_j34 {l0 m:List Seal_api} {a b p:Nat} {lim h:Int} (hn:l0.length≤14) (hd:Dst l0) (hb:b≤l0.length) (hab:a+13≤b) (hm:m.Perm l0) (ho:Ord l0.length a b m) (hp:a≤p) (hpb:p<b) (hlim:(b:Int)-a-11≤lim) (hlm:lim≤1000):
 ∃s',X.slices_pdqsortCmpFunc_api_Seal_j34 (a:Int) ((p:Int),h) g (b:Int) lim m=some (.inl s')∧InvQ l0 s'∧mQ s'<b-a:=by
 have hml:=hm.length_eq
 unfold X.slices_pdqsortCmpFunc_api_Seal_j34
 dsimp only
 have hfalse:∃e1 e2 r,optG (decide ((a:Int)>(0:Int))) (getI m (wr ((a:Int)-(1:Int))))=some e1∧optG (decide ((a:Int)>(0:Int))) (getI m (p:Int))=some e2∧optG (decide ((a:Int)>(0:Int))) (g e1 e2)=some r∧(decide ((a:Int)>(0:Int))&& !decide (r<(0:Int)))=false:=by
  by_cases ha:0<a
  ·have hdt:decide ((a:Int)>(0:Int))=true:=by simpa using ha
   have hw:wr ((a:Int)-(1:Int))=((a-1:Nat):Int):=wr_sbq (a:=1) (by omega) (by omega)
   refine ⟨m.getD (a-1) zq,m.getD p zq,cq (m.getD (a-1) zq) (m.getD p zq),?_,?_,?_,?_⟩
   ·rw[hdt,optG_true,hw,getI_getD zq (by omega)]
   ·rw[hdt,optG_true,getI_getD zq (by omega)]
   ·rw[hdt,optG_true,hg]
   ·rw[hdt,cq_lt,Bool.true_and]
    have h1:Nq m (a-1)≤Nq m p:=ho (a-1) p (by omega) (by omega) (.inl (by omega))
    have h2:Nq m (a-1)≠Nq m p:=(hd.perm hm).at (by omega) (by omega)
    have h3:Nq m (a-1)<Nq m p:=by omega
    have h4:decide ((m.getD (a-1) zq).Number<(m.getD p zq).Number)=true:=by simpa[Nq] using h3
    rw[h4];rfl
  ·have hdt:decide ((a:Int)>(0:Int))=false:=by simpa using ha
   rw[hdt]
   exact ⟨_,_,_,rfl,rfl,rfl,rfl⟩
 obtain ⟨e1,e2,r,f1,f2,f3,f4⟩:=hfalse
 rw[f1,bd_s,f2,bd_s,f3,bd_s,f4,if_neg (by decide)]
 obtain ⟨mid,t,l1,g1,g2,g3⟩:=q_part hg (l:=m) (a:=a) (b:=b) (p:=p) (by omega) (by omega) (by omega) hp hpb
 have hl1:=g2.len
 have h3a:=g3.am
 have h3b:=g3.mb
 have ho1:Ord l0.length a b l1:=ho.rg g2 hb
 rw[g1,bd_s]
 dsimp only
 rw[wr_sbq h3a (by omega),wr_sbq (Nat.le_of_lt h3b) (by omega)]
 by_cases hc:mid-a<b-mid
 ·rw[if_pos (by simp;omega)]
  obtain ⟨l2,k1,k2,k3⟩:=q_0L hg (l:=l1) (a:=a) (b:=mid) lim (by omega) (by omega) h3a (by omega)
  rw[k1,bd_s,wr_succ (by omega)]
  refine ⟨_,rfl,⟨mid+1,b,rfl,rfl,by omega,hb,k2.pm.trans (g2.pm.trans hm),ho1.left hb g3 k2 k3,?_⟩,?_⟩
  ·show (b:Int)-((mid+1:Nat):Int)-10≤lim∧lim≤1000
   omega
  ·show ((b:Int)-((mid+1:Nat):Int)).toNat<b-a
   omega
 ·rw[if_neg (by simp;omega)]
  rw[wr_succ (by omega)]
  obtain ⟨l2,k1,k2,k3⟩:=q_0L hg (l:=l1) (a:=mid+1) (b:=b) lim (by omega) (by omega) (by omega) (by omega)
  rw[k1,bd_s]
  refine ⟨_,rfl,⟨a,mid,rfl,rfl,by omega,by omega,k2.pm.trans (g2.pm.trans hm),ho1.right hb g3 k2 k3,?_⟩,?_⟩
  ·show (mid:Int)-(a:Int)-10≤lim∧lim≤1000
   omega
  ·show ((mid:Int)-(a:Int)).toNat<b-a
   omega
theorem q_j25 {l0 m:List Seal_api} {a b:Nat} {lim:Int} (x y:Bool) (hn:l0.length≤14) (hd:Dst l0) (hb:b≤l0.length) (hab:a+13≤b) (hm:m.Perm l0) (ho:Ord l0.length a b m) (hlim:(b:Int)-a-11≤lim) (hlm:lim≤1000):
 (∃s',X.slices_pdqsortCmpFunc_api_Seal_j25 (a:Int) (b:Int) g x y m lim=some (.inl s')∧InvQ l0 s'∧mQ s'<b-a)∨∃r,X.slices_pdqsortCmpFunc_api_Seal_j25 (a:Int) (b:Int) g x y m lim=some (.inr r)∧FinQ l0 r:=by
 have hml:=hm.length_eq
 obtain ⟨p,h,e1,h1,h2,h3⟩:=q_piv hg (l:=m) (a:=a) (b:=b) (by omega) (by omega) (by omega) (by omega)
 unfold X.slices_pdqsortCmpFunc_api_Seal_j25
 rw[e1,bd_s]
 dsimp only
 rw[h3,if_neg (by decide)]
 by_cases hc:(x&&y&&h==1)=true
 ·rw[if_pos hc]
  obtain ⟨t,k1,k2⟩:=q_pis hg (l:=m) (a:=a) (b:=b) (by omega) (by omega) (by omega) (by omega)
  rw[k1,bd_s]
  dsimp only
  cases t with
  |true=>
   right
   rw[if_pos rfl]
   exact ⟨m,rfl,hm,ho.fin (k2 rfl)⟩
  |false=>
   left
   rw[if_neg (by decide)]
   exact q_j34 hg hn hd hb hab hm ho h1 h2 hlim hlm
 ·rw[if_neg hc]
  left
  exact q_j34 hg hn hd hb hab hm ho h1 h2 hlim hlm
theorem q_pdq {l:List Seal_api} (hn:l.length≤14) (hd:Dst l) {lim:Int} (hlim:(l.length:Int)-10≤lim) (hlm:lim≤1000):
 ∃r,X.slices_pdqsortCmpFunc_api_Seal (0:Int) (l.length:Int) lim g l=some r∧FinQ l r:=by
 unfold X.slices_pdqsortCmpFunc_api_Seal
 obtain ⟨r,e1,e2⟩:=run_inv (f:=X.slices_pdqsortCmpFunc_api_Seal_s9 g) (s:=(l,(0:Int),(l.length:Int),lim,true,true)) (InvQ l) (FinQ l) mQ
  ⟨0,l.length,rfl,rfl,by omega,Nat.le_refl _,.refl _,fun p q h1 h2 h3=>by omega,by simp only;omega⟩ (by simp only[mQ];omega) (by
    rintro ⟨m,a,b,lim,x,y⟩ ⟨a',b',h1,h2,hab,hb,hm,ho,hlim,hlm⟩
    dsimp only at h1 h2 hm ho hlim hlm
    subst h1 h2
    have hml:=hm.length_eq
    have hms:mQ (m,(a':Int),(b':Int),lim,x,y)=b'-a':=by simp only[mQ];omega
    rw[hms]
    unfold X.slices_pdqsortCmpFunc_api_Seal_s9
    dsimp only
    rw[wr_sbq hab (by omega)]
    by_cases h12:b'-a'≤12
    ·right
     rw[if_pos (by simp;omega)]
     obtain ⟨r,k1,k2,k3⟩:=q_ins hg (l:=m) (a:=a') (b:=b') (by omega) (by omega) hab
     rw[k1,bd_s]
     exact ⟨r,rfl,k2.pm.trans hm,(ho.rg k2 hb).fin k3⟩
    ·rw[if_neg (by simp;omega)]
     have hl0:(lim==0)=false:=by simp;omega
     rw[hl0,if_neg (by decide)]
     cases x with
     |true=>
      rw[Bool.not_true,if_neg (by decide)]
      exact q_j25 hg true y hn hd hb (by omega) hm ho (by omega) hlm
     |false=>
      rw[Bool.not_false,if_pos rfl]
      obtain ⟨r,k1,k2⟩:=q_brk (g:=g) (l:=m) (a:=a') (b:=b') (by omega) (by omega) (by omega) (by omega)
      rw[k1,bd_s,show (1:Int)=((1:Nat):Int) from rfl]
      rw[wr_id (x:=lim-((1:Nat):Int)) (by omega) (by omega)]
      exact q_j25 hg false y hn hd hb (by omega) (k2.pm.trans hm) (ho.rg k2 hb) (by omega) (by omega))
 exact ⟨r,by rw[e1,bd_s],e2⟩
end
def SLe (a b:Seal_api):Prop:=a.Number≤b.Number
theorem c_cmp (a b:Seal_api):X.group_Find_c2 a b=some (cq a b):=by
 unfold X.group_Find_c2 X.cmp_Compare_int X.cmp_isNaN_int cq
 rw[bd_s,bd_s,bne_self_eq_false,bne_self_eq_false,if_neg (by decide),if_neg (by decide)]
 by_cases h:a.Number<b.Number
 ·rw[if_pos (by simpa using h),bd_s,if_pos h]
 ·rw[if_neg (by simpa using h),if_neg h]
  by_cases h':a.Number>b.Number
  ·rw[if_pos (by simpa using h'),bd_s,if_pos h']
  ·rw[if_neg (by simpa using h'),bd_s,if_neg h']
set_option maxRecDepth 100000 in
theorem len_all:((List.range 15).all fun n=>match X.math_bits_Len (u64 (n:Int)) with|some b=>decide ((n:Int)-10≤b)&&decide (b≤1000)|none=>false)=true:=by decide+kernel
theorem len_is {n:Nat} (h:n≤14):∃b,X.math_bits_Len (u64 (n:Int))=some b∧(n:Int)-10≤b∧b≤1000:=by
 have h1:=List.all_eq_true.1 len_all n (List.mem_range.2 (by omega))
 cases hb:X.math_bits_Len (u64 (n:Int)) with
 |none=>rw[hb] at h1;cases h1
 |some b=>
  rw[hb] at h1
  simp only[Bool.and_eq_true,decide_eq_true_eq] at h1
  exact ⟨b,rfl,h1⟩
theorem x_sort (l:List Seal_api) (hl:l.length≤14) (hd:Dst l):
 ∃r,X.slices_SortFunc_Lapi_Seal_api_SealL (fun a1 a2=>X.group_Find_c2 a1 a2) l=some r∧r.Perm l∧r.Pairwise SLe:=by
 obtain ⟨b,hb,b1,b2⟩:=len_is hl
 obtain ⟨r,e1,e2,e3⟩:=q_pdq (g:=fun a1 a2=>X.group_Find_c2 a1 a2) (fun x y=>c_cmp x y) hl hd b1 b2
 unfold X.slices_SortFunc_Lapi_Seal_api_SealL X.slices_SortFunc_Lapi_Seal_api_Seal
 rw[hb,bd_s,e1,bd_s,bd_s,if_pos e2.length_eq]
 refine ⟨r,rfl,e2,List.pairwise_iff_getElem.2 fun p q hp hq hpq=>?_⟩
 have:=e3 p q hpq (by rw[←e2.length_eq];exact hq)
 unfold Nq at this
 rwa [getD_q hp,getD_q hq] at this
end Go.AX
namespace Go.AX
open Go.AM
set_option linter.unusedSimpArgs false
set_option linter.unusedVariables false
def fst1 (out:List Seal_api) (t:Tape_api) (q:Seal_api×Bool):List Seal_api:=
 if q.2=true∧getI q.1.Labels q.1.Index=some t.Label∧out.any (fun x=>x.Number==q.1.Number)=false then out++[q.1] else out
theorem c_anyS {l:List Seal_api} {g:Seal_api→Option Bool} (p:Seal_api→Bool) (hl:l.length≤1000) (hg:∀t∈l,g t=some (p t)):X.slices_ContainsFunc_Lapi_Seal_api_Seal l g=some (l.any p):=by
 unfold X.slices_ContainsFunc_Lapi_Seal_api_Seal X.slices_IndexFunc_Lapi_Seal_api_Seal
 obtain ⟨r,h1,h2⟩:=run_se (f:=X.slices_IndexFunc_Lapi_Seal_api_Seal_s6 l g) (a:=0) (n:=l.length)
  (fun r=>(match r with| .inl _=>l.any p=false| .inr x=>0≤x∧l.any p=true))
  (fun k=>(l.take k).any p=false) (Nat.zero_le _) (by omega) rfl (fun k _ hk hI=>by
    unfold X.slices_IndexFunc_Lapi_Seal_api_Seal_s6
    dsimp only
    rw[if_pos (by simp;omega),getI_nat hk,bd_s,hg _ (List.getElem_mem hk),bd_s]
    cases h0:p l[k] with
    |false=>
     left
     rw[if_neg (by decide),wr_succ (by omega)]
     refine ⟨rfl,?_⟩
     rw[List.take_add_one,List.getElem?_eq_getElem hk,List.any_append,hI]
     simp[h0]
    |true=>
     right
     rw[if_pos rfl]
     refine ⟨_,rfl,by omega,?_⟩
     rw[List.any_eq_true]
     exact ⟨_,List.getElem_mem hk,h0⟩) (fun hI=>by
    unfold X.slices_IndexFunc_Lapi_Seal_api_Seal_s6
    dsimp only
    rw[if_neg (by simp)]
    refine ⟨_,rfl,?_⟩
    rw[List.take_length] at hI
    exact hI)
 rw[show ((0:Nat):Int)=0 from rfl] at h1
 rw[h1,bd_s]
 cases r with
 |inl u=>
  dsimp only at h2 ⊢
  unfold X.slices_IndexFunc_Lapi_Seal_api_Seal_e6
  rw[bd_s,h2]
  rfl
 |inr x=>
  dsimp only at h2 ⊢
  rw[bd_s,h2.2]
  have:decide (x≥0)=true:=by simp;exact h2.1
  rw[this]
theorem fst1_len {out:List Seal_api} {t:Tape_api} {q:Seal_api×Bool}:(fst1 out t q).length≤out.length+1:=by
 unfold fst1
 split<;>simp
def fndG (Q:Nat→Seal_api×Bool) (l:List Tape_api):Nat→List Seal_api
 |0=>[]
 |i+1=>fst1 (fndG Q l i) (tp l i) (Q i)
theorem fndG_len {Q:Nat→Seal_api×Bool} {l:List Tape_api}:∀i,(fndG Q l i).length≤i
 |0=>by simp[fndG]
 |i+1=>by
  have:=fndG_len (Q:=Q) (l:=l) i
  have h2:=fst1_len (out:=fndG Q l i) (t:=tp l i) (q:=Q i)
  show (fst1 _ _ _).length≤_
  omega
theorem c_find0 {Q:Nat→Seal_api×Bool} {l:List Tape_api} (hl:l.length≤100) (hq:∀i,i<l.length→X.volume_Sealed (tp l i)=some (Q i)∧((Q i).2=true→∃e,getI (Q i).1.Labels (Q i).1.Index=some e)) (hs:∃r,X.slices_SortFunc_Lapi_Seal_api_SealL (fun a1 a2=>X.group_Find_c2 a1 a2) (fndG Q l l.length)=some r∧r.Perm (fndG Q l l.length)∧r.Pairwise SLe):
 ∃r,X.group_Find l=some r∧r.Perm (fndG Q l l.length)∧r.Pairwise SLe:=by
 unfold X.group_Find
 have key:run (X.group_Find_s7 l) (([]:List Seal_api),(0:Int))=some (fndG Q l l.length):=by
  refine run_G0 (fndG Q l) (n:=l.length) (by omega) rfl (fun i hi=>?_) ?_
  ·obtain ⟨q1,q2⟩:=hq i hi
   have hlen:=fndG_len (Q:=Q) (l:=l) i
   unfold X.group_Find_s7
   dsimp only
   rw[if_pos (by simp;omega),getI_tp hi,bd_s,q1,bd_s,wr_succ (by omega)]
   rw[show fndG Q l (i+1)=fst1 (fndG Q l i) (tp l i) (Q i) from rfl]
   unfold fst1
   cases hok:(Q i).2 with
   |false=>
    rw[Bool.not_false,Bool.not_true,optG_false,bd_s,Bool.true_or,Bool.not_true,optG_false,bd_s,Bool.true_or,if_pos rfl,if_neg (by simp)]
   |true=>
    obtain ⟨e,he⟩:=q2 hok
    rw[Bool.not_true,Bool.not_false,optG_true,he,bd_s,Bool.false_or]
    by_cases hL:e=(tp l i).Label
    ·have hne:(e !=(tp l i).Label)=false:=by simp[hL]
     have hc:X.slices_ContainsFunc_Lapi_Seal_api_Seal (fndG Q l i) (fun a1=>X.group_Find_c1 a1 (Q i).1.Number (Q i).1.Index (Q i).1.Data (Q i).1.Parity (Q i).1.Labels)=some ((fndG Q l i).any fun x=>x.Number==(Q i).1.Number):=c_anyS _ (by omega) fun t _=>rfl
     rw[hne,Bool.not_false,optG_true,hc,bd_s,Bool.false_or]
     cases ha:(fndG Q l i).any fun x=>x.Number==(Q i).1.Number with
     |true=>rw[if_pos rfl,if_neg (by simp)]
     |false=>rw[if_neg (by decide),need_is (by simp;omega),bd_s,if_pos ⟨rfl,by rw[hL],rfl⟩]
    ·have hne:(e !=(tp l i).Label)=true:=by simp[hL]
     rw[hne,Bool.not_true,optG_false,bd_s,Bool.true_or,if_pos rfl,if_neg (fun h=>hL (Option.some.inj h.2.1))]
  ·unfold X.group_Find_s7
   dsimp only
   rw[if_neg (by simp)]
 rw[key,bd_s]
 show ∃r,X.group_Find_e7 _=some r∧_
 unfold X.group_Find_e7
 obtain ⟨r,e1,e2,e3⟩:=hs
 exact ⟨r,by rw[e1,bd_s],e2,e3⟩
theorem x_CloneI {s:List Int} (h:s.length≤1000000):X.slices_Clone_Lint_int s=some s:=by
 unfold X.slices_Clone_Lint_int
 refine nilU_same (fun hs=>by subst hs;rfl) ?_
 rw[if_neg (by decide),need_is (by omega),bd_s]
theorem c_of {l:List Seal_api} {x:Int} (hl:l.length≤1000) (hL:∀s∈l,s.Labels.length≤1000):
 X.group_Of l x=some (match l.find? (fun s=>decide (x∈s.Labels)) with|some s=>(s,true)|none=>(⟨0,0,0,0,[]⟩,false)):=by
 unfold X.group_Of
 have key:run (X.group_Of_s7 l x) (0:Int)=some (match l.find? (fun s=>decide (x∈s.Labels)) with|some s=> .inr (s,true)|none=> .inl ()):=by
  refine run_seE (a:=0) (fun k=>∀j,(hj:j<l.length)→j<k→x∉l[j].Labels) (n:=l.length) (Nat.zero_le _) (by omega) (fun j _ h=>by omega) (fun k _ hk hI=>?_) (fun hI=>?_)
  ·unfold X.group_Of_s7
   dsimp only
   have hm:=hL _ (List.getElem_mem hk)
   rw[if_pos (by simp;omega),getI_nat hk,bd_s,contains_is (by omega),bd_s,wr_succ (by omega)]
   by_cases h:x∈l[k].Labels
   ·right
    have hf:l.find? (fun s=>decide (x∈s.Labels))=some l[k]:=by
     rw[List.find?_eq_some_iff_getElem]
     exact ⟨by simpa using h,k,hk,rfl,fun j hj=>by simpa using hI j (by omega) hj⟩
    rw[if_pos (by simpa using h),x_CloneI (by omega),bd_s,hf]
   ·left
    rw[if_neg (by simpa using h)]
    refine ⟨rfl,fun j hj hjk=>?_⟩
    rcases Nat.lt_succ_iff_lt_or_eq.1 hjk with h2|rfl
    ·exact hI j hj h2
    ·exact h
  ·unfold X.group_Of_s7
   dsimp only
   rw[if_neg (by simp)]
   have hf:l.find? (fun s=>decide (x∈s.Labels))=none:=by
    rw[List.find?_eq_none]
    intro s hs
    obtain ⟨j,hj,rfl⟩:=List.getElem_of_mem hs
    simpa using hI j hj hj
   rw[hf]
 rw[key,bd_s]
 cases l.find? (fun s=>decide (x∈s.Labels)) with
 |none=>rfl
 |some s=>rfl
end Go.AX
namespace Go.AX
open Go.AM
set_option linter.unusedSimpArgs false
set_option linter.unusedVariables false
theorem c_sealed2 {t:Tape_api} (hb:∀b∈t.Blocks,b.length≤100000) (hl:t.Blocks.length≤1000000):
 ∃q,X.volume_Sealed t=some q∧X.cartridgeref10_Sealed t=some q∧(q.2=true→RSl q.1):=by
 unfold X.volume_Sealed X.cartridgeref10_Sealed
 rw[c_good _ _ hb,bd_s,y_good _ _ hb,bd_s]
 generalize hg:goodF t (wr ((t.Blocks.length:Int)-1))=u
 by_cases hc:(!u.2||u.1.Kind !=5)=true
 ·rw[if_pos hc,if_pos hc]
  exact ⟨_,rfl,rfl,fun h=>by cases h⟩
 ·rw[if_neg hc,if_neg hc]
  have hu:u.2=true:=by
   cases h:u.2 with
   |true=>rfl
   |false=>rw[h] at hc;simp at hc
  have hlen:u.1.Load.length≤100000:=by
   unfold goodF at hg
   split at hg
   ·cases hgu:getU (t.Blocks.getD (wr ((t.Blocks.length:Int)-1)).toNat []) with
    |none=>rw[hgu] at hg;subst hg;cases hu
    |some v=>
     rw[hgu] at hg
     dsimp only at hg
     split at hg
     ·subst hg
      have h1:=(of_get hgu).2.1
      have h2:=room_le v.Kind
      simp only
      omega
     ·subst hg;cases hu
   ·subst hg;cases hu
  obtain ⟨r,h1,h2⟩:=x_sread u.1.Load hlen
  obtain ⟨r',h3,h4⟩:=y_sread u.1.Load
  have hrr:=Rd_uniq h4 h2
  subst hrr
  rw[h1,bd_s,h3,bd_s]
  refine ⟨_,rfl,rfl,fun h=>?_⟩
  dsimp only at h ⊢
  rcases h2 with ⟨s,hs,e⟩|⟨_,e⟩
  ·rw[e];exact hs.1
  ·rw[e] at h;cases h
theorem RSl_at {s:Seal_api} (h:RSl s):(∃e,getI s.Labels s.Index=some e)∧s.Labels.length≤14:=by
 obtain ⟨_,⟨a3,a4⟩,⟨a5,a6⟩,⟨b1,b2⟩,b3,_⟩:=h
 refine ⟨?_,by omega⟩
 obtain ⟨n,hn⟩:=Int.eq_ofNat_of_zero_le b1
 rw[hn,getI_nat (by omega)]
 exact ⟨_,rfl⟩
theorem fndG_dst {Q:Nat→Seal_api×Bool} {l:List Tape_api}:∀i,Dst (fndG Q l i)
 |0=>List.Pairwise.nil
 |i+1=>by
  have ih:=fndG_dst (Q:=Q) (l:=l) i
  show Dst (fst1 (fndG Q l i) (tp l i) (Q i))
  unfold fst1
  split
  ·rename_i h
   refine List.pairwise_append.2 ⟨ih,List.pairwise_singleton _ _,fun a ha b hb=>?_⟩
   rw[List.mem_singleton.1 hb]
   have:=List.any_eq_false.1 h.2.2 a ha
   simpa using this
  ·exact ih
theorem fndG_mem {Q:Nat→Seal_api×Bool} {l:List Tape_api} {n:Nat} (hR:∀i,i<n→(Q i).2=true→RSl (Q i).1):∀i,i≤n→∀s∈fndG Q l i,RSl s
 |0,_,s,hs=>by cases hs
 |i+1,hi,s,hs=>by
  have ih:=fndG_mem (l:=l) hR i (by omega)
  change s∈fst1 (fndG Q l i) (tp l i) (Q i) at hs
  unfold fst1 at hs
  split at hs
  ·rename_i h
   rcases List.mem_append.1 hs with hs|hs
   ·exact ih s hs
   ·rw[List.mem_singleton.1 hs];exact hR i (by omega) h.1
  ·exact ih s hs
def SLt (a b:Seal_api):Prop:=a.Number<b.Number
theorem y_place {out:List Seal_api} {q:Seal_api×Bool} (hl:out.length≤1000):∃k:Nat,run (X.cartridgeref10_Find_s25 out q) (0:Int)=some (k:Int)∧k≤out.length∧(∀j,(hj:j<out.length)→j<k→out[j].Number<q.1.Number)∧∀hk:k<out.length,q.1.Number≤out[k].Number:=by
 obtain ⟨r,e1,k,e2,e3⟩:=run_se (f:=X.cartridgeref10_Find_s25 out q) (a:=0) (n:=out.length)
  (fun r=>∃k:Nat,r=(k:Int)∧k≤out.length∧(∀j,(hj:j<out.length)→j<k→out[j].Number<q.1.Number)∧∀hk:k<out.length,q.1.Number≤out[k].Number) (fun i=>∀j,(hj:j<out.length)→j<i→out[j].Number<q.1.Number) (Nat.zero_le _) (by omega) (fun j _ h=>by omega)
  (fun i _ hi hI=>by
    unfold X.cartridgeref10_Find_s25
    dsimp only
    have hd:decide ((i:Int)<(out.length:Int))=true:=by simpa using hi
    rw[hd,optG_true,getI_nat hi,bd_s,Bool.true_and,wr_succ (by omega)]
    by_cases h:out[i].Number<q.1.Number
    ·left
     rw[if_pos (by simpa using h)]
     refine ⟨rfl,fun j hj hji=>?_⟩
     rcases Nat.lt_succ_iff_lt_or_eq.1 hji with h2|rfl
     ·exact hI j hj h2
     ·exact h
    ·right
     rw[if_neg (by simpa using h)]
     exact ⟨_,rfl,i,rfl,by omega,hI,fun _=>Int.not_lt.1 h⟩)
  (fun hI=>by
    unfold X.cartridgeref10_Find_s25
    dsimp only
    have hd:decide ((out.length:Int)<(out.length:Int))=false:=by simp
    rw[hd,optG_false,bd_s,Bool.false_and,if_neg (by decide)]
    exact ⟨_,rfl,out.length,rfl,Nat.le_refl _,hI,fun h=>absurd h (Nat.lt_irrefl _)⟩)
 exact ⟨k,by rw[←e2];exact e1,e3⟩
theorem any_perm {l m:List Seal_api} (h:l.Perm m) (p:Seal_api→Bool):l.any p=m.any p:=by
 rw[Bool.eq_iff_iff,List.any_eq_true,List.any_eq_true]
 exact ⟨fun ⟨x,h1,h2⟩=>⟨x,h.mem_iff.1 h1,h2⟩,fun ⟨x,h1,h2⟩=>⟨x,h.mem_iff.2 h1,h2⟩⟩
theorem y_find {Q:Nat→Seal_api×Bool} {l:List Tape_api} (hl:l.length≤100) (hq:∀i,i<l.length→X.cartridgeref10_Sealed (tp l i)=some (Q i)∧((Q i).2=true→∃e,getI (Q i).1.Labels (Q i).1.Index=some e)):
 ∃r,X.cartridgeref10_Find l=some r∧r.Perm (fndG Q l l.length)∧r.Pairwise SLt:=by
 unfold X.cartridgeref10_Find
 obtain ⟨r,e1,e2⟩:=run_ix0 (f:=X.cartridgeref10_Find_s6 l) (s0:=[]) (n:=l.length) (fun i out=>out.Perm (fndG Q l i)∧out.Pairwise SLt) (fun r=>r.Perm (fndG Q l l.length)∧r.Pairwise SLt) (by omega)
  ⟨.refl _,List.Pairwise.nil⟩ (fun i out hi hI=>by
    left
    obtain ⟨hI1,hI2⟩:=hI
    obtain ⟨q1,q2⟩:=hq i hi
    have hlen:=fndG_len (Q:=Q) (l:=l) i
    have hol:=hI1.length_eq
    unfold X.cartridgeref10_Find_s6
    dsimp only
    rw[if_pos (by simp;omega),getI_tp hi,bd_s,q1,bd_s]
    rw[show fndG Q l (i+1)=fst1 (fndG Q l i) (tp l i) (Q i) from rfl]
    have skip:X.cartridgeref10_Find_j13 (i:Int) out=some (.inl (out,((i+1:Nat):Int))):=by unfold X.cartridgeref10_Find_j13;rw[wr_succ (by omega)]
    cases hok:(Q i).2 with
    |false=>
     rw[Bool.not_false,Bool.not_true,optG_false,bd_s,optG_false,bd_s,Bool.true_or,if_pos rfl,skip]
     refine ⟨_,rfl,?_,hI2⟩
     unfold fst1
     rw[if_neg (by rw[hok];simp)]
     exact hI1
    |true=>
     obtain ⟨e,he⟩:=q2 hok
     rw[Bool.not_true,Bool.not_false,optG_true,he,bd_s,optG_true,bd_s,Bool.false_or]
     by_cases hL:e=(tp l i).Label
     ·have hne:(e !=(tp l i).Label)=false:=by simp[hL]
      rw[hne,if_neg (by decide)]
      obtain ⟨k,k1,k2,k3,k4⟩:=y_place (out:=out) (q:=Q i) (by omega)
      rw[k1,bd_s]
      show ∃s',X.cartridgeref10_Find_e25 out (Q i) (i:Int) (k:Int)=_∧_
      unfold X.cartridgeref10_Find_e25
      have htest:∃e2,optG (decide ((k:Int)<(out.length:Int))) (getI out (k:Int))=some e2∧
       (((decide ((k:Int)<(out.length:Int))&&e2.Number==(Q i).1.Number)=true∧∃x∈out,x.Number=(Q i).1.Number)∨
         ((decide ((k:Int)<(out.length:Int))&&e2.Number==(Q i).1.Number)=false∧∀j,(hj:j<out.length)→k≤j→(Q i).1.Number<out[j].Number)):=by
       by_cases hk:k<out.length
       ·have hd:decide ((k:Int)<(out.length:Int))=true:=by simpa using hk
        rw[hd,optG_true,getI_nat hk]
        refine ⟨_,rfl,?_⟩
        by_cases hn:out[k].Number=(Q i).1.Number
        ·exact .inl ⟨by simpa using hn,_,List.getElem_mem hk,hn⟩
        ·refine .inr ⟨by simpa using hn,fun j hj hkj=>?_⟩
         have hgt:(Q i).1.Number<out[k].Number:=by have:=k4 hk;omega
         by_cases h:j=k
         ·subst h;exact hgt
         ·exact Int.lt_trans hgt (List.pairwise_iff_getElem.1 hI2 k j hk hj (by omega))
       ·have hd:decide ((k:Int)<(out.length:Int))=false:=by simp;omega
        rw[hd,optG_false]
        exact ⟨_,rfl,.inr ⟨Bool.false_and _,fun j hj hkj=>by omega⟩⟩
      obtain ⟨e2,f1,f2⟩:=htest
      rw[f1,bd_s]
      rcases f2 with ⟨f2,x,hx,hxn⟩|⟨f2,hgt⟩
      ·rw[f2,if_pos rfl,skip]
       refine ⟨_,rfl,?_,hI2⟩
       unfold fst1
       rw[if_neg]
       ·exact hI1
       ·intro h
        have h2:=h.2.2
        rw[←any_perm hI1,List.any_eq_false] at h2
        have h3:=h2 x hx
        simp[hxn] at h3
      ·rw[f2,if_neg (by decide)]
       have hs1:slc out (0:Int) (k:Int)=out.take k:=slc_0n _ _
       have hs2:slc out (k:Int) (out.length:Int)=out.drop k:=slc_from _ _
       rw[hs1,hs2,need_is (by omega),bd_s,need_is (by omega),bd_s,need_is (by simp;omega),bd_s,need_is (by simp;omega),bd_s,need_is (by simp;omega),bd_s]
       unfold X.cartridgeref10_Find_j13
       rw[wr_succ (by omega)]
       refine ⟨_,rfl,?_,?_⟩
       ·have hany:(fndG Q l i).any (fun x=>x.Number==(Q i).1.Number)=false:=by
         rw[←any_perm hI1,List.any_eq_false]
         intro x hx
         obtain ⟨j,hj,rfl⟩:=List.getElem_of_mem hx
         have:out[j].Number≠(Q i).1.Number:=by
          by_cases hjk:j<k
          ·exact Int.ne_of_lt (k3 j hj hjk)
          ·exact Ne.symm (Int.ne_of_lt (hgt j hj (by omega)))
         simpa using this
        unfold fst1
        rw[if_pos ⟨hok,by rw[he,hL],hany⟩]
        have h1:(out.take k++[(Q i).1]++out.drop k).Perm (out.take k++out.drop k++[(Q i).1]):=by
         rw[List.append_assoc,List.append_assoc]
         exact (List.perm_append_left_iff _).2 List.perm_append_comm
        rw[List.take_append_drop] at h1
        exact h1.trans ((List.perm_append_right_iff _).2 hI1)
       ·have hsp:(out.take k++out.drop k).Pairwise SLt:=by rw[List.take_append_drop];exact hI2
        obtain ⟨p1,p2,p3⟩:=List.pairwise_append.1 hsp
        rw[List.append_assoc]
        have hlo:∀a∈out.take k,SLt a (Q i).1:=fun a ha=>by
         obtain ⟨j,hj,rfl⟩:=List.getElem_of_mem ha
         rw[List.getElem_take]
         exact k3 j _ (by simp at hj;omega)
        have hhi:∀a∈out.drop k,SLt (Q i).1 a:=fun a ha=>by
         obtain ⟨j,hj,rfl⟩:=List.getElem_of_mem ha
         rw[List.getElem_drop]
         exact hgt _ _ (by omega)
        refine List.pairwise_append.2 ⟨p1,List.pairwise_cons.2 ⟨hhi,p2⟩,fun a ha b hb=>?_⟩
        rcases List.mem_cons.1 hb with rfl|hb
        ·exact hlo a ha
        ·exact p3 a ha b hb
     ·have hne:(e !=(tp l i).Label)=true:=by simp[hL]
      rw[hne,if_pos rfl,skip]
      refine ⟨_,rfl,?_,hI2⟩
      unfold fst1
      rw[if_neg (fun h=>hL (Option.some.inj (he.symm.trans h.2.1)))]
      exact hI1)
  (fun out hI=>by
    unfold X.cartridgeref10_Find_s6
    dsimp only
    rw[if_neg (by simp)]
    exact ⟨_,rfl,hI⟩)
 rw[e1,bd_s]
 exact ⟨r,rfl,e2⟩
theorem y_of {l:List Seal_api} {x:Int} (hl:l.length≤1000) (hL:∀s∈l,s.Labels.length≤1000):
 X.cartridgeref10_Of l x=some (match l.find? (fun s=>decide (x∈s.Labels)) with|some s=>(s,true)|none=>(⟨0,0,0,0,[]⟩,false)):=by
 unfold X.cartridgeref10_Of
 have inner:∀i,(hi:i<l.length)→run (X.cartridgeref10_Of_s16 l (i:Int) x) (0:Int)=some (if x∈l[i].Labels then .inr (l[i],true) else .inl ()):=by
  intro i hi
  have hm:=hL _ (List.getElem_mem hi)
  refine run_seE (a:=0) (fun k=>∀j,(hj:j<l[i].Labels.length)→j<k→l[i].Labels[j]≠x) (n:=l[i].Labels.length) (Nat.zero_le _) (by omega) (fun j _ h=>by omega) (fun k _ hk hI=>?_) (fun hI=>?_)
  ·unfold X.cartridgeref10_Of_s16
   dsimp only
   rw[getI_nat hi,bd_s,if_pos (by simp;omega),bd_s,getI_nat hk,bd_s,wr_succ (by omega)]
   by_cases h:l[i].Labels[k]=x
   ·right
    rw[if_pos (by simpa using h),bd_s,if_pos (by rw[←h];exact List.getElem_mem hk)]
   ·left
    rw[if_neg (by simpa using h)]
    refine ⟨rfl,fun j hj hjk=>?_⟩
    rcases Nat.lt_succ_iff_lt_or_eq.1 hjk with h2|rfl
    ·exact hI j hj h2
    ·exact h
  ·unfold X.cartridgeref10_Of_s16
   dsimp only
   rw[getI_nat hi,bd_s,if_neg (by simp),if_neg]
   intro h
   obtain ⟨j,hj,e⟩:=List.getElem_of_mem h
   exact hI j hj hj e
 have key:run (X.cartridgeref10_Of_s7 l x) (0:Int)=some (match l.find? (fun s=>decide (x∈s.Labels)) with|some s=> .inr (s,true)|none=> .inl ()):=by
  refine run_seE (a:=0) (fun k=>∀j,(hj:j<l.length)→j<k→x∉l[j].Labels) (n:=l.length) (Nat.zero_le _) (by omega) (fun j _ h=>by omega) (fun k _ hk hI=>?_) (fun hI=>?_)
  ·unfold X.cartridgeref10_Of_s7
   dsimp only
   rw[if_pos (by simp;omega),inner k hk,bd_s]
   by_cases h:x∈l[k].Labels
   ·right
    have hf:l.find? (fun s=>decide (x∈s.Labels))=some l[k]:=by
     rw[List.find?_eq_some_iff_getElem]
     exact ⟨by simpa using h,k,hk,rfl,fun j hj=>by simpa using hI j (by omega) hj⟩
    rw[if_pos h,hf]
   ·left
    rw[if_neg h]
    dsimp only
    unfold X.cartridgeref10_Of_e16
    rw[wr_succ (by omega)]
    refine ⟨rfl,fun j hj hjk=>?_⟩
    rcases Nat.lt_succ_iff_lt_or_eq.1 hjk with h2|rfl
    ·exact hI j hj h2
    ·exact h
  ·unfold X.cartridgeref10_Of_s7
   dsimp only
   rw[if_neg (by simp)]
   have hf:l.find? (fun s=>decide (x∈s.Labels))=none:=by
    rw[List.find?_eq_none]
    intro s hs
    obtain ⟨j,hj,rfl⟩:=List.getElem_of_mem hs
    simpa using hI j hj hj
   rw[hf]
 rw[key,bd_s]
 cases l.find? (fun s=>decide (x∈s.Labels)) with
 |none=>rfl
 |some s=>rfl
theorem sorted_eq {x y m:List Seal_api} (hm:Dst m) (hx:x.Perm m) (hy:y.Perm m) (sx:x.Pairwise SLe) (sy:y.Pairwise SLt):x=y:=by
 have hd:=hm.perm hx
 refine List.Perm.eq_of_pairwise (le:=SLe) (fun a b ha hb h1 h2=>?_) sx (sy.imp fun h=>Int.le_of_lt h) (hx.trans hy.symm)
 have hbx:b∈x:=(hx.trans hy.symm).mem_iff.2 hb
 obtain ⟨i,hi,rfl⟩:=List.getElem_of_mem ha
 obtain ⟨j,hj,rfl⟩:=List.getElem_of_mem hbx
 have he:x[i].Number=x[j].Number:=Int.le_antisymm h1 h2
 have hp:=List.pairwise_iff_getElem.1 hd
 rcases Nat.lt_trichotomy i j with h|h|h
 ·exact absurd he (hp i j hi hj h)
 ·subst h;rfl
 ·exact absurd he.symm (hp j i hj hi h)
theorem alive14:X.cartridgelaw14_alive=some true:=by decide+kernel
theorem group_finds (l:List Tape_api) (label:Int):X.cartridgelaw14_GroupFinds l label=some true:=by
 unfold X.cartridgelaw14_GroupFinds
 obtain ⟨f,h1,h2⟩:=x_Few13 l
 rw[alive14,bd_s,h1]
 cases f with
 |false=>rfl
 |true=>
  obtain ⟨hl,ht⟩:=h2 rfl
  have hS:∀i,∃q,i<l.length→X.volume_Sealed (tp l i)=some q∧X.cartridgeref10_Sealed (tp l i)=some q∧(q.2=true→RSl q.1):=fun i=>by
   by_cases hi:i<l.length
   ·have hm:tp l i∈l:=by
     unfold tp
     rw[List.getD_eq_getElem?_getD,List.getElem?_eq_getElem hi,Option.getD_some]
     exact List.getElem_mem hi
    obtain ⟨b1,b2⟩:=ht _ hm
    obtain ⟨q,e⟩:=c_sealed2 (t:=tp l i) (fun b hb=>by have:=b2 b hb;omega) (by omega)
    exact ⟨q,fun _=>e⟩
   ·exact ⟨(zeroS,false),fun h=>absurd h hi⟩
  obtain ⟨Q,hQ⟩:=Classical.axiomOfChoice hS
  have hfl:=fndG_len (Q:=Q) (l:=l) l.length
  have hds:=fndG_dst (Q:=Q) (l:=l) l.length
  have hmem:=fndG_mem (Q:=Q) (l:=l) (n:=l.length) (fun i hi=>(hQ i hi).2.2) l.length (Nat.le_refl _)
  obtain ⟨x,x1,x2,x3⟩:=c_find0 (Q:=Q) (l:=l) (by omega) (fun i hi=>⟨(hQ i hi).1,fun h=>(RSl_at ((hQ i hi).2.2 h)).1⟩) (x_sort _ (by omega) hds)
  obtain ⟨y,y1,y2,y3⟩:=y_find (Q:=Q) (l:=l) (by omega) (fun i hi=>⟨(hQ i hi).2.1,fun h=>(RSl_at ((hQ i hi).2.2 h)).1⟩)
  have hxy:=sorted_eq hds x2 y2 x3 y3
  subst hxy
  have hxl:x.length≤14:=by have:=x2.length_eq;omega
  have hlab:∀s∈x,s.Labels.length≤1000:=fun s hs=>by have:=(RSl_at (hmem s (x2.mem_iff.1 hs))).2;omega
  rw[Bool.not_true,Bool.not_false,optG_true,bd_s,Bool.not_true,Bool.false_or,if_neg (by decide),x1,bd_s,y1,bd_s,if_neg (by simp)]
  have key:run (X.cartridgelaw14_GroupFinds_s19 x x) (0:Int)=some (.inl ()):=by
   refine run_seE (a:=0) (n:=x.length) (fun _=>True) (Nat.zero_le _) (by omega) trivial (fun i _ hi _=> .inl ⟨?_,trivial⟩) (fun _=>?_)
   ·unfold X.cartridgelaw14_GroupFinds_s19
    dsimp only
    rw[if_pos (by simp;omega),getI_nat hi,bd_s,bd_s,same_seal _ (by have:=hlab _ (List.getElem_mem hi);omega),bd_s,if_neg (by decide),wr_succ (by omega)]
   ·unfold X.cartridgelaw14_GroupFinds_s19
    dsimp only
    rw[if_neg (by simp)]
  rw[key,bd_s]
  dsimp only
  unfold X.cartridgelaw14_GroupFinds_e19
  obtain ⟨q,q1,q2,q3⟩:∃q,X.group_Of x label=some q∧X.cartridgeref10_Of x label=some q∧q.1.Labels.length≤100000:=by
   have e1:=c_of (x:=label) (by omega) hlab
   have e2:=y_of (x:=label) (by omega) hlab
   cases hf:x.find? (fun s:Seal_api=>decide (label∈s.Labels)) with
   |none=>rw[hf] at e1 e2;exact ⟨_,e1,e2,by simp⟩
   |some s=>rw[hf] at e1 e2;exact ⟨_,e1,e2,by have:=hlab s (List.mem_of_find?_eq_some hf);simp only;omega⟩
  rw[q1,bd_s,q2,bd_s,same_seal _ q3,beq_self_eq_true,optG_true,bd_s]
  rfl
end Go.AX
