/- For every input the law GroupFinds of the program returns true, and each argument reads behind the call as it read before it: the given statement, with no condition of our own. -/
import Derived.Test.YtfpldlnbhjmckaaGreatRows
import Derived.Test.YtfpldlnbhjmckaaGreatLibB
import Derived.Test.YtfpldlnbhjmckaaGreatXP2
import Derived.Test.YtfpldlnbhjmckaaGreatPuGroupFinds
import Derived.WalkKit
import Derived.ProofKit
import Derived.OpenShut
import Derived.ShutString
import Derived.ChangeOld
import Derived.Below
import Derived.SizedLaws
namespace Go.Proofs.YtfpldlnbhjmckaaGreat.groupFinds
open Go.ChangeShapes Go.WideShapes Go.ChangeAt Go.RowKit Go.AM Go.AX
open Go.ChangeMaps (open_string shut_string)
set_option linter.unusedVariables false
theorem own:ownKnob Tryz.prog.godebug=none:=by kernel_rfl
theorem laidOut:laidOutB Tryz.prog=true:=by kernel_rfl
theorem opx49:OpX Tryz.prog 49 Tape_api (fun x=>(fun (n:Int)=> -9223372036854775808≤n∧n≤9223372036854775807) x.Label∧(fun (n:Int)=> -9223372036854775808≤n∧n≤9223372036854775807) x.Cap∧(fun (xs:(List (List UInt8)))=>xs.length*24≤reachBytes∧∀y∈xs,(fun (xs:(List UInt8))=>xs.length*1≤reachBytes∧∀y∈xs,(fun _=>True) y) y) x.Blocks∧(fun _=>True) x.Lost∧True):=by
 have hF:OpensF Tryz.prog [⟨"Label",3,0,false,"","",0⟩,⟨"Cap",3,1,false,"","",8⟩,⟨"Blocks",47,2,false,"","",16⟩,⟨"Lost",4,3,false,"","",40⟩] 0 (1+(1+(1+(1+0)))) _ _:=(OpensF.cons (s:=1) (sz:=(1+(1+(1+0)))) (f:=⟨"Label",3,0,false,"","",0⟩) rfl (by kernel_rfl) (OpX.int Tryz.underlying3) (OpensF.cons (s:=1) (sz:=(1+(1+0))) (f:=⟨"Cap",3,1,false,"","",8⟩) rfl (by kernel_rfl) (OpX.int Tryz.underlying3) (OpensF.cons (s:=1) (sz:=(1+0)) (f:=⟨"Blocks",47,2,false,"","",16⟩) rfl (by kernel_rfl) (OpX.sliceB (by':=24) Tryz.underlying47 (by kernel_rfl) (by kernel_rfl) (OpX.sliceB (by':=1) Tryz.underlying42 (by kernel_rfl) (by kernel_rfl) (OpX.u8 Tryz.underlying5))) (OpensF.cons (s:=1) (sz:=0) (f:=⟨"Lost",4,3,false,"","",40⟩) rfl (by kernel_rfl) (OpX.bool Tryz.underlying4) OpensF.nil))))
 intro H
 exact Opens.map (sz:=(1+(1+(1+(1+0))))) (Opens.struct (sz:=(1+(1+(1+(1+0))))) Tryz.underlying49 (by kernel_rfl) hF) (enc':=fun (x:Tape_api)=>ec x) (ok':=(fun (x:Tape_api)=>(fun (n:Int)=> -9223372036854775808≤n∧n≤9223372036854775807) x.Label∧(fun (n:Int)=> -9223372036854775808≤n∧n≤9223372036854775807) x.Cap∧(fun (xs:(List (List UInt8)))=>xs.length*24≤reachBytes∧∀y∈xs,(fun (xs:(List UInt8))=>xs.length*1≤reachBytes∧∀y∈xs,(fun _=>True) y) y) x.Blocks∧(fun _=>True) x.Lost∧True)) (fun p=>⟨p.1,p.2.1,p.2.2.1,p.2.2.2.1⟩) (fun v d hd=>by
  obtain rfl|rfl|rfl|rfl:d=0∨d=1∨d=2∨d=3:=by omega
  all_goals rfl) (fun v h=>h)
set_option maxRecDepth 100000 in
theorem lifted (os:Os) (started:os.Started) (H:Type) (enc:TypeId×Value→H):
 ReturnsInHanded {} Tryz.checked os 4 .any (Rows.groupFindsSpec.pre6 enc Tryz.prog Tryz.f4 Rows.groupFindsRow.domain false) (Rows.groupFindsSpec.post enc Tryz.prog Tryz.f4 false true false false):=by
 refine returnsInHanded_of_change_sized (C:=Tryz.checked) own started (by kernel_rfl) Tryz.func4
  (ChangeSpec.witness6 (enc:=enc) (C:=Tryz.checked) false ⟨#[],#[.slice none 0 0,.int .i64 0],[]⟩ 8 (by kernel_rfl) (by kernel_rfl) (by kernel_rfl) (by kernel_rfl)) ?_
 intro W base args ds gs before hval0 hW hcnd hsz0 _
 have hsz:=hsz0
 have hval:∀(j:Nat) t v,Tryz.f4.params[j]? =some t→args[j]? =some v→Value.okWide Tryz.prog W .any base t v:=hval0
 have hW':=hW
 obtain ⟨p,q,hA0,hV,rfl,hfz,hnd⟩:=hW
 have hA:DataW.TrodAll enc Tryz.prog W 0 (fun _=>true) true Tryz.f4.params.toList args.toList ds p:=hA0
 rw[Tryz.params4] at hA hval hsz
 obtain ⟨v0,vs0,d0,ds0,p0,q0,hargs,rfl,rfl,h0,r0⟩:=trodAll_cons hA
 obtain ⟨v1,vs1,d1,ds1,p1,q1,rfl,rfl,rfl,h1,r1⟩:=trodAll_cons r0
 obtain ⟨rfl,rfl,rfl⟩:=trodAll_nil r1
 obtain rfl:args= #[v0,v1]:=by cases args;simp_all
 obtain ⟨rfl,rfl⟩:=trodVars_none hV
 have hsz1:∀n,n∈d0.weights Tryz.prog 22++d1.weights Tryz.prog 3→n≤reachBytes:=fun n hn=>by
  have h0:(DataW.weightsEach Tryz.prog _ _).all _=true:=hsz
  have h1:=List.all_eq_true.1 h0 n (by simpa[DataW.weightsEach] using hn)
  exact of_decide_eq_true h1
 obtain ⟨a0,len0,cap0,e0⟩:=okWide_slice Tryz.underlying22 (hval 0 22 v0 rfl rfl)
 have lt0:∀x∈p0,x.block<W.heap.size:=by obtain ⟨m,hm⟩:=h0;exact DataW.trod_lt m _ _ _ hm
 obtain ⟨x0,k0,z0⟩:=OpX.one (OpX.sliceB (by':=48) Tryz.underlying22 (by kernel_rfl) (by kernel_rfl) opx49) rfl (by rw[e0];rfl) h0 (fun n hn=>hsz1 n (by simp[hn]))
 obtain ⟨n1,e1⟩:=okWide_int Tryz.underlying3 (hval 1 3 v1 rfl rfl)
 have lt1:∀x∈p1,x.block<W.heap.size:=by obtain ⟨m,hm⟩:=h1;exact DataW.trod_lt m _ _ _ hm
 obtain ⟨x1,k1,z1⟩:=OpX.one (OpX.int Tryz.underlying3) rfl (by rw[e1];rfl) h1 (fun n hn=>hsz1 n (by simp[hn]))
 clear hA0 hval0
 have plain:X.cartridgelaw14_GroupFinds x0 x1=some true:=by first|exact group_finds x0 x1|exact group_finds x0 x1 k0 k1
 refine ((ok_cartridgelaw14_GroupFinds x0 x1 true plain).calls flat0 W _ (muok0 W) rfl ?_).mono ?_
 ·intro i hi
  match i,hi with
  |0,_=>exact z0
  |1,_=>exact z1
  |n+2,hi=>exact absurd hi (by simp)
 ·rintro e W' ⟨c,r,rfl,rfl,_,hc,bel⟩
  obtain rfl:c= .bool true:=hc
  exact ⟨_,rfl,_,_,_,[],_,[],hW',trodAll_mk1 (shut_bool Tryz.underlying4 _),(trodAll_cons_mk (Below.trod laidOut (by kernel_rfl) (of_decide_eq_true (by kernel_rfl)) h0 bel lt0) (trodAll_cons_mk (Below.trod laidOut (by kernel_rfl) (of_decide_eq_true (by kernel_rfl)) h1 bel lt1) trodAll_mk0)),rfl,bel.frame _,fun h=>by cases h⟩
theorem over:Rows.groupFindsRow.holds Tryz.pinned (OpenSpec.ofChange Rows.groupFindsSpec):=
 OpenClaim.holds_of_wide 4 Tryz.f4 rfl rfl rfl rfl rfl rfl rfl ⟨rfl,rfl,rfl,rfl,rfl⟩ rfl rfl rfl rfl rfl (by kernel_rfl) Tryz.func4 (by kernel_rfl)
  (of_decide_eq_true (by kernel_rfl)) (by unfold Func.isWrapper;first|(rw[if_pos (by decide+kernel)];kernel_rfl)|(rw[if_neg (by decide+kernel)];exact ⟨rfl,rfl⟩))
  (fun os started H enc _=>lifted os started H enc)
theorem proved:Rows.GroupFindsSaid:=over
#print axioms proved
end Go.Proofs.YtfpldlnbhjmckaaGreat.groupFinds
namespace Go.Proofs.YtfpldlnbhjmckaaGreat
/-- The row, under a short name, for the claim. -/
theorem groupFinds_holds:Rows.GroupFindsSaid:=groupFinds.proved
end Go.Proofs.YtfpldlnbhjmckaaGreat
