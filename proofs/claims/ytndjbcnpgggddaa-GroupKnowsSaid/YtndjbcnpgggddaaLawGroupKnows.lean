/- For every input the law GroupKnows of the program returns true, and each argument reads behind the call as it read before it: the given statement, with no condition of our own. -/
import Derived.Test.YtndjbcnpgggddaaRows
import Derived.Test.YtndjbcnpgggddaaLibB
import Derived.Test.YtndjbcnpgggddaaXP1
import Derived.Test.YtndjbcnpgggddaaPuGroupKnows
import Derived.WalkKit
import Derived.ProofKit
import Derived.OpenShut
import Derived.ShutString
import Derived.ChangeOld
import Derived.Below
import Derived.SizedLaws
namespace Go.Proofs.Ytndjbcnpgggddaa.groupKnows
open Go.ChangeShapes Go.WideShapes Go.ChangeAt Go.RowKit Go.AM Go.AX
open Go.ChangeMaps (open_string shut_string)
set_option linter.unusedVariables false
theorem own:ownKnob Try.prog.godebug=none:=by kernel_rfl
theorem laidOut:laidOutB Try.prog=true:=by kernel_rfl
set_option maxRecDepth 100000 in
theorem lifted (os:Os) (started:os.Started) (H:Type) (enc:TypeId×Value→H):
 ReturnsInHanded {} Try.checked os 10 .any (Rows.groupKnowsSpec.pre6 enc Try.prog Try.f10 Rows.groupKnowsRow.domain false) (Rows.groupKnowsSpec.post enc Try.prog Try.f10 false true false false):=by
 refine returnsInHanded_of_change_sized (C:=Try.checked) own started (by kernel_rfl) Try.func10
  (ChangeSpec.witness6 (enc:=enc) (C:=Try.checked) false ⟨#[],#[.int .i64 0,.slice none 0 0,.slice none 0 0],[]⟩ 8 (by kernel_rfl) (by kernel_rfl) (by kernel_rfl) (by kernel_rfl)) ?_
 intro W base args ds gs before hval0 hW hcnd hsz0 _
 have hsz:=hsz0
 have hval:∀(j:Nat) t v,Try.f10.params[j]? =some t→args[j]? =some v→Value.okWide Try.prog W .any base t v:=hval0
 have hW':=hW
 obtain ⟨p,q,hA0,hV,rfl,hfz,hnd⟩:=hW
 have hA:DataW.TrodAll enc Try.prog W 0 (fun _=>true) true Try.f10.params.toList args.toList ds p:=hA0
 rw[Try.params10] at hA hval hsz
 obtain ⟨v0,vs0,d0,ds0,p0,q0,hargs,rfl,rfl,h0,r0⟩:=trodAll_cons hA
 obtain ⟨v1,vs1,d1,ds1,p1,q1,rfl,rfl,rfl,h1,r1⟩:=trodAll_cons r0
 obtain ⟨v2,vs2,d2,ds2,p2,q2,rfl,rfl,rfl,h2,r2⟩:=trodAll_cons r1
 obtain ⟨rfl,rfl,rfl⟩:=trodAll_nil r2
 obtain rfl:args= #[v0,v1,v2]:=by cases args;simp_all
 obtain ⟨rfl,rfl⟩:=trodVars_none hV
 have hsz1:∀n,n∈d0.weights Try.prog 3++d1.weights Try.prog 47++d2.weights Try.prog 47→n≤reachBytes:=fun n hn=>by
  have h0:(DataW.weightsEach Try.prog _ _).all _=true:=hsz
  have h1:=List.all_eq_true.1 h0 n (by simpa[DataW.weightsEach] using hn)
  exact of_decide_eq_true h1
 obtain ⟨n0,e0⟩:=okWide_int Try.underlying3 (hval 0 3 v0 rfl rfl)
 have lt0:∀x∈p0,x.block<W.heap.size:=by obtain ⟨m,hm⟩:=h0;exact DataW.trod_lt m _ _ _ hm
 obtain ⟨x0,k0,z0⟩:=OpX.one (OpX.int Try.underlying3) rfl (by rw[e0];rfl) h0 (fun n hn=>hsz1 n (by simp[hn]))
 obtain ⟨a1,len1,cap1,e1⟩:=okWide_slice Try.underlying47 (hval 1 47 v1 rfl rfl)
 have lt1:∀x∈p1,x.block<W.heap.size:=by obtain ⟨m,hm⟩:=h1;exact DataW.trod_lt m _ _ _ hm
 obtain ⟨x1,k1,z1⟩:=OpX.one (OpX.sliceB (by':=8) Try.underlying47 (by kernel_rfl) (by kernel_rfl) (OpX.int Try.underlying3)) rfl (by rw[e1];rfl) h1 (fun n hn=>hsz1 n (by simp[hn]))
 obtain ⟨a2,len2,cap2,e2⟩:=okWide_slice Try.underlying47 (hval 2 47 v2 rfl rfl)
 have lt2:∀x∈p2,x.block<W.heap.size:=by obtain ⟨m,hm⟩:=h2;exact DataW.trod_lt m _ _ _ hm
 obtain ⟨x2,k2,z2⟩:=OpX.one (OpX.sliceB (by':=8) Try.underlying47 (by kernel_rfl) (by kernel_rfl) (OpX.int Try.underlying3)) rfl (by rw[e2];rfl) h2 (fun n hn=>hsz1 n (by simp[hn]))
 clear hA0 hval0
 have plain:X.cartridgelaw14_GroupKnows x0 x1 x2=some true:=by first|exact group_knows x0 x1 x2|exact group_knows x0 x1 x2 k0 k1 k2
 refine ((ok_cartridgelaw14_GroupKnows x0 x1 x2 true plain).calls flat0 W _ (muok0 W) rfl ?_).mono ?_
 ·intro i hi
  match i,hi with
  |0,_=>exact z0
  |1,_=>exact z1
  |2,_=>exact z2
  |n+3,hi=>exact absurd hi (by simp)
 ·rintro e W' ⟨c,r,rfl,rfl,_,hc,bel⟩
  obtain rfl:c= .bool true:=hc
  exact ⟨_,rfl,_,_,_,[],_,[],hW',trodAll_mk1 (shut_bool Try.underlying4 _),(trodAll_cons_mk (Below.trod laidOut (by kernel_rfl) (of_decide_eq_true (by kernel_rfl)) h0 bel lt0) (trodAll_cons_mk (Below.trod laidOut (by kernel_rfl) (of_decide_eq_true (by kernel_rfl)) h1 bel lt1) (trodAll_cons_mk (Below.trod laidOut (by kernel_rfl) (of_decide_eq_true (by kernel_rfl)) h2 bel lt2) trodAll_mk0))),rfl,bel.frame _,fun h=>by cases h⟩
theorem over:Rows.groupKnowsRow.holds Try.pinned (OpenSpec.ofChange Rows.groupKnowsSpec):=
 OpenClaim.holds_of_wide 10 Try.f10 rfl rfl rfl rfl rfl rfl rfl ⟨rfl,rfl,rfl,rfl,rfl⟩ rfl rfl rfl rfl rfl (by kernel_rfl) Try.func10 (by kernel_rfl)
  (of_decide_eq_true (by kernel_rfl)) (by unfold Func.isWrapper;first|(rw[if_pos (by decide+kernel)];kernel_rfl)|(rw[if_neg (by decide+kernel)];exact ⟨rfl,rfl⟩))
  (fun os started H enc _=>lifted os started H enc)
theorem proved:Rows.GroupKnowsSaid:=over
#print axioms proved
end Go.Proofs.Ytndjbcnpgggddaa.groupKnows
namespace Go.Proofs.Ytndjbcnpgggddaa
/-- The row, under a short name, for the claim. -/
theorem groupKnows_holds:Rows.GroupKnowsSaid:=groupKnows.proved
end Go.Proofs.Ytndjbcnpgggddaa
