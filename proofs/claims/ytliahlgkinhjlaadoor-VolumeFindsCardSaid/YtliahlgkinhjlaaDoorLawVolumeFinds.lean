/- For every input the law VolumeFinds of the program returns true, and each argument reads behind the call as it read before it: the given statement, with no condition of our own. -/
import Derived.Test.YtliahlgkinhjlaaDoorRows
import Derived.Test.YtliahlgkinhjlaaDoorLibC
import Derived.Test.YtliahlgkinhjlaaDoorXP1
import Derived.Test.YtliahlgkinhjlaaDoorPuVolumeFinds
import Derived.LaidMore
import Derived.Lay
import Derived.SevenTiedAt
import Derived.Stop.Joined
import Derived.Test.YtliahlgkinhjlaaDoorTie
import Derived.Test.YtliahlgkinhjlaaDoorCards
import Derived.WalkKit
import Derived.ProofKit
import Derived.OpenShut
import Derived.ShutString
import Derived.ChangeOld
import Derived.Below
import Derived.SizedLaws
namespace Go.Proofs.YtliahlgkinhjlaaDoor.volumeFinds
open Go.ChangeShapes Go.WideShapes Go.ChangeAt Go.RowKit Go.AM Go.AX
open Go.ChangeMaps (open_string shut_string)
set_option linter.unusedVariables false
theorem own : ownKnob Tryd.prog.godebug = none := by kernel_rfl
theorem laidOut : laidOutB Tryd.prog = true := by kernel_rfl
set_option maxRecDepth 100000 in
theorem lifted (os : Os) (started : os.Started) (H : Type) (enc : TypeId × Value → H) :
    ReturnsInHanded {} Tryd.checked os 5 .any (fun w args => (Rows.volumeFindsSpec.pre enc Tryd.prog Tryd.f5 Rows.volumeFindsRow.domain false w args ∧ laidMetH Tryd.prog Rows.volumeFindsRow.laid w) ∧ sizedMet enc Tryd.prog Tryd.f5 (OpenSpec.ofChange Rows.volumeFindsSpec) false w args) (Rows.volumeFindsSpec.post enc Tryd.prog Tryd.f5 false true false false) := by
  refine returnsInHanded_of_change_and (C := Tryd.checked) (X := fun w _ => laidMetH Tryd.prog Rows.volumeFindsRow.laid w) (fun _ _ _ hh h => h.of_heap hh) own started (by kernel_rfl) Tryd.func5
    (ChangeSpec.witness_shaped (enc := enc) (C := Tryd.checked) (os := os) (X := fun w _ => laidMetH Tryd.prog Rows.volumeFindsRow.laid w) false (World.laidAll Tryd.prog os Rows.volumeFindsRow.laid) #[.slice none 0 0, .slice none 0 0] 8 (World.laidAll_os _ _ _)
      (World.shaped_of_ZipB (by kernel_rfl) (by kernel_rfl)) (by kernel_rfl) (by kernel_rfl) (by kernel_rfl)
      (by rw [MakeChecks.laidMetH_plain _ _ _ (by kernel_rfl)]; exact laidMet_laidAll _ (by kernel_rfl) (by kernel_rfl))) ?_
  intro W base args ds gs before hval0 hW hcnd hsz0 _ _
  have hsz := hsz0
  have hval : ∀ (j : Nat) t v, Tryd.f5.params[j]? = some t → args[j]? = some v → Value.okWide Tryd.prog W .any base t v := hval0
  have hW' := hW
  obtain ⟨p, q, hA0, hV, rfl, hfz, hnd⟩ := hW
  have hA : DataW.TrodAll enc Tryd.prog W 0 (fun _ => true) true Tryd.f5.params.toList args.toList ds p := hA0
  rw [Tryd.params5] at hA hval hsz
  obtain ⟨v0, vs0, d0, ds0, p0, q0, hargs, rfl, rfl, h0, r0⟩ := trodAll_cons hA
  obtain ⟨v1, vs1, d1, ds1, p1, q1, rfl, rfl, rfl, h1, r1⟩ := trodAll_cons r0
  obtain ⟨rfl, rfl, rfl⟩ := trodAll_nil r1
  obtain rfl : args = #[v0, v1] := by cases args; simp_all
  obtain ⟨rfl, rfl⟩ := trodVars_none hV
  have hsz1 : ∀ n, n ∈ d0.weights Tryd.prog 36 ++ d1.weights Tryd.prog 36 → n ≤ reachBytes := fun n hn => by
    have h0 : (DataW.weightsEach Tryd.prog _ _).all _ = true := hsz
    have h1 := List.all_eq_true.1 h0 n (by simpa [DataW.weightsEach] using hn)
    exact of_decide_eq_true h1
  obtain ⟨a0, len0, cap0, e0⟩ := okWide_slice Tryd.underlying36 (hval 0 36 v0 rfl rfl)
  have lt0 : ∀ x ∈ p0, x.block < W.heap.size := by obtain ⟨m, hm⟩ := h0; exact DataW.trod_lt m _ _ _ hm
  obtain ⟨x0, k0, z0⟩ := OpX.one (OpX.slice Tryd.underlying36 (by kernel_rfl) (Nat.le_of_ble_eq_true (by kernel_rfl)) (OpX.int Tryd.underlying3)) rfl (by rw [e0]; rfl) h0 (fun n hn => hsz1 n (by simp [hn]))
  obtain ⟨a1, len1, cap1, e1⟩ := okWide_slice Tryd.underlying36 (hval 1 36 v1 rfl rfl)
  have lt1 : ∀ x ∈ p1, x.block < W.heap.size := by obtain ⟨m, hm⟩ := h1; exact DataW.trod_lt m _ _ _ hm
  obtain ⟨x1, k1, z1⟩ := OpX.one (OpX.slice Tryd.underlying36 (by kernel_rfl) (Nat.le_of_ble_eq_true (by kernel_rfl)) (OpX.int Tryd.underlying3)) rfl (by rw [e1]; rfl) h1 (fun n hn => hsz1 n (by simp [hn]))
  clear hA0 hval0
  have plain : X.cartridgelaw11_VolumeFinds x0 x1 = some true := by first | exact vol_finds x0 x1 | exact vol_finds x0 x1 k0 k1
  refine ((ok_cartridgelaw11_VolumeFinds x0 x1 true plain).calls flat0 W _ (muok0 W) rfl ?_).mono ?_
  · intro i hi
    match i, hi with
    | 0, _ => exact z0
    | 1, _ => exact z1
    | n + 2, hi => exact absurd hi (by simp)
  · rintro e W' ⟨c, r, rfl, rfl, _, hc, bel⟩
    obtain rfl : c = .bool true := hc
    exact ⟨_, rfl, _, _, _, [], _, [], hW', trodAll_mk1 (shut_bool Tryd.underlying4 _), (trodAll_cons_mk (Below.trod laidOut (by kernel_rfl) (of_decide_eq_true (by kernel_rfl)) h0 bel lt0) (trodAll_cons_mk (Below.trod laidOut (by kernel_rfl) (of_decide_eq_true (by kernel_rfl)) h1 bel lt1) trodAll_mk0)), rfl, bel.frame _, fun h => by cases h⟩
theorem over : Rows.volumeFindsRow.holds Tryd.pinned (OpenSpec.ofChange Rows.volumeFindsSpec) :=
  OpenClaim.holds_of_wide 5 Tryd.f5 rfl rfl rfl rfl rfl rfl rfl ⟨rfl, rfl, rfl, rfl, rfl⟩ rfl rfl rfl rfl rfl (by kernel_rfl) Tryd.func5 (by kernel_rfl)
    (of_decide_eq_true (by kernel_rfl)) (by unfold Func.isWrapper; first | (rw [if_pos (by decide +kernel)]; kernel_rfl) | (rw [if_neg (by decide +kernel)]; exact ⟨rfl, rfl⟩))
    (fun os started H enc _ => lifted os started H enc)
theorem proved : Rows.VolumeFindsSaid := over
/-- The tied card. -/
theorem carded : Rows.VolumeFindsCardSaid :=
  Claim7.holds_tied_plain_at .later [] [.data, .pinned] true (true, "44b797abb7dc278e02f578d8552ecee3e02312d9ac8cdc427f92ba0376365e80") false over (fun _ h => by cases h) (by kernel_rfl) (fun _ h => by cases h) volumeFinds_row_tie rfl ⟨rfl, rfl⟩ (by kernel_rfl) rfl
    (fun f fn hf hfn => by
      obtain rfl : f = 5 := Option.some.inj ((show Tryd.prog.funcNamed Rows.volumeFindsRow.func = some 5 by kernel_rfl).symm.trans hf) |>.symm
      obtain rfl : fn = Tryd.f5 := (Option.some.inj (Tryd.func5.symm.trans hfn)).symm
      exact ⟨by kernel_rfl, fun j t ht => by
        rw [Tryd.params5] at ht
        have hm : t ∈ [36, 36] := by simpa using Array.mem_of_getElem? ht
        have hall : ([36, 36].all fun u => !Tryd.prog.wantsStandIn u) = true := by kernel_rfl
        exact (show Tryd.prog.wantsStandIn t = false by simpa using List.all_eq_true.1 hall t hm)⟩)
    (by kernel_rfl)
#print axioms carded
end Go.Proofs.YtliahlgkinhjlaaDoor.volumeFinds
namespace Go.Proofs.YtliahlgkinhjlaaDoor
/-- The row, under a short name, for the claim. -/
theorem volumeFinds_holds : Rows.VolumeFindsCardSaid := volumeFinds.carded
end Go.Proofs.YtliahlgkinhjlaaDoor
