import Derived.Test.YtjkjoihlpnahdaaXFn
import Derived.Test.YtjkjoihlpnahdaaXS
import Derived.Test.YtjkjoihlpnahdaaAmK0
import Derived.Test.YtjkjoihlpnahdaaAmK1
import Derived.Test.YtjkjoihlpnahdaaXP2
/- That they do. -/
namespace Go.Proofs.Ytjkjoihlpnahdaa
open Go.AM Go.AX
set_option linter.unusedVariables false
set_option maxRecDepth 20000

/-- (*cartridge/cartridgeref22.Shelf).Back -/
theorem ok_cartridgeref22_Shelf_Back (d8 : Int) (labels1 : (List Int)) (in2 : (List Int)) (drives3 : (List Int)) (b4 : Nat) (b5 : Nat) (b6 : Nat) (b7 : Nat) (nd : Nd [(b4, RV 67 [OL (α := Int) b5 labels1, OL (α := Int) b6 in2, OL (α := Int) b7 drives3]), (b5, RL (α := Int) 3 labels1), (b6, RL (α := Int) 3 in2), (b7, RL (α := Int) 3 drives3)]) (r : (Int × ((List Int) × (List Int) × (List Int)))) (hX : X.cartridgeref22_Shelf_Back d8 labels1 in2 drives3 = some r) : TCX Try.prog 28 [.ref b4 0 3, Enc.v (d8 : Int)] [(b4, RV 67 [OL (α := Int) b5 labels1, OL (α := Int) b6 in2, OL (α := Int) b7 drives3]), (b5, RL (α := Int) 3 labels1), (b6, RL (α := Int) 3 in2), (b7, RL (α := Int) 3 drives3)] (fun rv h' => ∃ b25 b26 b27, rv = Enc.v (r.1 : Int) ∧ h' = [(b4, RV 67 [OL (α := Int) b25 r.2.1, OL (α := Int) b26 r.2.2.1, OL (α := Int) b27 r.2.2.2]), (b25, RL (α := Int) 3 r.2.1), (b26, RL (α := Int) 3 r.2.2.1), (b27, RL (α := Int) 3 r.2.2.2)]) := by
  refine TCX.of b28 (Nat.le_of_ble_eq_true rfl) ?_
  unfold k28
  unfold X.cartridgeref22_Shelf_Back at hX
  refine TK.seq_k fun K9 hK9 => ?_
  refine TK.reg ?_
  refine TL.p (C := cx) (gc := true) (p_mv rfl) rfl rfl ?_
  refine TL.nil ?_
  refine hK9 _ _ ?_
  refine TK.seq_k fun K10 hK10 => ?_
  refine TK.seq_k fun K11 hK11 => ?_
  refine TK.reg ?_
  refine TL.p (C := cx) (gc := true) (p_mv rfl) rfl rfl ?_
  refine TL.p (C := cx) (gc := true) (p_lss rfl rfl) rfl rfl ?_
  refine TL.p (C := cx) (gc := true) (p_mv rfl) rfl rfl ?_
  refine TL.p (C := cx) (gc := (!((decide (d8 < (0 : Int)))))) (p_mv rfl (hg := fun e => rfl)) (gcF1 rfl) rfl ?_
  refine TL.p (C := cx) (gc := (!((decide (d8 < (0 : Int)))))) (p_mv rfl (hg := fun e => rfl)) (gcF1 rfl) rfl ?_
  refine TL.p (C := cx) (gc := (!((decide (d8 < (0 : Int)))))) (p_ncR rfl (fun _ => refOK_of nd (j := 0) rfl rfl) (hg := fun e => e)) (gcF1 rfl) rfl ?_
  refine TL.p (C := cx) (gc := (!((decide (d8 < (0 : Int)))))) (p_faV fs67_2 (by decide) rfl nd (j := 0) rfl rfl (hg := fun e => e)) (gcF1 rfl) rfl ?_
  refine TL.p (C := cx) (gc := (!((decide (d8 < (0 : Int)))))) (p_ldV (v := OL (α := Int) b7 drives3) ty22 rfl rfl nd (j := 0) rfl rfl rfl rfl rfl (hg := fun e => e)) (gcF1 rfl) rfl ?_
  refine TL.p (C := cx) (gc := (!((decide (d8 < (0 : Int)))))) (p_lenR kd22 rfl (fun _ => refOK_of nd (j := 3) rfl rfl) (hg := fun e => e)) (gcF1 rfl) rfl ?_
  refine TL.p (C := cx) (gc := (!((decide (d8 < (0 : Int)))))) (p_geq rfl rfl (hg := fun e => ⟨e, e⟩)) (gcF1 rfl) rfl ?_
  refine TL.p (C := cx) (gc := true) (p_or rfl rfl (fun e => ⟨rfl, fun h => (not_t h)⟩)) rfl rfl ?_
  refine TL.nil ?_
  refine hK11 _ _ ?_
  refine TK.cond (b := ((decide (d8 < (0 : Int))) || (decide (d8 ≥ (drives3.length : Int))))) rfl (fun hc => ?_) (fun hc => ?_)
  · have hX := ite_t hc hX
    refine TK.seq_k fun K12 hK12 => ?_
    refine TK.reg ?_
    refine TL.p (C := cx) (gc := true) (p_mv rfl) rfl rfl ?_
    refine TL.nil ?_
    refine hK12 _ _ ?_
    refine TK.ret ?_
    try dsimp only [thenQ]
    exact retX (v := Enc.v ((1 : Int) : Int)) (res1 rfl) (by obtain rfl := some_in hX; exact ⟨b5, b6, b7, rfl, rfl⟩) nd (inH_val (v_val _)) ⟨rowIn_RV ⟨inH_rs nd (j := 1) rfl, inH_rs nd (j := 2) rfl, inH_rs nd (j := 3) rfl, trivial⟩, rowIn_RL, rowIn_RL, rowIn_RL, trivial⟩
  · have hX := ite_f hc hX
    refine TK.skip ?_
    refine hK10 _ _ ?_
    refine TK.seq_k fun K13 hK13 => ?_
    refine TK.seq_k fun K14 hK14 => ?_
    refine TK.reg ?_
    refine TL.p (C := cx) (gc := true) (p_mv rfl) rfl rfl ?_
    refine TL.p (C := cx) (gc := true) (p_ncR rfl (fun _ => refOK_of nd (j := 0) rfl rfl)) rfl rfl ?_
    refine TL.p (C := cx) (gc := true) (p_faV fs67_2 (by decide) rfl nd (j := 0) rfl rfl) rfl rfl ?_
    refine TL.p (C := cx) (gc := true) (p_ldV (v := OL (α := Int) b7 drives3) ty22 rfl rfl nd (j := 0) rfl rfl rfl rfl rfl) rfl rfl ?_
    refine TL.p (C := cx) (gc := true) (p_mv rfl) rfl rfl ?_
    obtain ⟨e15, he15, hX⟩ := bind_some hX
    refine TL.p (C := cx) (gc := true) (p_iaO (xs := drives3) kd22 ty3 rfl rfl rfl nd (j := 3) rfl (fun _ => he15)) rfl rfl ?_
    refine TL.p (C := cx) (gc := true) (p_ldO (xs := drives3) (a := e15) (e15 : Int) ty3 rfl rfl nd (j := 3) rfl (fun _ => he15) rfl rfl rfl) rfl rfl ?_
    refine TL.p (C := cx) (gc := true) (p_eql rfl rfl) rfl rfl ?_
    refine TL.nil ?_
    refine hK14 _ _ ?_
    refine TK.cond (b := (e15 == (0 : Int))) rfl (fun hc => ?_) (fun hc => ?_)
    · have hX := ite_t hc hX
      refine TK.seq_k fun K16 hK16 => ?_
      refine TK.reg ?_
      refine TL.p (C := cx) (gc := true) (p_mv rfl) rfl rfl ?_
      refine TL.nil ?_
      refine hK16 _ _ ?_
      refine TK.ret ?_
      try dsimp only [thenQ]
      exact retX (v := Enc.v ((11 : Int) : Int)) (res1 rfl) (by obtain rfl := some_in hX; exact ⟨b5, b6, b7, rfl, rfl⟩) nd (inH_val (v_val _)) ⟨rowIn_RV ⟨inH_rs nd (j := 1) rfl, inH_rs nd (j := 2) rfl, inH_rs nd (j := 3) rfl, trivial⟩, rowIn_RL, rowIn_RL, rowIn_RL, trivial⟩
    · have hX := ite_f hc hX
      refine TK.skip ?_
      refine hK13 _ _ ?_
      refine TK.seq_k fun K17 hK17 => ?_
      refine TK.pick [0, 2, 1, 3] nd (by decide) fun nd => ?_
      have ndS : Nd [(b5, RL (α := Int) 3 labels1), (b7, RL (α := Int) 3 drives3)] := Nd.pick nd (is := [2, 3]) (by decide)
      refine TK.drwX (h := [(b4, RV 67 [OL (α := Int) b5 labels1, OL (α := Int) b6 in2, OL (α := Int) b7 drives3]), (b6, RL (α := Int) 3 in2)]) (hS := [(b5, RL (α := Int) 3 labels1), (b7, RL (α := Int) 3 drives3)]) [(0, 0), (1, 1), (1, 2), (1, 3), (0, 4), (0, 5), (1, 6), (1, 7), (1, 8), (0, 9), (0, 10), (0, 11), (1, 12), (1, 13), (2, 14)] mixed (by kernel_rfl) (HSub_app nd) ?_
      refine DR0 (gc := true) rfl (vok_p (C := cx) (p_mv rfl)) rfl rfl ?_
      refine DR1 (gc := true) rfl (vok_p (C := cx) (p_ncR rfl (fun _ => refOK_of nd (j := 0) rfl rfl))) rfl rfl ?_
      refine DR1 (gc := true) rfl (vok_p (C := cx) (p_faV fs67_1 (by decide) rfl nd (j := 0) rfl rfl)) rfl rfl ?_
      refine DR1 (gc := true) rfl (vok_p (C := cx) (p_ldV (v := OL (α := Int) b6 in2) ty22 rfl rfl nd (j := 0) rfl rfl rfl rfl rfl)) rfl rfl ?_
      refine DR0 (gc := true) rfl (vok_p (C := cx) (p_mv rfl)) rfl rfl ?_
      refine DR0 (gc := true) rfl (vok_p (C := cx) (p_mv rfl)) rfl rfl ?_
      refine DR1 (gc := true) rfl (vok_p (C := cx) (p_ncR rfl (fun _ => refOK_of nd (j := 0) rfl rfl))) rfl rfl ?_
      refine DR1 (gc := true) rfl (vok_p (C := cx) (p_faV fs67_2 (by decide) rfl nd (j := 0) rfl rfl)) rfl rfl ?_
      refine DR1 (gc := true) rfl (vok_p (C := cx) (p_ldV (v := OL (α := Int) b7 drives3) ty22 rfl rfl nd (j := 0) rfl rfl rfl rfl rfl)) rfl rfl ?_
      refine DR0 (gc := true) rfl (vok_p (C := cx) (p_mv rfl)) rfl rfl ?_
      obtain ⟨e18, he18, hX⟩ := bind_some hX
      refine DR0 (gc := true) rfl (vok_p (C := cx) (p_iaO (xs := drives3) kd22 ty3 rfl rfl rfl ndS (j := 1) rfl (fun _ => he18))) rfl rfl ?_
      refine DR0 (gc := true) rfl (vok_p (C := cx) (p_ldO (xs := drives3) (a := e18) (e18 : Int) ty3 rfl rfl ndS (j := 1) rfl (fun _ => he18) rfl rfl rfl)) rfl rfl ?_
      obtain ⟨r19, hr19, hX⟩ := bind_some hX
      refine DR1 (gc := true) rfl (vok_lookX [.vref (ofL [Enc.v (labels1 : (List Int)), Enc.v (in2 : (List Int)), Enc.v (drives3 : (List Int))]) 3 0, Enc.v (e18 : Int)] rfl (fun _ => ⟨rfl, ⟨rfl, ⟨rfl, trivial⟩⟩⟩) ⟨look_ref (l := [OL (α := Int) b5 labels1, OL (α := Int) b6 in2, OL (α := Int) b7 drives3]) nd (j := 0) rfl ⟨look_OL nd (j := 2) rfl, look_OL nd (j := 1) rfl, look_OL nd (j := 3) rfl, trivial⟩, look_v (v := Enc.v (e18 : Int)) (v_val _), trivial⟩ (fun e => ok_cartridgeref22_Shelf_find labels1 in2 drives3 e18 _ hr19) (trivial)) rfl rfl ?_
      obtain ⟨e20, he20, hX⟩ := bind_some hX
      refine DR1 (gc := true) rfl (vok_p (C := cx) (p_iaO (xs := in2) kd22 ty3 rfl rfl rfl nd (j := 1) rfl (fun _ => he20))) rfl rfl ?_
      refine DR2n rfl ?_
      refine TL.stW (C := cx) (xs := in2) (i := r19) (lu := Enc.cl (((-1) : Int) : Int)) (a' := ((-1) : Int)) nd ty3 rfl (j := 1) rfl (by simp [Enc.sz]) (inb_of he20 (by simp)) rfl (Cells_v (((-1) : Int) : Int)) rfl (WkL_refl _) fun nd => ?_
      refine TL.cvR nd (j := 0) rfl (l' := [OL (α := Int) b5 labels1, OL (α := Int) b6 (in2.set r19.toNat ((-1) : Int)), OL (α := Int) b7 drives3]) ⟨Wk.refl _, Wk_eq (OL_len (by simp)), Wk.refl _, trivial⟩ fun nd => ?_
      refine TL.nil ⟨.nilp, [(b4, RV 67 [OL (α := Int) b5 labels1, OL (α := Int) b6 (in2.set r19.toNat ((-1) : Int)), OL (α := Int) b7 drives3]), (b6, RL (α := Int) 3 (in2.set r19.toNat ((-1) : Int)))], rfl, rfl, HSub_app nd, ?_⟩
      refine DRend ?_
      refine hK17 _ _ ?_
      refine TK.seq_k fun K21 hK21 => ?_
      refine TK.reg ?_
      refine TL.p (C := cx) (gc := true) (p_mv rfl) rfl rfl ?_
      refine TL.p (C := cx) (gc := true) (p_ncR rfl (fun _ => refOK_of nd (j := 0) rfl rfl)) rfl rfl ?_
      refine TL.p (C := cx) (gc := true) (p_faV fs67_2 (by decide) rfl nd (j := 0) rfl rfl) rfl rfl ?_
      refine TL.p (C := cx) (gc := true) (p_ldV (v := OL (α := Int) b7 drives3) ty22 rfl rfl nd (j := 0) rfl rfl rfl rfl rfl) rfl rfl ?_
      refine TL.p (C := cx) (gc := true) (p_mv rfl) rfl rfl ?_
      obtain ⟨e22, he22, hX⟩ := bind_some hX
      refine TL.p (C := cx) (gc := true) (p_iaO (xs := drives3) kd22 ty3 rfl rfl rfl nd (j := 3) rfl (fun _ => he22)) rfl rfl ?_
      refine TL.stW (C := cx) (xs := drives3) (i := d8) (lu := Enc.cl ((0 : Int) : Int)) (a' := (0 : Int)) nd ty3 rfl (j := 3) rfl (by simp [Enc.sz]) (inb_of he22 (by simp)) rfl (Cells_v ((0 : Int) : Int)) rfl (WkL_refl _) fun nd => ?_
      refine TL.cvR nd (j := 0) rfl (l' := [OL (α := Int) b5 labels1, OL (α := Int) b6 (in2.set r19.toNat ((-1) : Int)), OL (α := Int) b7 (drives3.set d8.toNat (0 : Int))]) ⟨Wk.refl _, Wk.refl _, Wk_eq (OL_len (by simp)), trivial⟩ fun nd => ?_
      refine TL.nil ?_
      refine hK21 _ _ ?_
      refine TK.seq_k fun K23 hK23 => ?_
      refine TK.reg ?_
      refine TL.p (C := cx) (gc := true) (p_mv rfl) rfl rfl ?_
      refine TL.nil ?_
      refine hK23 _ _ ?_
      refine TK.pick [0, 2, 1, 3] nd (by decide) fun nd => ?_
      refine TK.ret ?_
      try dsimp only [thenQ]
      exact retX (v := Enc.v ((0 : Int) : Int)) (res1 rfl) (by obtain rfl := some_in hX; exact ⟨b5, b6, b7, rfl, rfl⟩) nd (inH_val (v_val _)) ⟨rowIn_RV ⟨inH_rs nd (j := 1) rfl, inH_rs nd (j := 2) rfl, inH_rs nd (j := 3) rfl, trivial⟩, rowIn_RL, rowIn_RL, rowIn_RL, trivial⟩

/-- (*cartridge/cartridgeref22.Shelf).Slot -/
theorem ok_cartridgeref22_Shelf_Slot (labels1 : (List Int)) (in2 : (List Int)) (drives3 : (List Int)) (label4 : Int) (r : Int) (hX : X.cartridgeref22_Shelf_Slot labels1 in2 drives3 label4 = some r) : Fun Try.prog 30 [.vref (ofL [Enc.v (labels1 : (List Int)), Enc.v (in2 : (List Int)), Enc.v (drives3 : (List Int))]) 3 0, Enc.v (label4 : Int)] (· = Enc.v (r : Int)) := by
  refine Fun.of b30 (Nat.le_of_ble_eq_true rfl) (allVal.mem ⟨(by exact (vref_val (l := [Enc.v (labels1 : (List Int)), Enc.v (in2 : (List Int)), Enc.v (drives3 : (List Int))]) rfl ⟨(v_val _), (v_val _), (v_val _), trivial⟩)), (by exact (v_val _)), trivial⟩) ?_
  unfold k30
  have nd : Nd [] := Nd_nil
  unfold X.cartridgeref22_Shelf_Slot at hX
  refine TK.seq_k fun K5 hK5 => ?_
  refine TK.reg ?_
  refine TL.p (C := cx) (gc := true) (p_mv rfl) rfl rfl ?_
  refine TL.nil ?_
  refine hK5 _ _ ?_
  refine TK.seq_k fun K6 hK6 => ?_
  refine TK.reg ?_
  refine TL.p (C := cx) (gc := true) (p_mv rfl) rfl rfl ?_
  refine TL.p (C := cx) (gc := true) (p_mv rfl) rfl rfl ?_
  obtain ⟨r7, hr7, hX⟩ := bind_some hX
  refine TL.cvX rfl rfl rfl (fun _ => ⟨rfl, ⟨rfl, ⟨rfl, trivial⟩⟩⟩) (fun e => ok_cartridgeref22_Shelf_find labels1 in2 drives3 label4 _ hr7) ?_
  refine TL.p (C := cx) (gc := true) (p_mv rfl) rfl rfl ?_
  refine TL.nil ?_
  refine hK6 _ _ ?_
  refine TK.seq_k fun K8 hK8 => ?_
  refine TK.seq_k fun K9 hK9 => ?_
  refine TK.reg ?_
  refine TL.p (C := cx) (gc := true) (p_mv rfl) rfl rfl ?_
  refine TL.p (C := cx) (gc := true) (p_lss rfl rfl) rfl rfl ?_
  refine TL.p (C := cx) (gc := true) (p_mv rfl) rfl rfl ?_
  refine TL.p (C := cx) (gc := (!((decide (r7 < (0 : Int)))))) (p_mv rfl (hg := fun e => rfl)) (gcF1 rfl) rfl ?_
  refine TL.p (C := cx) (gc := (!((decide (r7 < (0 : Int)))))) (p_ncV rfl (hg := fun e => e)) (gcF1 rfl) rfl ?_
  refine TL.p (C := cx) (gc := (!((decide (r7 < (0 : Int)))))) (p_faR fs67_1 (by decide) rfl (hg := fun e => e)) (gcF1 rfl) rfl ?_
  refine TL.p (C := cx) (gc := (!((decide (r7 < (0 : Int)))))) (p_ldR (v := Enc.v (in2 : (List Int))) ty22 rfl rfl rfl rfl rfl rfl (hg := fun e => e)) (gcF1 rfl) rfl ?_
  refine TL.p (C := cx) (gc := (!((decide (r7 < (0 : Int)))))) (p_mv rfl (hg := fun e => rfl)) (gcF1 rfl) rfl ?_
  obtain ⟨e10, he10, hX⟩ := bind_some hX
  refine TL.p (C := cx) (gc := (!((decide (r7 < (0 : Int)))))) (p_iaL (xs := in2) kd22 ty3 rfl rfl rfl (fun e => optG_t he10 e) (hg := fun e => ⟨e, e⟩)) (gcF1 rfl) rfl ?_
  refine TL.p (C := cx) (gc := (!((decide (r7 < (0 : Int)))))) (p_ldE (xs := in2) (a := e10) (e10 : Int) ty3 rfl rfl (fun e => optG_t he10 e) rfl rfl rfl (hg := fun e => e)) (gcF1 rfl) rfl ?_
  refine TL.p (C := cx) (gc := (!((decide (r7 < (0 : Int)))))) (p_geq rfl rfl (hg := fun e => ⟨e, rfl⟩)) (gcF1 rfl) rfl ?_
  refine TL.p (C := cx) (gc := true) (p_or rfl rfl (fun e => ⟨rfl, fun h => (not_t h)⟩)) rfl rfl ?_
  refine TL.nil ?_
  refine hK9 _ _ ?_
  refine TK.cond (b := ((decide (r7 < (0 : Int))) || (decide (e10 ≥ (0 : Int))))) rfl (fun hc => ?_) (fun hc => ?_)
  · have hX := ite_t hc hX
    refine TK.seq_k fun K11 hK11 => ?_
    refine TK.reg ?_
    refine TL.p (C := cx) (gc := true) (p_mv rfl) rfl rfl ?_
    refine TL.nil ?_
    refine hK11 _ _ ?_
    refine TK.ret ?_
    try dsimp only [thenQ]
    exact ret1 (v := Enc.v (((-1) : Int) : Int)) rfl (by obtain rfl := some_in hX; rfl) (v_val _)
  · have hX := ite_f hc hX
    refine TK.skip ?_
    refine hK8 _ _ ?_
    refine TK.seq_k fun K12 hK12 => ?_
    refine TK.reg ?_
    refine TL.p (C := cx) (gc := true) (p_mv rfl) rfl rfl ?_
    refine TL.p (C := cx) (gc := true) (p_mv rfl) rfl rfl ?_
    refine TL.nil ?_
    refine hK12 _ _ ?_
    refine TK.ret ?_
    try dsimp only [thenQ]
    exact ret1 (v := Enc.v (r7 : Int)) rfl (by obtain rfl := some_in hX; rfl) (v_val _)

/-- (*cartridge/cartridgeref22.Shelf).Drive -/
theorem ok_cartridgeref22_Shelf_Drive (labels1 : (List Int)) (in2 : (List Int)) (drives3 : (List Int)) (label4 : Int) (r : Int) (hX : X.cartridgeref22_Shelf_Drive labels1 in2 drives3 label4 = some r) : Fun Try.prog 32 [.vref (ofL [Enc.v (labels1 : (List Int)), Enc.v (in2 : (List Int)), Enc.v (drives3 : (List Int))]) 3 0, Enc.v (label4 : Int)] (· = Enc.v (r : Int)) := by
  refine Fun.of b32 (Nat.le_of_ble_eq_true rfl) (allVal.mem ⟨(by exact (vref_val (l := [Enc.v (labels1 : (List Int)), Enc.v (in2 : (List Int)), Enc.v (drives3 : (List Int))]) rfl ⟨(v_val _), (v_val _), (v_val _), trivial⟩)), (by exact (v_val _)), trivial⟩) ?_
  unfold k32
  have nd : Nd [] := Nd_nil
  unfold X.cartridgeref22_Shelf_Drive at hX
  refine TK.seq_k fun K5 hK5 => ?_
  refine TK.reg ?_
  refine TL.p (C := cx) (gc := true) (p_mv rfl) rfl rfl ?_
  refine TL.nil ?_
  refine hK5 _ _ ?_
  refine TK.seq_k fun K6 hK6 => ?_
  refine TK.reg ?_
  refine TL.p (C := cx) (gc := true) (p_mv rfl) rfl rfl ?_
  refine TL.p (C := cx) (gc := true) (p_mv rfl) rfl rfl ?_
  obtain ⟨r7, hr7, hX⟩ := bind_some hX
  refine TL.cvX rfl rfl rfl (fun _ => ⟨rfl, ⟨rfl, ⟨rfl, trivial⟩⟩⟩) (fun e => ok_cartridgeref22_Shelf_find labels1 in2 drives3 label4 _ hr7) ?_
  refine TL.p (C := cx) (gc := true) (p_mv rfl) rfl rfl ?_
  refine TL.nil ?_
  refine hK6 _ _ ?_
  refine TK.seq_k fun K8 hK8 => ?_
  refine TK.seq_k fun K9 hK9 => ?_
  refine TK.reg ?_
  refine TL.p (C := cx) (gc := true) (p_mv rfl) rfl rfl ?_
  refine TL.p (C := cx) (gc := true) (p_lss rfl rfl) rfl rfl ?_
  refine TL.nil ?_
  refine hK9 _ _ ?_
  refine TK.cond (b := (decide (r7 < (0 : Int)))) rfl (fun hc => ?_) (fun hc => ?_)
  · have hX := ite_t hc hX
    refine TK.seq_k fun K10 hK10 => ?_
    refine TK.reg ?_
    refine TL.p (C := cx) (gc := true) (p_mv rfl) rfl rfl ?_
    refine TL.nil ?_
    refine hK10 _ _ ?_
    refine TK.ret ?_
    try dsimp only [thenQ]
    exact ret1 (v := Enc.v (((-1) : Int) : Int)) rfl (by obtain rfl := some_in hX; rfl) (v_val _)
  · have hX := ite_f hc hX
    refine TK.skip ?_
    refine hK8 _ _ ?_
    refine TK.seq_k fun K11 hK11 => ?_
    refine TK.reg ?_
    refine TL.p (C := cx) (gc := true) (p_mv rfl) rfl rfl ?_
    refine TL.p (C := cx) (gc := true) (p_ncV rfl) rfl rfl ?_
    refine TL.p (C := cx) (gc := true) (p_faR fs67_1 (by decide) rfl) rfl rfl ?_
    refine TL.p (C := cx) (gc := true) (p_ldR (v := Enc.v (in2 : (List Int))) ty22 rfl rfl rfl rfl rfl rfl) rfl rfl ?_
    refine TL.p (C := cx) (gc := true) (p_mv rfl) rfl rfl ?_
    obtain ⟨e12, he12, hX⟩ := bind_some hX
    refine TL.p (C := cx) (gc := true) (p_iaL (xs := in2) kd22 ty3 rfl rfl rfl (fun _ => he12)) rfl rfl ?_
    refine TL.p (C := cx) (gc := true) (p_ldE (xs := in2) (a := e12) (e12 : Int) ty3 rfl rfl (fun _ => he12) rfl rfl rfl) rfl rfl ?_
    refine TL.p (C := cx) (gc := true) (p_mv rfl) rfl rfl ?_
    refine TL.nil ?_
    refine hK11 _ _ ?_
    refine TK.ret ?_
    try dsimp only [thenQ]
    exact ret1 (v := Enc.v (e12 : Int)) rfl (by obtain rfl := some_in hX; rfl) (v_val _)

/-- (*cartridge/cartridgeref22.Shelf).Mounted -/
theorem ok_cartridgeref22_Shelf_Mounted (labels1 : (List Int)) (in2 : (List Int)) (drives3 : (List Int)) (d4 : Int) (r : Int) (hX : X.cartridgeref22_Shelf_Mounted labels1 in2 drives3 d4 = some r) : Fun Try.prog 34 [.vref (ofL [Enc.v (labels1 : (List Int)), Enc.v (in2 : (List Int)), Enc.v (drives3 : (List Int))]) 3 0, Enc.v (d4 : Int)] (· = Enc.v (r : Int)) := by
  refine Fun.of b34 (Nat.le_of_ble_eq_true rfl) (allVal.mem ⟨(by exact (vref_val (l := [Enc.v (labels1 : (List Int)), Enc.v (in2 : (List Int)), Enc.v (drives3 : (List Int))]) rfl ⟨(v_val _), (v_val _), (v_val _), trivial⟩)), (by exact (v_val _)), trivial⟩) ?_
  unfold k34
  have nd : Nd [] := Nd_nil
  unfold X.cartridgeref22_Shelf_Mounted at hX
  refine TK.seq_k fun K5 hK5 => ?_
  refine TK.reg ?_
  refine TL.p (C := cx) (gc := true) (p_mv rfl) rfl rfl ?_
  refine TL.nil ?_
  refine hK5 _ _ ?_
  refine TK.seq_k fun K6 hK6 => ?_
  refine TK.seq_k fun K7 hK7 => ?_
  refine TK.reg ?_
  refine TL.p (C := cx) (gc := true) (p_mv rfl) rfl rfl ?_
  refine TL.p (C := cx) (gc := true) (p_lss rfl rfl) rfl rfl ?_
  refine TL.p (C := cx) (gc := true) (p_mv rfl) rfl rfl ?_
  refine TL.p (C := cx) (gc := (!((decide (d4 < (0 : Int)))))) (p_mv rfl (hg := fun e => rfl)) (gcF1 rfl) rfl ?_
  refine TL.p (C := cx) (gc := (!((decide (d4 < (0 : Int)))))) (p_mv rfl (hg := fun e => rfl)) (gcF1 rfl) rfl ?_
  refine TL.p (C := cx) (gc := (!((decide (d4 < (0 : Int)))))) (p_ncV rfl (hg := fun e => e)) (gcF1 rfl) rfl ?_
  refine TL.p (C := cx) (gc := (!((decide (d4 < (0 : Int)))))) (p_faR fs67_2 (by decide) rfl (hg := fun e => e)) (gcF1 rfl) rfl ?_
  refine TL.p (C := cx) (gc := (!((decide (d4 < (0 : Int)))))) (p_ldR (v := Enc.v (drives3 : (List Int))) ty22 rfl rfl rfl rfl rfl rfl (hg := fun e => e)) (gcF1 rfl) rfl ?_
  refine TL.p (C := cx) (gc := (!((decide (d4 < (0 : Int)))))) (p_lenL (xs := drives3) kd22 rfl (hg := fun e => e)) (gcF1 rfl) rfl ?_
  refine TL.p (C := cx) (gc := (!((decide (d4 < (0 : Int)))))) (p_geq rfl rfl (hg := fun e => ⟨e, e⟩)) (gcF1 rfl) rfl ?_
  refine TL.p (C := cx) (gc := true) (p_or rfl rfl (fun e => ⟨rfl, fun h => (not_t h)⟩)) rfl rfl ?_
  refine TL.nil ?_
  refine hK7 _ _ ?_
  refine TK.cond (b := ((decide (d4 < (0 : Int))) || (decide (d4 ≥ (drives3.length : Int))))) rfl (fun hc => ?_) (fun hc => ?_)
  · have hX := ite_t hc hX
    refine TK.seq_k fun K8 hK8 => ?_
    refine TK.reg ?_
    refine TL.p (C := cx) (gc := true) (p_mv rfl) rfl rfl ?_
    refine TL.nil ?_
    refine hK8 _ _ ?_
    refine TK.ret ?_
    try dsimp only [thenQ]
    exact ret1 (v := Enc.v ((0 : Int) : Int)) rfl (by obtain rfl := some_in hX; rfl) (v_val _)
  · have hX := ite_f hc hX
    refine TK.skip ?_
    refine hK6 _ _ ?_
    refine TK.seq_k fun K9 hK9 => ?_
    refine TK.reg ?_
    refine TL.p (C := cx) (gc := true) (p_mv rfl) rfl rfl ?_
    refine TL.p (C := cx) (gc := true) (p_ncV rfl) rfl rfl ?_
    refine TL.p (C := cx) (gc := true) (p_faR fs67_2 (by decide) rfl) rfl rfl ?_
    refine TL.p (C := cx) (gc := true) (p_ldR (v := Enc.v (drives3 : (List Int))) ty22 rfl rfl rfl rfl rfl rfl) rfl rfl ?_
    refine TL.p (C := cx) (gc := true) (p_mv rfl) rfl rfl ?_
    obtain ⟨e10, he10, hX⟩ := bind_some hX
    refine TL.p (C := cx) (gc := true) (p_iaL (xs := drives3) kd22 ty3 rfl rfl rfl (fun _ => he10)) rfl rfl ?_
    refine TL.p (C := cx) (gc := true) (p_ldE (xs := drives3) (a := e10) (e10 : Int) ty3 rfl rfl (fun _ => he10) rfl rfl rfl) rfl rfl ?_
    refine TL.p (C := cx) (gc := true) (p_mv rfl) rfl rfl ?_
    refine TL.nil ?_
    refine hK9 _ _ ?_
    refine TK.ret ?_
    try dsimp only [thenQ]
    exact ret1 (v := Enc.v (e10 : Int)) rfl (by obtain rfl := some_in hX; rfl) (v_val _)

end Go.Proofs.Ytjkjoihlpnahdaa
