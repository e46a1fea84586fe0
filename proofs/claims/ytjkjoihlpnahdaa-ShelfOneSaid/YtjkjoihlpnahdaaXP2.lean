import Derived.Test.YtjkjoihlpnahdaaXFn
import Derived.Test.YtjkjoihlpnahdaaXS
import Derived.Test.YtjkjoihlpnahdaaAmK0
import Derived.Test.YtjkjoihlpnahdaaAmK1
import Derived.Test.YtjkjoihlpnahdaaXP1
/- That they do. -/
namespace Go.Proofs.Ytjkjoihlpnahdaa
open Go.AM Go.AX
set_option linter.unusedVariables false
set_option maxRecDepth 20000

/-- cartridge/cartridgeref22.NewShelf -/
theorem ok_cartridgeref22_NewShelf (labels1 : (List Int)) (drives2 : Int) (nd : Nd []) (r : ((Option ((List Int) × (List Int) × (List Int))) × Int)) (hX : X.cartridgeref22_NewShelf labels1 drives2 = some r) : TCX Try.prog 23 [Enc.v (labels1 : (List Int)), Enc.v (drives2 : Int)] [] (fun rv h' => match r.1 with | none => (rv = .tup 2 (ofL [.nilp, Enc.v (r.2 : Int)]) ∧ h' = []) | some ov => (∃ b43 b44 b45 b46, rv = .tup 2 (ofL [.ref b43 0 3, Enc.v (r.2 : Int)]) ∧ h' = [(b43, RV 67 [OL (α := Int) b44 ov.1, OL (α := Int) b45 ov.2.1, OL (α := Int) b46 ov.2.2]), (b44, RL (α := Int) 3 ov.1), (b45, RL (α := Int) 3 ov.2.1), (b46, RL (α := Int) 3 ov.2.2)])) := by
  refine TCX.of b23 (Nat.le_of_ble_eq_true rfl) ?_
  unfold k23
  unfold X.cartridgeref22_NewShelf at hX
  refine TK.seq_k fun K3 hK3 => ?_
  refine TK.reg ?_
  refine TL.p (C := cx) (gc := true) (p_mv rfl) rfl rfl ?_
  refine TL.p (C := cx) (gc := true) (p_mv rfl) rfl rfl ?_
  refine TL.nil ?_
  refine hK3 _ _ ?_
  refine TK.seq_k fun K4 hK4 => ?_
  refine TK.seq_k fun K5 hK5 => ?_
  refine TK.reg ?_
  refine TL.p (C := cx) (gc := true) (p_mv rfl) rfl rfl ?_
  refine TL.p (C := cx) (gc := true) (p_lenL (xs := labels1) kd22 rfl) rfl rfl ?_
  refine TL.p (C := cx) (gc := true) (p_gtr rfl rfl) rfl rfl ?_
  refine TL.p (C := cx) (gc := true) (p_mv rfl) rfl rfl ?_
  refine TL.p (C := cx) (gc := (!((decide ((labels1.length : Int) > (30 : Int)))))) (p_mv rfl (hg := fun e => rfl)) (gcF1 rfl) rfl ?_
  refine TL.p (C := cx) (gc := (!((decide ((labels1.length : Int) > (30 : Int)))))) (p_lss rfl rfl (hg := fun e => ⟨e, rfl⟩)) (gcF1 rfl) rfl ?_
  refine TL.p (C := cx) (gc := true) (p_or rfl rfl (fun e => ⟨rfl, fun h => (not_t h)⟩)) rfl rfl ?_
  refine TL.p (C := cx) (gc := true) (p_mv rfl) rfl rfl ?_
  refine TL.p (C := cx) (gc := (!(((decide ((labels1.length : Int) > (30 : Int))) || (decide (drives2 < (1 : Int))))))) (p_mv rfl (hg := fun e => rfl)) (gcF1 rfl) rfl ?_
  refine TL.p (C := cx) (gc := (!(((decide ((labels1.length : Int) > (30 : Int))) || (decide (drives2 < (1 : Int))))))) (p_gtr rfl rfl (hg := fun e => ⟨e, rfl⟩)) (gcF1 rfl) rfl ?_
  refine TL.p (C := cx) (gc := true) (p_or rfl rfl (fun e => ⟨rfl, fun h => (not_t h)⟩)) rfl rfl ?_
  refine TL.nil ?_
  refine hK5 _ _ ?_
  refine TK.cond (b := (((decide ((labels1.length : Int) > (30 : Int))) || (decide (drives2 < (1 : Int)))) || (decide (drives2 > (4 : Int))))) rfl (fun hc => ?_) (fun hc => ?_)
  · have hX := ite_t hc hX
    refine TK.seq_k fun K6 hK6 => ?_
    refine TK.reg ?_
    refine TL.p (C := cx) (gc := true) (p_mv rfl) rfl rfl ?_
    refine TL.p (C := cx) (gc := true) (p_mv rfl) rfl rfl ?_
    refine TL.nil ?_
    refine hK6 _ _ ?_
    refine TK.ret ?_
    try dsimp only [thenQ]
    exact retX (v := .tup 2 (ofL [.nilp, Enc.v ((1 : Int) : Int)])) (resN (vs := [.nilp, Enc.v ((1 : Int) : Int)]) ⟨rfl, rfl, trivial⟩) (by obtain rfl := some_in hX; exact ⟨rfl, rfl⟩) nd (inH_tup (l := [.nilp, Enc.v ((1 : Int) : Int)]) ⟨trivial, inH_val (v_val _), trivial⟩) trivial
  · have hX := ite_f hc hX
    refine TK.skip ?_
    refine hK4 _ _ ?_
    refine TK.seq_k fun K7 hK7 => ?_
    refine TK.reg ?_
    refine TL.p (C := cx) (gc := true) (p_mv rfl) rfl rfl ?_
    obtain ⟨u8, hu8, hX⟩ := bind_some hX
    refine TL.mkO (C := cx) nd (0 : Int) kd22 ty3 rfl (fun j hj => by (have : j = 0 := by simpa [Enc.sz] using hj); subst this; rfl) rfl rfl (by decide) (need_t hu8) rfl fun b9 nd => ?_
    refine TL.p (C := cx) (gc := true) (p_bld (l := [.nils, .nils, OL (α := Int) b9 (List.replicate drives2.toNat (0 : Int))]) ty67 rfl all67 rfl (fun _ => ⟨⟨rfl, (refOK_of nd (j := 0) rfl rfl), rfl⟩, trivial⟩)) rfl rfl ?_
    refine TL.boxO (C := cx) (lu := [.nils, .nils, OL (α := Int) b9 (List.replicate drives2.toNat (0 : Int))]) nd rfl (Cells_agg rfl (allA.mem ⟨trivial, trivial, oneA_rs (refOK_of nd (j := 0) rfl rfl), trivial⟩)) rfl fun b10 nd => ?_
    refine TL.p (C := cx) (gc := true) (p_mv rfl) rfl rfl ?_
    refine TL.nil ?_
    refine hK7 _ _ ?_
    refine TK.ownC (α := Int) nd (j := 0) rfl 0 3 (.inl rfl) fun b11 nd => ?_
    refine TK.ownC (α := Int) nd (j := 1) rfl 1 3 (.inl rfl) fun b12 nd => ?_
    refine TK.seq_k fun K13 hK13 => ?_
    refine TK.seq_k fun K14 hK14 => ?_
    refine TK.reg ?_
    refine TL.p (C := cx) (gc := true) (p_mv rfl) rfl rfl ?_
    refine TL.nil ?_
    refine hK14 _ _ ?_
    refine TK.block ?_
    obtain ⟨o15, hO15, hA15⟩ := bind_some hX
    have E15 : ∀ (l25 : List Int) (l27 : List Int) (env : Env) (h : Hp), (∃ b24 b26 b28 b23, keepE [6] env = [(6, true, .ref b23 0 3)] ∧ Nd [(b24, RL (α := Int) 3 l25), (b26, RL (α := Int) 3 l27), (b28, RL (α := Int) 3 (List.replicate drives2.toNat (0 : Int))), (b23, RV 67 [OL (α := Int) b24 l25, OL (α := Int) b26 l27, OL (α := Int) b28 (List.replicate drives2.toNat (0 : Int))])] ∧ HSub [(b24, RL (α := Int) 3 l25), (b26, RL (α := Int) 3 l27), (b28, RL (α := Int) 3 (List.replicate drives2.toNat (0 : Int))), (b23, RV 67 [OL (α := Int) b24 l25, OL (α := Int) b26 l27, OL (α := Int) b28 (List.replicate drives2.toNat (0 : Int))])] h) → X.cartridgeref22_NewShelf_e15 drives2 l25 l27 = some r → K13 env h := by
      intro l25 l27 env h hE hX
      obtain ⟨b24, b26, b28, b23, henv, nd, hs⟩ := hE
      unfold X.cartridgeref22_NewShelf_e15 at hX
      refine hK13 _ _ (TK.keep [6] ?_)
      rw [henv]
      refine TK.subH hs ?_
      refine TK.seq_k fun K29 hK29 => ?_
      refine TK.reg ?_
      refine TL.p (C := cx) (gc := true) (p_mv rfl) rfl rfl ?_
      refine TL.p (C := cx) (gc := true) (p_mv rfl) rfl rfl ?_
      refine TL.p (C := cx) (gc := true) (p_mv rfl) rfl rfl ?_
      refine TL.nil ?_
      refine hK29 _ _ ?_
      refine TK.pick [3, 0, 1, 2] nd (by decide) fun nd => ?_
      refine TK.ret ?_
      try dsimp only [thenQ]
      exact retX (v := .tup 2 (ofL [.ref b23 0 3, Enc.v ((0 : Int) : Int)])) (resN (vs := [.ref b23 0 3, Enc.v ((0 : Int) : Int)]) ⟨rfl, rfl, trivial⟩) (by obtain rfl := some_in hX; exact ⟨b23, b24, b26, b28, rfl, rfl⟩) nd (inH_tup (l := [.ref b23 0 3, Enc.v ((0 : Int) : Int)]) ⟨inH_ref nd (j := 0) rfl, inH_val (v_val _), trivial⟩) ⟨rowIn_RV ⟨inH_rs nd (j := 1) rfl, inH_rs nd (j := 2) rfl, inH_rs nd (j := 3) rfl, trivial⟩, rowIn_RL, rowIn_RL, rowIn_RL, trivial⟩
    refine TK.iter [0, 6, 7] (fun s env h => match s with | (l18, l20, i22) => ∃ b17 b19 b21 b16, env = [(0, true, Enc.v (labels1 : (List Int))), (6, true, .ref b16 0 3), (7, true, Enc.v (i22 : Int))] ∧ Nd [(b17, RL (α := Int) 3 l18), (b19, RL (α := Int) 3 l20), (b21, RL (α := Int) 3 (List.replicate drives2.toNat (0 : Int))), (b16, RV 67 [OL (α := Int) b17 l18, OL (α := Int) b19 l20, OL (α := Int) b21 (List.replicate drives2.toNat (0 : Int))])] ∧ HSub [(b17, RL (α := Int) 3 l18), (b19, RL (α := Int) 3 l20), (b21, RL (α := Int) 3 (List.replicate drives2.toNat (0 : Int))), (b16, RV 67 [OL (α := Int) b17 l18, OL (α := Int) b19 l20, OL (α := Int) b21 (List.replicate drives2.toNat (0 : Int))])] h) hO15 ⟨b11, b12, b9, b10, rfl, (Nd.pick nd (is := [1, 0, 3, 2]) (by decide)), (HSub.pick nd (is := [1, 0, 3, 2]) (by decide))⟩ ?_
    rintro ⟨l18, l20, i22⟩ env h x15x ⟨b17, b19, b21, b16, rfl, nd, hs⟩ hX hR15
    refine TK.subH hs ?_
    unfold X.cartridgeref22_NewShelf_s15 at hX
    try dsimp only at hX
    refine TK.seq_k fun K30 hK30 => ?_
    refine TK.seq_k fun K31 hK31 => ?_
    refine TK.reg ?_
    refine TL.p (C := cx) (gc := true) (p_mv rfl) rfl rfl ?_
    refine TL.p (C := cx) (gc := true) (p_mv rfl) rfl rfl ?_
    refine TL.p (C := cx) (gc := true) (p_lenL (xs := labels1) kd22 rfl) rfl rfl ?_
    refine TL.p (C := cx) (gc := true) (p_lss rfl rfl) rfl rfl ?_
    refine TL.nil ?_
    refine hK31 _ _ ?_
    refine TK.cond (b := (decide (i22 < (labels1.length : Int)))) rfl (fun hc => ?_) (fun hc => ?_)
    · have hX := ite_t hc hX
      refine TK.skip ?_
      refine hK30 _ _ ?_
      refine TK.seq_k fun K32 hK32 => ?_
      refine TK.block ?_
      refine TK.seq_k fun K33 hK33 => ?_
      refine TK.seq_k fun K34 hK34 => ?_
      refine TK.reg ?_
      refine TL.p (C := cx) (gc := true) (p_mv rfl) rfl rfl ?_
      refine TL.p (C := cx) (gc := true) (p_mv rfl) rfl rfl ?_
      obtain ⟨e35, he35, hX⟩ := bind_some hX
      refine TL.p (C := cx) (gc := true) (p_iaL (xs := labels1) kd22 ty3 rfl rfl rfl (fun _ => he35)) rfl rfl ?_
      refine TL.p (C := cx) (gc := true) (p_ldE (xs := labels1) (a := e35) (e35 : Int) ty3 rfl rfl (fun _ => he35) rfl rfl rfl) rfl rfl ?_
      refine TL.p (C := cx) (gc := true) (p_lss rfl rfl) rfl rfl ?_
      refine TL.p (C := cx) (gc := true) (p_mv rfl) rfl rfl ?_
      refine TL.p (C := cx) (gc := (!((decide (e35 < (1 : Int)))))) (p_mv rfl (hg := fun e => rfl)) (gcF1 rfl) rfl ?_
      refine TL.p (C := cx) (gc := (!((decide (e35 < (1 : Int)))))) (p_mv rfl (hg := fun e => rfl)) (gcF1 rfl) rfl ?_
      refine TL.p (C := cx) (gc := (!((decide (e35 < (1 : Int)))))) (p_mv rfl (hg := fun e => rfl)) (gcF1 rfl) rfl ?_
      obtain ⟨e36, he36, hX⟩ := bind_some hX
      refine TL.p (C := cx) (gc := (!((decide (e35 < (1 : Int)))))) (p_iaL (xs := labels1) kd22 ty3 rfl rfl rfl (fun e => optG_t he36 e) (hg := fun e => ⟨e, e⟩)) (gcF1 rfl) rfl ?_
      refine TL.p (C := cx) (gc := (!((decide (e35 < (1 : Int)))))) (p_ldE (xs := labels1) (a := e36) (e36 : Int) ty3 rfl rfl (fun e => optG_t he36 e) rfl rfl rfl (hg := fun e => e)) (gcF1 rfl) rfl ?_
      obtain ⟨r37, hr37, hX⟩ := bind_some hX
      refine TL.lookX [.vref (ofL [Enc.v (l18 : (List Int)), Enc.v (l20 : (List Int)), Enc.v ((List.replicate drives2.toNat (0 : Int)) : (List Int))]) 3 0, Enc.v (e36 : Int)] (gcF1 rfl) rfl rfl (fun e => ⟨rfl, ⟨e, ⟨e, trivial⟩⟩⟩) ⟨look_ref (l := [OL (α := Int) b17 l18, OL (α := Int) b19 l20, OL (α := Int) b21 (List.replicate drives2.toNat (0 : Int))]) nd (j := 3) rfl ⟨look_OL nd (j := 0) rfl, look_OL nd (j := 1) rfl, look_OL nd (j := 2) rfl, trivial⟩, look_v (v := Enc.v (e36 : Int)) (v_val _), trivial⟩ (fun e => ok_cartridgeref22_Shelf_find l18 l20 (List.replicate drives2.toNat (0 : Int)) e36 _ (optG_t hr37 e)) (trivial) ?_
      refine TL.p (C := cx) (gc := (!((decide (e35 < (1 : Int)))))) (p_geq rfl rfl (hg := fun e => ⟨e, rfl⟩)) (gcF1 rfl) rfl ?_
      refine TL.p (C := cx) (gc := true) (p_or rfl rfl (fun e => ⟨rfl, fun h => (not_t h)⟩)) rfl rfl ?_
      refine TL.nil ?_
      refine hK34 _ _ ?_
      refine TK.cond (b := ((decide (e35 < (1 : Int))) || (decide (r37 ≥ (0 : Int))))) rfl (fun hc => ?_) (fun hc => ?_)
      · have hX := ite_t hc hX
        refine TK.seq_k fun K38 hK38 => ?_
        refine TK.reg ?_
        refine TL.p (C := cx) (gc := true) (p_mv rfl) rfl rfl ?_
        refine TL.p (C := cx) (gc := true) (p_mv rfl) rfl rfl ?_
        refine TL.nil ?_
        refine hK38 _ _ ?_
        refine TK.pick [] nd (by decide) fun nd => ?_
        refine TK.ret ?_
        obtain rfl := hR15 _ (some_in hX).symm
        replace hX := hA15
        try dsimp only [thenQ]
        exact retX (v := .tup 2 (ofL [.nilp, Enc.v ((1 : Int) : Int)])) (resN (vs := [.nilp, Enc.v ((1 : Int) : Int)]) ⟨rfl, rfl, trivial⟩) (by obtain rfl := some_in hX; exact ⟨rfl, rfl⟩) nd (inH_tup (l := [.nilp, Enc.v ((1 : Int) : Int)]) ⟨trivial, inH_val (v_val _), trivial⟩) trivial
      · have hX := ite_f hc hX
        refine TK.skip ?_
        refine hK33 _ _ ?_
        refine TK.seq_k fun K39 hK39 => ?_
        refine TK.pick [0, 3, 1, 2] nd (by decide) fun nd => ?_
        have ndS : Nd [(b19, RL (α := Int) 3 l20), (b21, RL (α := Int) 3 (List.replicate drives2.toNat (0 : Int)))] := Nd.pick nd (is := [2, 3]) (by decide)
        refine TK.drwX (h := [(b17, RL (α := Int) 3 l18), (b16, RV 67 [OL (α := Int) b17 l18, OL (α := Int) b19 l20, OL (α := Int) b21 (List.replicate drives2.toNat (0 : Int))])]) (hS := [(b19, RL (α := Int) 3 l20), (b21, RL (α := Int) 3 (List.replicate drives2.toNat (0 : Int)))]) [(0, 0), (0, 1), (1, 2), (1, 3), (1, 4), (0, 5), (0, 6), (0, 7), (0, 8), (0, 9), (2, 10), (1, 11), (1, 12), (2, 13)] mixed (by kernel_rfl) (HSub_app nd) ?_
        refine DR0 (gc := true) rfl (vok_p (C := cx) (p_mv rfl)) rfl rfl ?_
        refine DR0 (gc := true) rfl (vok_p (C := cx) (p_mv rfl)) rfl rfl ?_
        refine DR1 (gc := true) rfl (vok_p (C := cx) (p_ncR rfl (fun _ => refOK_of nd (j := 1) rfl rfl))) rfl rfl ?_
        refine DR1 (gc := true) rfl (vok_p (C := cx) (p_faV fs67_0 (by decide) rfl nd (j := 1) rfl rfl)) rfl rfl ?_
        refine DR1 (gc := true) rfl (vok_p (C := cx) (p_ldV (v := OL (α := Int) b17 l18) ty22 rfl rfl nd (j := 1) rfl rfl rfl rfl rfl)) rfl rfl ?_
        refine DR0 (gc := true) rfl (vok_p (C := cx) (p_mv rfl)) rfl rfl ?_
        refine DR0 (gc := true) rfl (vok_p (C := cx) (p_mv rfl)) rfl rfl ?_
        obtain ⟨e40, he40, hX⟩ := bind_some hX
        refine DR0 (gc := true) rfl (vok_p (C := cx) (p_iaL (xs := labels1) kd22 ty3 rfl rfl rfl (fun _ => he40))) rfl rfl ?_
        refine DR0 (gc := true) rfl (vok_p (C := cx) (p_ldE (xs := labels1) (a := e40) (e40 : Int) ty3 rfl rfl (fun _ => he40) rfl rfl rfl)) rfl rfl ?_
        refine DR0 (gc := true) rfl (vok_lit (C := cx) ([e40] : List Int) kd22 ty3 rfl ⟨⟨rfl, rfl⟩, trivial⟩ rfl rfl) rfl rfl ?_
        obtain ⟨u41, hu41, hX⟩ := bind_some hX
        refine DR2 rfl rfl ?_
        refine TL.appO (C := cx) nd kd22 bo22 ty3 rfl rfl (j := 0) rfl rfl (Src_L _) (by decide) (need_t hu41) rfl fun nd => ?_
        refine TL.nil ⟨_, [(b17, RL (α := Int) 3 (l18 ++ ([e40] : List Int))), (b16, RV 67 [OL (α := Int) b17 l18, OL (α := Int) b19 l20, OL (α := Int) b21 (List.replicate drives2.toNat (0 : Int))])], rfl, rfl, HSub_app nd, ?_⟩
        refine DR1 (gc := true) rfl (vok_p (C := cx) (p_ncR rfl (fun _ => refOK_of nd (j := 1) rfl rfl))) rfl rfl ?_
        refine DR1 (gc := true) rfl (vok_p (C := cx) (p_faV fs67_0 (by decide) rfl nd (j := 1) rfl rfl)) rfl rfl ?_
        refine DR2n rfl ?_
        refine TL.stV (C := cx) (lu := [OL (α := Int) b17 (l18 ++ ([e40] : List Int))]) nd ty22 rfl (j := 1) rfl rfl rfl (Cells_rs (refOK_of nd (j := 0) rfl rfl)) rfl rfl [OL (α := Int) b17 (l18 ++ ([e40] : List Int)), OL (α := Int) b19 l20, OL (α := Int) b21 (List.replicate drives2.toNat (0 : Int))] rfl fun nd => ?_
        refine TL.nil ⟨.nilp, [(b17, RL (α := Int) 3 (l18 ++ ([e40] : List Int))), (b16, RV 67 [OL (α := Int) b17 (l18 ++ ([e40] : List Int)), OL (α := Int) b19 l20, OL (α := Int) b21 (List.replicate drives2.toNat (0 : Int))])], rfl, rfl, HSub_app nd, ?_⟩
        refine DRend ?_
        refine hK39 _ _ ?_
        refine TK.reg ?_
        refine TL.p (C := cx) (gc := true) (p_mv rfl) rfl rfl ?_
        refine TL.p (C := cx) (gc := true) (p_mv rfl) rfl rfl ?_
        refine TL.p (C := cx) (gc := true) (p_ncR rfl (fun _ => refOK_of nd (j := 1) rfl rfl)) rfl rfl ?_
        refine TL.p (C := cx) (gc := true) (p_faV fs67_1 (by decide) rfl nd (j := 1) rfl rfl) rfl rfl ?_
        refine TL.p (C := cx) (gc := true) (p_ldV (v := OL (α := Int) b19 l20) ty22 rfl rfl nd (j := 1) rfl rfl rfl rfl rfl) rfl rfl ?_
        refine TL.lit (C := cx) ([((-1) : Int)] : List Int) kd22 ty3 rfl ⟨⟨rfl, rfl⟩, trivial⟩ rfl rfl rfl ?_
        obtain ⟨u42, hu42, hX⟩ := bind_some hX
        refine TL.appO (C := cx) nd kd22 bo22 ty3 rfl rfl (j := 2) rfl rfl (Src_L _) (by decide) (need_t hu42) rfl fun nd => ?_
        refine TL.p (C := cx) (gc := true) (p_ncR rfl (fun _ => refOK_of nd (j := 1) rfl rfl)) rfl rfl ?_
        refine TL.p (C := cx) (gc := true) (p_faV fs67_1 (by decide) rfl nd (j := 1) rfl rfl) rfl rfl ?_
        refine TL.stV (C := cx) (lu := [OL (α := Int) b19 (l20 ++ ([((-1) : Int)] : List Int))]) nd ty22 rfl (j := 1) rfl rfl rfl (Cells_rs (refOK_of nd (j := 2) rfl rfl)) rfl rfl [OL (α := Int) b17 (l18 ++ ([e40] : List Int)), OL (α := Int) b19 (l20 ++ ([((-1) : Int)] : List Int)), OL (α := Int) b21 (List.replicate drives2.toNat (0 : Int))] rfl fun nd => ?_
        refine TL.nil ?_
        refine hK32 _ _ ?_
        refine TK.reg ?_
        refine TL.p (C := cx) (gc := true) (p_mv rfl) rfl rfl ?_
        refine TL.p (C := cx) (gc := true) (p_add rfl rfl) rfl rfl ?_
        refine TL.p (C := cx) (gc := true) (p_mv rfl) rfl rfl ?_
        refine TL.nil ?_
        exact ⟨_, (some_in hX).symm, b17, b19, b21, b16, rfl, (Nd.pick nd (is := [0, 2, 3, 1]) (by decide)), (HSub.pick nd (is := [0, 2, 3, 1]) (by decide))⟩
    · have hX := ite_f hc hX
      refine TK.exit ?_
      obtain rfl := hR15 _ (some_in hX).symm
      exact E15 l18 l20 _ _ ⟨b17, b19, b21, b16, rfl, (Nd.pick nd (is := [0, 1, 2, 3]) (by decide)), (HSub.pick nd (is := [0, 1, 2, 3]) (by decide))⟩ hA15

/-- (*cartridge/shelf.Shelf).is -/
theorem ok_shelf_Shelf_is_nil (label1 : Int) (r : Bool) (hX : X.shelf_Shelf_is_nil label1 = some r) : Fun Try.prog 41 [.nilp, Enc.v (label1 : Int)] (· = Enc.v (r : Bool)) := by
  refine Fun.of b41 (Nat.le_of_ble_eq_true rfl) (allVal.mem ⟨(by exact trivial), (by exact (v_val _)), trivial⟩) ?_
  unfold k41
  have nd : Nd [] := Nd_nil
  unfold X.shelf_Shelf_is_nil at hX
  refine TK.seq_k fun K2 hK2 => ?_
  refine TK.reg ?_
  refine TL.p (C := cx) (gc := true) (p_mv rfl) rfl rfl ?_
  refine TL.nil ?_
  refine hK2 _ _ ?_
  refine TK.seq_k fun K3 hK3 => ?_
  refine TK.reg ?_
  refine TL.p (C := cx) (gc := true) (p_mv rfl) rfl rfl ?_
  refine TL.p (C := cx) (gc := true) (p_neN kd48 rfl rfl) rfl rfl ?_
  refine TL.p (C := cx) (gc := true) (p_mv rfl) rfl rfl ?_
  refine TL.p (C := cx) (gc := false) (v := .nilp) (fun e => by cases e) rfl rfl ?_
  refine TL.p (C := cx) (gc := false) (v := .nilp) (fun e => by cases e) rfl rfl ?_
  refine TL.p (C := cx) (gc := false) (v := .nilp) (fun e => by cases e) rfl rfl ?_
  refine TL.p (C := cx) (gc := false) (v := .nilp) (fun e => by cases e) rfl rfl ?_
  refine TL.p (C := cx) (gc := false) (v := Enc.v ((0 : Int) : Int)) (fun e => by cases e) rfl rfl ?_
  refine TL.p (C := cx) (gc := false) (v := Enc.v (false : Bool)) (fun e => by cases e) rfl rfl ?_
  refine TL.p (C := cx) (gc := true) (p_and rfl rfl (fun e => ⟨rfl, fun h => h⟩)) rfl rfl ?_
  refine TL.p (C := cx) (gc := true) (p_mv rfl) rfl rfl ?_
  refine TL.nil ?_
  refine hK3 _ _ ?_
  refine TK.ret ?_
  try dsimp only [thenQ]
  exact ret1 (v := Enc.v (false : Bool)) rfl (by obtain rfl := some_in hX; rfl) (v_val _)

/-- (*cartridge/shelf.Shelf).drive -/
theorem ok_shelf_Shelf_drive_nil (i1 : Int) (r : Bool) (hX : X.shelf_Shelf_drive_nil i1 = some r) : Fun Try.prog 42 [.nilp, Enc.v (i1 : Int)] (· = Enc.v (r : Bool)) := by
  refine Fun.of b42 (Nat.le_of_ble_eq_true rfl) (allVal.mem ⟨(by exact trivial), (by exact (v_val _)), trivial⟩) ?_
  unfold k42
  have nd : Nd [] := Nd_nil
  unfold X.shelf_Shelf_drive_nil at hX
  refine TK.seq_k fun K2 hK2 => ?_
  refine TK.reg ?_
  refine TL.p (C := cx) (gc := true) (p_mv rfl) rfl rfl ?_
  refine TL.nil ?_
  refine hK2 _ _ ?_
  refine TK.seq_k fun K3 hK3 => ?_
  refine TK.reg ?_
  refine TL.p (C := cx) (gc := true) (p_mv rfl) rfl rfl ?_
  refine TL.p (C := cx) (gc := true) (p_neN kd48 rfl rfl) rfl rfl ?_
  refine TL.p (C := cx) (gc := true) (p_mv rfl) rfl rfl ?_
  refine TL.p (C := cx) (gc := false) (v := Enc.v ((0 : Int) : Int)) (fun e => by cases e) rfl rfl ?_
  refine TL.p (C := cx) (gc := false) (v := Enc.v (false : Bool)) (fun e => by cases e) rfl rfl ?_
  refine TL.p (C := cx) (gc := true) (p_and rfl rfl (fun e => ⟨rfl, fun h => h⟩)) rfl rfl ?_
  refine TL.p (C := cx) (gc := true) (p_mv rfl) rfl rfl ?_
  refine TL.p (C := cx) (gc := false) (v := Enc.v ((0 : Int) : Int)) (fun e => by cases e) rfl rfl ?_
  refine TL.p (C := cx) (gc := false) (v := .nilp) (fun e => by cases e) rfl rfl ?_
  refine TL.p (C := cx) (gc := false) (v := .nilp) (fun e => by cases e) rfl rfl ?_
  refine TL.p (C := cx) (gc := false) (v := .nilp) (fun e => by cases e) rfl rfl ?_
  refine TL.p (C := cx) (gc := false) (v := .nilp) (fun e => by cases e) rfl rfl ?_
  refine TL.p (C := cx) (gc := false) (v := Enc.v ((0 : Int) : Int)) (fun e => by cases e) rfl rfl ?_
  refine TL.p (C := cx) (gc := false) (v := Enc.v (false : Bool)) (fun e => by cases e) rfl rfl ?_
  refine TL.p (C := cx) (gc := true) (p_and rfl rfl (fun e => ⟨rfl, fun h => h⟩)) rfl rfl ?_
  refine TL.p (C := cx) (gc := true) (p_mv rfl) rfl rfl ?_
  refine TL.nil ?_
  refine hK3 _ _ ?_
  refine TK.ret ?_
  try dsimp only [thenQ]
  exact ret1 (v := Enc.v (false : Bool)) rfl (by obtain rfl := some_in hX; rfl) (v_val _)

/-- (*cartridge/shelf.Shelf).Drive -/
theorem ok_shelf_Shelf_Drive_nil (label1 : Int) (r : Int) (hX : X.shelf_Shelf_Drive_nil label1 = some r) : Fun Try.prog 31 [.nilp, Enc.v (label1 : Int)] (· = Enc.v (r : Int)) := by
  refine Fun.of b31 (Nat.le_of_ble_eq_true rfl) (allVal.mem ⟨(by exact trivial), (by exact (v_val _)), trivial⟩) ?_
  unfold k31
  have nd : Nd [] := Nd_nil
  unfold X.shelf_Shelf_Drive_nil at hX
  refine TK.seq_k fun K2 hK2 => ?_
  refine TK.reg ?_
  refine TL.p (C := cx) (gc := true) (p_mv rfl) rfl rfl ?_
  refine TL.nil ?_
  refine hK2 _ _ ?_
  refine TK.seq_k fun K3 hK3 => ?_
  refine TK.seq_k fun K4 hK4 => ?_
  refine TK.reg ?_
  refine TL.p (C := cx) (gc := true) (p_mv rfl) rfl rfl ?_
  refine TL.p (C := cx) (gc := true) (p_mv rfl) rfl rfl ?_
  obtain ⟨r5, hr5, hX⟩ := bind_some hX
  refine TL.cvX rfl rfl rfl (fun _ => ⟨rfl, ⟨rfl, ⟨rfl, trivial⟩⟩⟩) (fun e => ok_shelf_Shelf_is_nil label1 _ hr5) ?_
  refine TL.p (C := cx) (gc := true) (p_not rfl) rfl rfl ?_
  refine TL.nil ?_
  refine hK4 _ _ ?_
  refine TK.cond (b := (!r5)) rfl (fun hc => ?_) (fun hc => ?_)
  · have hX := ite_t hc hX
    refine TK.seq_k fun K6 hK6 => ?_
    refine TK.reg ?_
    refine TL.p (C := cx) (gc := true) (p_mv rfl) rfl rfl ?_
    refine TL.nil ?_
    refine hK6 _ _ ?_
    refine TK.ret ?_
    try dsimp only [thenQ]
    exact ret1 (v := Enc.v (((-1) : Int) : Int)) rfl (by obtain rfl := some_in hX; rfl) (v_val _)
  · have hX := ite_f hc hX
    refine TK.skip ?_
    refine hK3 _ _ ?_
    refine TK.seq_k fun K7 hK7 => ?_
    refine TK.reg ?_
    refine TL.p (C := cx) (gc := true) (p_mv rfl) rfl rfl ?_
    cases hX

/-- (*cartridge/shelf.Shelf).Move -/
theorem ok_shelf_Shelf_Move_nil (label1 : Int) (drive2 : Int) (r : Int) (hX : X.shelf_Shelf_Move_nil label1 drive2 = some r) : Fun Try.prog 25 [.nilp, Enc.v (label1 : Int), Enc.v (drive2 : Int)] (· = Enc.v (r : Int)) := by
  refine Fun.of b25 (Nat.le_of_ble_eq_true rfl) (allVal.mem ⟨(by exact trivial), (by exact (v_val _)), (by exact (v_val _)), trivial⟩) ?_
  unfold k25
  have nd : Nd [] := Nd_nil
  unfold X.shelf_Shelf_Move_nil at hX
  refine TK.seq_k fun K3 hK3 => ?_
  refine TK.reg ?_
  refine TL.p (C := cx) (gc := true) (p_mv rfl) rfl rfl ?_
  refine TL.nil ?_
  refine hK3 _ _ ?_
  refine TK.seq_k fun K4 hK4 => ?_
  refine TK.block ?_
  refine TK.seq_k fun K5 hK5 => ?_
  refine TK.reg ?_
  refine TL.p (C := cx) (gc := true) (p_mv rfl) rfl rfl ?_
  refine TL.p (C := cx) (gc := true) (p_mv rfl) rfl rfl ?_
  obtain ⟨r6, hr6, hX⟩ := bind_some hX
  refine TL.cvX rfl rfl rfl (fun _ => ⟨rfl, ⟨rfl, ⟨rfl, trivial⟩⟩⟩) (fun e => ok_shelf_Shelf_is_nil label1 _ hr6) ?_
  refine TL.p (C := cx) (gc := true) (p_not rfl) rfl rfl ?_
  refine TL.p (C := cx) (gc := true) (p_mv rfl) rfl rfl ?_
  refine TL.p (C := cx) (gc := (!((!r6)))) (p_mv rfl (hg := fun e => rfl)) (gcF1 rfl) rfl ?_
  refine TL.p (C := cx) (gc := (!((!r6)))) (p_mv rfl (hg := fun e => rfl)) (gcF1 rfl) rfl ?_
  obtain ⟨r7, hr7, hX⟩ := bind_some hX
  refine TL.cvX (gcF1 rfl) rfl rfl (fun e => ⟨rfl, ⟨e, ⟨e, trivial⟩⟩⟩) (fun e => ok_shelf_Shelf_drive_nil drive2 _ (optG_t hr7 e)) ?_
  refine TL.p (C := cx) (gc := (!((!r6)))) (p_not rfl (hg := fun e => e)) (gcF1 rfl) rfl ?_
  refine TL.p (C := cx) (gc := true) (p_or rfl rfl (fun e => ⟨rfl, fun h => (not_t h)⟩)) rfl rfl ?_
  refine TL.p (C := cx) (gc := true) (p_mv rfl) rfl rfl ?_
  refine TL.nil ?_
  refine hK5 _ _ ?_
  refine TK.cond (b := ((!r6) || (!r7))) rfl (fun hc => ?_) (fun hc => ?_)
  · have hX := ite_t hc hX
    refine TK.seq_k fun K8 hK8 => ?_
    refine TK.reg ?_
    refine TL.p (C := cx) (gc := true) (p_mv rfl) rfl rfl ?_
    refine TL.nil ?_
    refine hK8 _ _ ?_
    refine TK.ret ?_
    try dsimp only [thenQ]
    exact ret1 (v := Enc.v ((1 : Int) : Int)) rfl (by obtain rfl := some_in hX; rfl) (v_val _)
  · have hX := ite_f hc hX
    refine TK.seq_k fun K9 hK9 => ?_
    refine TK.reg ?_
    refine TL.p (C := cx) (gc := true) (p_mv rfl) rfl rfl ?_
    refine TL.p (C := cx) (gc := true) (p_mv rfl) rfl rfl ?_
    obtain ⟨r10, hr10, hX⟩ := bind_some hX
    refine TL.cvX rfl rfl rfl (fun _ => ⟨rfl, ⟨rfl, ⟨rfl, trivial⟩⟩⟩) (fun e => ok_shelf_Shelf_Drive_nil label1 _ hr10) ?_
    refine TL.p (C := cx) (gc := true) (p_neq rfl rfl) rfl rfl ?_
    refine TL.p (C := cx) (gc := true) (p_mv rfl) rfl rfl ?_
    refine TL.p (C := cx) (gc := (!((r10 != ((-1) : Int))))) (p_mv rfl (hg := fun e => rfl)) (gcF1 rfl) rfl ?_
    cases hX

/-- (*cartridge/cartridgeref22.Shelf).find -/
theorem ok_cartridgeref22_Shelf_find_nil (label1 : Int) (r : Int) (hX : X.cartridgeref22_Shelf_find_nil label1 = some r) : Fun Try.prog 40 [.nilp, Enc.v (label1 : Int)] (· = Enc.v (r : Int)) := by
  refine Fun.of b40 (Nat.le_of_ble_eq_true rfl) (allVal.mem ⟨(by exact trivial), (by exact (v_val _)), trivial⟩) ?_
  unfold k40
  have nd : Nd [] := Nd_nil
  unfold X.cartridgeref22_Shelf_find_nil at hX
  refine TK.seq_k fun K2 hK2 => ?_
  refine TK.reg ?_
  refine TL.p (C := cx) (gc := true) (p_mv rfl) rfl rfl ?_
  refine TL.nil ?_
  refine hK2 _ _ ?_
  refine TK.seq_k fun K3 hK3 => ?_
  refine TK.seq_k fun K4 hK4 => ?_
  refine TK.reg ?_
  refine TL.p (C := cx) (gc := true) (p_mv rfl) rfl rfl ?_
  refine TL.nil ?_
  refine hK4 _ _ ?_
  refine TK.block ?_
  obtain ⟨o5, hO5, hA5⟩ := bind_some hX
  refine TK.iter [0, 1, 5] (fun s env h => match s with | _ => ∃ _u : Unit, env = [(0, true, .nilp), (1, true, Enc.v (label1 : Int)), (5, true, Enc.v ((0 : Int) : Int))] ∧ Nd [] ∧ HSub [] h) hO5 ⟨(), rfl, Nd_nil, HSub.refl _⟩ ?_
  rintro ⟨⟩ env h x5x ⟨_u, rfl, nd, hs⟩ hX hR5
  refine TK.subH hs ?_
  unfold X.cartridgeref22_Shelf_find_nil_s5 at hX
  try dsimp only at hX
  refine TK.seq_k fun K6 hK6 => ?_
  refine TK.seq_k fun K7 hK7 => ?_
  refine TK.reg ?_
  refine TL.p (C := cx) (gc := true) (p_mv rfl) rfl rfl ?_
  refine TL.p (C := cx) (gc := true) (p_mv rfl) rfl rfl ?_
  cases hX

/-- (*cartridge/cartridgeref22.Shelf).Move -/
theorem ok_cartridgeref22_Shelf_Move_nil (label1 : Int) (d2 : Int) (r : Int) (hX : X.cartridgeref22_Shelf_Move_nil label1 d2 = some r) : Fun Try.prog 26 [.nilp, Enc.v (label1 : Int), Enc.v (d2 : Int)] (· = Enc.v (r : Int)) := by
  refine Fun.of b26 (Nat.le_of_ble_eq_true rfl) (allVal.mem ⟨(by exact trivial), (by exact (v_val _)), (by exact (v_val _)), trivial⟩) ?_
  unfold k26
  have nd : Nd [] := Nd_nil
  unfold X.cartridgeref22_Shelf_Move_nil at hX
  refine TK.seq_k fun K3 hK3 => ?_
  refine TK.reg ?_
  refine TL.p (C := cx) (gc := true) (p_mv rfl) rfl rfl ?_
  refine TL.nil ?_
  refine hK3 _ _ ?_
  refine TK.seq_k fun K4 hK4 => ?_
  refine TK.reg ?_
  refine TL.p (C := cx) (gc := true) (p_mv rfl) rfl rfl ?_
  refine TL.p (C := cx) (gc := true) (p_mv rfl) rfl rfl ?_
  obtain ⟨r5, hr5, hX⟩ := bind_some hX
  refine TL.cvX rfl rfl rfl (fun _ => ⟨rfl, ⟨rfl, ⟨rfl, trivial⟩⟩⟩) (fun e => ok_cartridgeref22_Shelf_find_nil label1 _ hr5) ?_
  refine TL.p (C := cx) (gc := true) (p_mv rfl) rfl rfl ?_
  refine TL.nil ?_
  refine hK4 _ _ ?_
  refine TK.seq_k fun K6 hK6 => ?_
  refine TK.seq_k fun K7 hK7 => ?_
  refine TK.reg ?_
  refine TL.p (C := cx) (gc := true) (p_mv rfl) rfl rfl ?_
  refine TL.p (C := cx) (gc := true) (p_lss rfl rfl) rfl rfl ?_
  refine TL.p (C := cx) (gc := true) (p_mv rfl) rfl rfl ?_
  refine TL.p (C := cx) (gc := (!((decide (r5 < (0 : Int)))))) (p_mv rfl (hg := fun e => rfl)) (gcF1 rfl) rfl ?_
  refine TL.p (C := cx) (gc := (!((decide (r5 < (0 : Int)))))) (p_lss rfl rfl (hg := fun e => ⟨e, rfl⟩)) (gcF1 rfl) rfl ?_
  refine TL.p (C := cx) (gc := true) (p_or rfl rfl (fun e => ⟨rfl, fun h => (not_t h)⟩)) rfl rfl ?_
  refine TL.p (C := cx) (gc := true) (p_mv rfl) rfl rfl ?_
  refine TL.p (C := cx) (gc := (!(((decide (r5 < (0 : Int))) || (decide (d2 < (0 : Int))))))) (p_mv rfl (hg := fun e => rfl)) (gcF1 rfl) rfl ?_
  refine TL.p (C := cx) (gc := (!(((decide (r5 < (0 : Int))) || (decide (d2 < (0 : Int))))))) (p_mv rfl (hg := fun e => rfl)) (gcF1 rfl) rfl ?_
  cases hX

/-- (*cartridge/shelf.Shelf).Back -/
theorem ok_shelf_Shelf_Back_nil (drive1 : Int) (r : Int) (hX : X.shelf_Shelf_Back_nil drive1 = some r) : Fun Try.prog 27 [.nilp, Enc.v (drive1 : Int)] (· = Enc.v (r : Int)) := by
  refine Fun.of b27 (Nat.le_of_ble_eq_true rfl) (allVal.mem ⟨(by exact trivial), (by exact (v_val _)), trivial⟩) ?_
  unfold k27
  have nd : Nd [] := Nd_nil
  unfold X.shelf_Shelf_Back_nil at hX
  refine TK.seq_k fun K2 hK2 => ?_
  refine TK.reg ?_
  refine TL.p (C := cx) (gc := true) (p_mv rfl) rfl rfl ?_
  refine TL.nil ?_
  refine hK2 _ _ ?_
  refine TK.seq_k fun K3 hK3 => ?_
  refine TK.block ?_
  refine TK.seq_k fun K4 hK4 => ?_
  refine TK.reg ?_
  refine TL.p (C := cx) (gc := true) (p_mv rfl) rfl rfl ?_
  refine TL.p (C := cx) (gc := true) (p_mv rfl) rfl rfl ?_
  obtain ⟨r5, hr5, hX⟩ := bind_some hX
  refine TL.cvX rfl rfl rfl (fun _ => ⟨rfl, ⟨rfl, ⟨rfl, trivial⟩⟩⟩) (fun e => ok_shelf_Shelf_drive_nil drive1 _ hr5) ?_
  refine TL.p (C := cx) (gc := true) (p_not rfl) rfl rfl ?_
  refine TL.p (C := cx) (gc := true) (p_mv rfl) rfl rfl ?_
  refine TL.nil ?_
  refine hK4 _ _ ?_
  refine TK.cond (b := (!r5)) rfl (fun hc => ?_) (fun hc => ?_)
  · have hX := ite_t hc hX
    refine TK.seq_k fun K6 hK6 => ?_
    refine TK.reg ?_
    refine TL.p (C := cx) (gc := true) (p_mv rfl) rfl rfl ?_
    refine TL.nil ?_
    refine hK6 _ _ ?_
    refine TK.ret ?_
    try dsimp only [thenQ]
    exact ret1 (v := Enc.v ((1 : Int) : Int)) rfl (by obtain rfl := some_in hX; rfl) (v_val _)
  · have hX := ite_f hc hX
    refine TK.seq_k fun K7 hK7 => ?_
    refine TK.reg ?_
    refine TL.p (C := cx) (gc := true) (p_mv rfl) rfl rfl ?_
    cases hX

/-- (*cartridge/cartridgeref22.Shelf).Back -/
theorem ok_cartridgeref22_Shelf_Back_nil (d1 : Int) (r : Int) (hX : X.cartridgeref22_Shelf_Back_nil d1 = some r) : Fun Try.prog 28 [.nilp, Enc.v (d1 : Int)] (· = Enc.v (r : Int)) := by
  refine Fun.of b28 (Nat.le_of_ble_eq_true rfl) (allVal.mem ⟨(by exact trivial), (by exact (v_val _)), trivial⟩) ?_
  unfold k28
  have nd : Nd [] := Nd_nil
  unfold X.cartridgeref22_Shelf_Back_nil at hX
  refine TK.seq_k fun K2 hK2 => ?_
  refine TK.reg ?_
  refine TL.p (C := cx) (gc := true) (p_mv rfl) rfl rfl ?_
  refine TL.nil ?_
  refine hK2 _ _ ?_
  refine TK.seq_k fun K3 hK3 => ?_
  refine TK.seq_k fun K4 hK4 => ?_
  refine TK.reg ?_
  refine TL.p (C := cx) (gc := true) (p_mv rfl) rfl rfl ?_
  refine TL.p (C := cx) (gc := true) (p_lss rfl rfl) rfl rfl ?_
  refine TL.p (C := cx) (gc := true) (p_mv rfl) rfl rfl ?_
  refine TL.p (C := cx) (gc := (!((decide (d1 < (0 : Int)))))) (p_mv rfl (hg := fun e => rfl)) (gcF1 rfl) rfl ?_
  refine TL.p (C := cx) (gc := (!((decide (d1 < (0 : Int)))))) (p_mv rfl (hg := fun e => rfl)) (gcF1 rfl) rfl ?_
  cases hX

/-- (*cartridge/shelf.Shelf).Slot -/
theorem ok_shelf_Shelf_Slot_nil (label1 : Int) (r : Int) (hX : X.shelf_Shelf_Slot_nil label1 = some r) : Fun Try.prog 29 [.nilp, Enc.v (label1 : Int)] (· = Enc.v (r : Int)) := by
  refine Fun.of b29 (Nat.le_of_ble_eq_true rfl) (allVal.mem ⟨(by exact trivial), (by exact (v_val _)), trivial⟩) ?_
  unfold k29
  have nd : Nd [] := Nd_nil
  unfold X.shelf_Shelf_Slot_nil at hX
  refine TK.seq_k fun K2 hK2 => ?_
  refine TK.reg ?_
  refine TL.p (C := cx) (gc := true) (p_mv rfl) rfl rfl ?_
  refine TL.nil ?_
  refine hK2 _ _ ?_
  refine TK.seq_k fun K3 hK3 => ?_
  refine TK.seq_k fun K4 hK4 => ?_
  refine TK.reg ?_
  refine TL.p (C := cx) (gc := true) (p_mv rfl) rfl rfl ?_
  refine TL.p (C := cx) (gc := true) (p_mv rfl) rfl rfl ?_
  obtain ⟨r5, hr5, hX⟩ := bind_some hX
  refine TL.cvX rfl rfl rfl (fun _ => ⟨rfl, ⟨rfl, ⟨rfl, trivial⟩⟩⟩) (fun e => ok_shelf_Shelf_is_nil label1 _ hr5) ?_
  refine TL.p (C := cx) (gc := true) (p_not rfl) rfl rfl ?_
  refine TL.p (C := cx) (gc := true) (p_mv rfl) rfl rfl ?_
  refine TL.p (C := cx) (gc := (!((!r5)))) (p_mv rfl (hg := fun e => rfl)) (gcF1 rfl) rfl ?_
  refine TL.p (C := cx) (gc := (!((!r5)))) (p_mv rfl (hg := fun e => rfl)) (gcF1 rfl) rfl ?_
  obtain ⟨r6, hr6, hX⟩ := bind_some hX
  refine TL.cvX (gcF1 rfl) rfl rfl (fun e => ⟨rfl, ⟨e, ⟨e, trivial⟩⟩⟩) (fun e => ok_shelf_Shelf_Drive_nil label1 _ (optG_t hr6 e)) ?_
  refine TL.p (C := cx) (gc := (!((!r5)))) (p_neq rfl rfl (hg := fun e => ⟨e, rfl⟩)) (gcF1 rfl) rfl ?_
  refine TL.p (C := cx) (gc := true) (p_or rfl rfl (fun e => ⟨rfl, fun h => (not_t h)⟩)) rfl rfl ?_
  refine TL.nil ?_
  refine hK4 _ _ ?_
  refine TK.cond (b := ((!r5) || (r6 != ((-1) : Int)))) rfl (fun hc => ?_) (fun hc => ?_)
  · have hX := ite_t hc hX
    refine TK.seq_k fun K7 hK7 => ?_
    refine TK.reg ?_
    refine TL.p (C := cx) (gc := true) (p_mv rfl) rfl rfl ?_
    refine TL.nil ?_
    refine hK7 _ _ ?_
    refine TK.ret ?_
    try dsimp only [thenQ]
    exact ret1 (v := Enc.v (((-1) : Int) : Int)) rfl (by obtain rfl := some_in hX; rfl) (v_val _)
  · have hX := ite_f hc hX
    refine TK.skip ?_
    refine hK3 _ _ ?_
    refine TK.seq_k fun K8 hK8 => ?_
    refine TK.reg ?_
    refine TL.p (C := cx) (gc := true) (p_mv rfl) rfl rfl ?_
    cases hX

/-- (*cartridge/cartridgeref22.Shelf).Slot -/
theorem ok_cartridgeref22_Shelf_Slot_nil (label1 : Int) (r : Int) (hX : X.cartridgeref22_Shelf_Slot_nil label1 = some r) : Fun Try.prog 30 [.nilp, Enc.v (label1 : Int)] (· = Enc.v (r : Int)) := by
  refine Fun.of b30 (Nat.le_of_ble_eq_true rfl) (allVal.mem ⟨(by exact trivial), (by exact (v_val _)), trivial⟩) ?_
  unfold k30
  have nd : Nd [] := Nd_nil
  unfold X.cartridgeref22_Shelf_Slot_nil at hX
  refine TK.seq_k fun K2 hK2 => ?_
  refine TK.reg ?_
  refine TL.p (C := cx) (gc := true) (p_mv rfl) rfl rfl ?_
  refine TL.nil ?_
  refine hK2 _ _ ?_
  refine TK.seq_k fun K3 hK3 => ?_
  refine TK.reg ?_
  refine TL.p (C := cx) (gc := true) (p_mv rfl) rfl rfl ?_
  refine TL.p (C := cx) (gc := true) (p_mv rfl) rfl rfl ?_
  obtain ⟨r4, hr4, hX⟩ := bind_some hX
  refine TL.cvX rfl rfl rfl (fun _ => ⟨rfl, ⟨rfl, ⟨rfl, trivial⟩⟩⟩) (fun e => ok_cartridgeref22_Shelf_find_nil label1 _ hr4) ?_
  refine TL.p (C := cx) (gc := true) (p_mv rfl) rfl rfl ?_
  refine TL.nil ?_
  refine hK3 _ _ ?_
  refine TK.seq_k fun K5 hK5 => ?_
  refine TK.seq_k fun K6 hK6 => ?_
  refine TK.reg ?_
  refine TL.p (C := cx) (gc := true) (p_mv rfl) rfl rfl ?_
  refine TL.p (C := cx) (gc := true) (p_lss rfl rfl) rfl rfl ?_
  refine TL.p (C := cx) (gc := true) (p_mv rfl) rfl rfl ?_
  refine TL.p (C := cx) (gc := (!((decide (r4 < (0 : Int)))))) (p_mv rfl (hg := fun e => rfl)) (gcF1 rfl) rfl ?_
  cases hX

/-- (*cartridge/cartridgeref22.Shelf).Drive -/
theorem ok_cartridgeref22_Shelf_Drive_nil (label1 : Int) (r : Int) (hX : X.cartridgeref22_Shelf_Drive_nil label1 = some r) : Fun Try.prog 32 [.nilp, Enc.v (label1 : Int)] (· = Enc.v (r : Int)) := by
  refine Fun.of b32 (Nat.le_of_ble_eq_true rfl) (allVal.mem ⟨(by exact trivial), (by exact (v_val _)), trivial⟩) ?_
  unfold k32
  have nd : Nd [] := Nd_nil
  unfold X.cartridgeref22_Shelf_Drive_nil at hX
  refine TK.seq_k fun K2 hK2 => ?_
  refine TK.reg ?_
  refine TL.p (C := cx) (gc := true) (p_mv rfl) rfl rfl ?_
  refine TL.nil ?_
  refine hK2 _ _ ?_
  refine TK.seq_k fun K3 hK3 => ?_
  refine TK.reg ?_
  refine TL.p (C := cx) (gc := true) (p_mv rfl) rfl rfl ?_
  refine TL.p (C := cx) (gc := true) (p_mv rfl) rfl rfl ?_
  obtain ⟨r4, hr4, hX⟩ := bind_some hX
  refine TL.cvX rfl rfl rfl (fun _ => ⟨rfl, ⟨rfl, ⟨rfl, trivial⟩⟩⟩) (fun e => ok_cartridgeref22_Shelf_find_nil label1 _ hr4) ?_
  refine TL.p (C := cx) (gc := true) (p_mv rfl) rfl rfl ?_
  refine TL.nil ?_
  refine hK3 _ _ ?_
  refine TK.seq_k fun K5 hK5 => ?_
  refine TK.seq_k fun K6 hK6 => ?_
  refine TK.reg ?_
  refine TL.p (C := cx) (gc := true) (p_mv rfl) rfl rfl ?_
  refine TL.p (C := cx) (gc := true) (p_lss rfl rfl) rfl rfl ?_
  refine TL.nil ?_
  refine hK6 _ _ ?_
  refine TK.cond (b := (decide (r4 < (0 : Int)))) rfl (fun hc => ?_) (fun hc => ?_)
  · have hX := ite_t hc hX
    refine TK.seq_k fun K7 hK7 => ?_
    refine TK.reg ?_
    refine TL.p (C := cx) (gc := true) (p_mv rfl) rfl rfl ?_
    refine TL.nil ?_
    refine hK7 _ _ ?_
    refine TK.ret ?_
    try dsimp only [thenQ]
    exact ret1 (v := Enc.v (((-1) : Int) : Int)) rfl (by obtain rfl := some_in hX; rfl) (v_val _)
  · have hX := ite_f hc hX
    refine TK.skip ?_
    refine hK5 _ _ ?_
    refine TK.seq_k fun K8 hK8 => ?_
    refine TK.reg ?_
    refine TL.p (C := cx) (gc := true) (p_mv rfl) rfl rfl ?_
    cases hX

/-- (*cartridge/shelf.Shelf).Mounted -/
theorem ok_shelf_Shelf_Mounted_nil (drive1 : Int) (r : Int) (hX : X.shelf_Shelf_Mounted_nil drive1 = some r) : Fun Try.prog 33 [.nilp, Enc.v (drive1 : Int)] (· = Enc.v (r : Int)) := by
  refine Fun.of b33 (Nat.le_of_ble_eq_true rfl) (allVal.mem ⟨(by exact trivial), (by exact (v_val _)), trivial⟩) ?_
  unfold k33
  have nd : Nd [] := Nd_nil
  unfold X.shelf_Shelf_Mounted_nil at hX
  refine TK.seq_k fun K2 hK2 => ?_
  refine TK.reg ?_
  refine TL.p (C := cx) (gc := true) (p_mv rfl) rfl rfl ?_
  refine TL.nil ?_
  refine hK2 _ _ ?_
  refine TK.seq_k fun K3 hK3 => ?_
  refine TK.seq_k fun K4 hK4 => ?_
  refine TK.reg ?_
  refine TL.p (C := cx) (gc := true) (p_mv rfl) rfl rfl ?_
  refine TL.p (C := cx) (gc := true) (p_mv rfl) rfl rfl ?_
  obtain ⟨r5, hr5, hX⟩ := bind_some hX
  refine TL.cvX rfl rfl rfl (fun _ => ⟨rfl, ⟨rfl, ⟨rfl, trivial⟩⟩⟩) (fun e => ok_shelf_Shelf_drive_nil drive1 _ hr5) ?_
  refine TL.p (C := cx) (gc := true) (p_not rfl) rfl rfl ?_
  refine TL.nil ?_
  refine hK4 _ _ ?_
  refine TK.cond (b := (!r5)) rfl (fun hc => ?_) (fun hc => ?_)
  · have hX := ite_t hc hX
    refine TK.seq_k fun K6 hK6 => ?_
    refine TK.reg ?_
    refine TL.p (C := cx) (gc := true) (p_mv rfl) rfl rfl ?_
    refine TL.nil ?_
    refine hK6 _ _ ?_
    refine TK.ret ?_
    try dsimp only [thenQ]
    exact ret1 (v := Enc.v ((0 : Int) : Int)) rfl (by obtain rfl := some_in hX; rfl) (v_val _)
  · have hX := ite_f hc hX
    refine TK.skip ?_
    refine hK3 _ _ ?_
    refine TK.seq_k fun K7 hK7 => ?_
    refine TK.reg ?_
    refine TL.p (C := cx) (gc := true) (p_mv rfl) rfl rfl ?_
    cases hX

/-- (*cartridge/cartridgeref22.Shelf).Mounted -/
theorem ok_cartridgeref22_Shelf_Mounted_nil (d1 : Int) (r : Int) (hX : X.cartridgeref22_Shelf_Mounted_nil d1 = some r) : Fun Try.prog 34 [.nilp, Enc.v (d1 : Int)] (· = Enc.v (r : Int)) := by
  refine Fun.of b34 (Nat.le_of_ble_eq_true rfl) (allVal.mem ⟨(by exact trivial), (by exact (v_val _)), trivial⟩) ?_
  unfold k34
  have nd : Nd [] := Nd_nil
  unfold X.cartridgeref22_Shelf_Mounted_nil at hX
  refine TK.seq_k fun K2 hK2 => ?_
  refine TK.reg ?_
  refine TL.p (C := cx) (gc := true) (p_mv rfl) rfl rfl ?_
  refine TL.nil ?_
  refine hK2 _ _ ?_
  refine TK.seq_k fun K3 hK3 => ?_
  refine TK.seq_k fun K4 hK4 => ?_
  refine TK.reg ?_
  refine TL.p (C := cx) (gc := true) (p_mv rfl) rfl rfl ?_
  refine TL.p (C := cx) (gc := true) (p_lss rfl rfl) rfl rfl ?_
  refine TL.p (C := cx) (gc := true) (p_mv rfl) rfl rfl ?_
  refine TL.p (C := cx) (gc := (!((decide (d1 < (0 : Int)))))) (p_mv rfl (hg := fun e => rfl)) (gcF1 rfl) rfl ?_
  refine TL.p (C := cx) (gc := (!((decide (d1 < (0 : Int)))))) (p_mv rfl (hg := fun e => rfl)) (gcF1 rfl) rfl ?_
  cases hX

/-- (*cartridge/cartridgeref22.Shelf).Move -/
theorem ok_cartridgeref22_Shelf_Move (label8 : Int) (d9 : Int) (labels1 : (List Int)) (in2 : (List Int)) (drives3 : (List Int)) (b4 : Nat) (b5 : Nat) (b6 : Nat) (b7 : Nat) (nd : Nd [(b4, RV 67 [OL (α := Int) b5 labels1, OL (α := Int) b6 in2, OL (α := Int) b7 drives3]), (b5, RL (α := Int) 3 labels1), (b6, RL (α := Int) 3 in2), (b7, RL (α := Int) 3 drives3)]) (r : (Int × ((List Int) × (List Int) × (List Int)))) (hX : X.cartridgeref22_Shelf_Move label8 d9 labels1 in2 drives3 = some r) : TCX Try.prog 26 [.ref b4 0 3, Enc.v (label8 : Int), Enc.v (d9 : Int)] [(b4, RV 67 [OL (α := Int) b5 labels1, OL (α := Int) b6 in2, OL (α := Int) b7 drives3]), (b5, RL (α := Int) 3 labels1), (b6, RL (α := Int) 3 in2), (b7, RL (α := Int) 3 drives3)] (fun rv h' => ∃ b27 b28 b29, rv = Enc.v (r.1 : Int) ∧ h' = [(b4, RV 67 [OL (α := Int) b27 r.2.1, OL (α := Int) b28 r.2.2.1, OL (α := Int) b29 r.2.2.2]), (b27, RL (α := Int) 3 r.2.1), (b28, RL (α := Int) 3 r.2.2.1), (b29, RL (α := Int) 3 r.2.2.2)]) := by
  refine TCX.of b26 (Nat.le_of_ble_eq_true rfl) ?_
  unfold k26
  unfold X.cartridgeref22_Shelf_Move at hX
  refine TK.seq_k fun K10 hK10 => ?_
  refine TK.reg ?_
  refine TL.p (C := cx) (gc := true) (p_mv rfl) rfl rfl ?_
  refine TL.nil ?_
  refine hK10 _ _ ?_
  refine TK.seq_k fun K11 hK11 => ?_
  refine TK.reg ?_
  refine TL.p (C := cx) (gc := true) (p_mv rfl) rfl rfl ?_
  refine TL.p (C := cx) (gc := true) (p_mv rfl) rfl rfl ?_
  obtain ⟨r12, hr12, hX⟩ := bind_some hX
  refine TL.lookX [.vref (ofL [Enc.v (labels1 : (List Int)), Enc.v (in2 : (List Int)), Enc.v (drives3 : (List Int))]) 3 0, Enc.v (label8 : Int)] rfl rfl rfl (fun _ => ⟨rfl, ⟨rfl, ⟨rfl, trivial⟩⟩⟩) ⟨look_ref (l := [OL (α := Int) b5 labels1, OL (α := Int) b6 in2, OL (α := Int) b7 drives3]) nd (j := 0) rfl ⟨look_OL nd (j := 1) rfl, look_OL nd (j := 2) rfl, look_OL nd (j := 3) rfl, trivial⟩, look_v (v := Enc.v (label8 : Int)) (v_val _), trivial⟩ (fun e => ok_cartridgeref22_Shelf_find labels1 in2 drives3 label8 _ hr12) (trivial) ?_
  refine TL.p (C := cx) (gc := true) (p_mv rfl) rfl rfl ?_
  refine TL.nil ?_
  refine hK11 _ _ ?_
  refine TK.seq_k fun K13 hK13 => ?_
  refine TK.seq_k fun K14 hK14 => ?_
  refine TK.reg ?_
  refine TL.p (C := cx) (gc := true) (p_mv rfl) rfl rfl ?_
  refine TL.p (C := cx) (gc := true) (p_lss rfl rfl) rfl rfl ?_
  refine TL.p (C := cx) (gc := true) (p_mv rfl) rfl rfl ?_
  refine TL.p (C := cx) (gc := (!((decide (r12 < (0 : Int)))))) (p_mv rfl (hg := fun e => rfl)) (gcF1 rfl) rfl ?_
  refine TL.p (C := cx) (gc := (!((decide (r12 < (0 : Int)))))) (p_lss rfl rfl (hg := fun e => ⟨e, rfl⟩)) (gcF1 rfl) rfl ?_
  refine TL.p (C := cx) (gc := true) (p_or rfl rfl (fun e => ⟨rfl, fun h => (not_t h)⟩)) rfl rfl ?_
  refine TL.p (C := cx) (gc := true) (p_mv rfl) rfl rfl ?_
  refine TL.p (C := cx) (gc := (!(((decide (r12 < (0 : Int))) || (decide (d9 < (0 : Int))))))) (p_mv rfl (hg := fun e => rfl)) (gcF1 rfl) rfl ?_
  refine TL.p (C := cx) (gc := (!(((decide (r12 < (0 : Int))) || (decide (d9 < (0 : Int))))))) (p_mv rfl (hg := fun e => rfl)) (gcF1 rfl) rfl ?_
  refine TL.p (C := cx) (gc := (!(((decide (r12 < (0 : Int))) || (decide (d9 < (0 : Int))))))) (p_ncR rfl (fun _ => refOK_of nd (j := 0) rfl rfl) (hg := fun e => e)) (gcF1 rfl) rfl ?_
  refine TL.p (C := cx) (gc := (!(((decide (r12 < (0 : Int))) || (decide (d9 < (0 : Int))))))) (p_faV fs67_2 (by decide) rfl nd (j := 0) rfl rfl (hg := fun e => e)) (gcF1 rfl) rfl ?_
  refine TL.p (C := cx) (gc := (!(((decide (r12 < (0 : Int))) || (decide (d9 < (0 : Int))))))) (p_ldV (v := OL (α := Int) b7 drives3) ty22 rfl rfl nd (j := 0) rfl rfl rfl rfl rfl (hg := fun e => e)) (gcF1 rfl) rfl ?_
  refine TL.p (C := cx) (gc := (!(((decide (r12 < (0 : Int))) || (decide (d9 < (0 : Int))))))) (p_lenR kd22 rfl (fun _ => refOK_of nd (j := 3) rfl rfl) (hg := fun e => e)) (gcF1 rfl) rfl ?_
  refine TL.p (C := cx) (gc := (!(((decide (r12 < (0 : Int))) || (decide (d9 < (0 : Int))))))) (p_geq rfl rfl (hg := fun e => ⟨e, e⟩)) (gcF1 rfl) rfl ?_
  refine TL.p (C := cx) (gc := true) (p_or rfl rfl (fun e => ⟨rfl, fun h => (not_t h)⟩)) rfl rfl ?_
  refine TL.nil ?_
  refine hK14 _ _ ?_
  refine TK.cond (b := (((decide (r12 < (0 : Int))) || (decide (d9 < (0 : Int)))) || (decide (d9 ≥ (drives3.length : Int))))) rfl (fun hc => ?_) (fun hc => ?_)
  · have hX := ite_t hc hX
    refine TK.seq_k fun K15 hK15 => ?_
    refine TK.reg ?_
    refine TL.p (C := cx) (gc := true) (p_mv rfl) rfl rfl ?_
    refine TL.nil ?_
    refine hK15 _ _ ?_
    refine TK.ret ?_
    try dsimp only [thenQ]
    exact retX (v := Enc.v ((1 : Int) : Int)) (res1 rfl) (by obtain rfl := some_in hX; exact ⟨b5, b6, b7, rfl, rfl⟩) nd (inH_val (v_val _)) ⟨rowIn_RV ⟨inH_rs nd (j := 1) rfl, inH_rs nd (j := 2) rfl, inH_rs nd (j := 3) rfl, trivial⟩, rowIn_RL, rowIn_RL, rowIn_RL, trivial⟩
  · have hX := ite_f hc hX
    refine TK.skip ?_
    refine hK13 _ _ ?_
    refine TK.seq_k fun K16 hK16 => ?_
    refine TK.seq_k fun K17 hK17 => ?_
    refine TK.reg ?_
    refine TL.p (C := cx) (gc := true) (p_mv rfl) rfl rfl ?_
    refine TL.p (C := cx) (gc := true) (p_ncR rfl (fun _ => refOK_of nd (j := 0) rfl rfl)) rfl rfl ?_
    refine TL.p (C := cx) (gc := true) (p_faV fs67_1 (by decide) rfl nd (j := 0) rfl rfl) rfl rfl ?_
    refine TL.p (C := cx) (gc := true) (p_ldV (v := OL (α := Int) b6 in2) ty22 rfl rfl nd (j := 0) rfl rfl rfl rfl rfl) rfl rfl ?_
    refine TL.p (C := cx) (gc := true) (p_mv rfl) rfl rfl ?_
    obtain ⟨e18, he18, hX⟩ := bind_some hX
    refine TL.p (C := cx) (gc := true) (p_iaO (xs := in2) kd22 ty3 rfl rfl rfl nd (j := 2) rfl (fun _ => he18)) rfl rfl ?_
    refine TL.p (C := cx) (gc := true) (p_ldO (xs := in2) (a := e18) (e18 : Int) ty3 rfl rfl nd (j := 2) rfl (fun _ => he18) rfl rfl rfl) rfl rfl ?_
    refine TL.p (C := cx) (gc := true) (p_geq rfl rfl) rfl rfl ?_
    refine TL.p (C := cx) (gc := true) (p_mv rfl) rfl rfl ?_
    refine TL.p (C := cx) (gc := (!((decide (e18 ≥ (0 : Int)))))) (p_mv rfl (hg := fun e => rfl)) (gcF1 rfl) rfl ?_
    refine TL.p (C := cx) (gc := (!((decide (e18 ≥ (0 : Int)))))) (p_ncR rfl (fun _ => refOK_of nd (j := 0) rfl rfl) (hg := fun e => e)) (gcF1 rfl) rfl ?_
    refine TL.p (C := cx) (gc := (!((decide (e18 ≥ (0 : Int)))))) (p_faV fs67_2 (by decide) rfl nd (j := 0) rfl rfl (hg := fun e => e)) (gcF1 rfl) rfl ?_
    refine TL.p (C := cx) (gc := (!((decide (e18 ≥ (0 : Int)))))) (p_ldV (v := OL (α := Int) b7 drives3) ty22 rfl rfl nd (j := 0) rfl rfl rfl rfl rfl (hg := fun e => e)) (gcF1 rfl) rfl ?_
    refine TL.p (C := cx) (gc := (!((decide (e18 ≥ (0 : Int)))))) (p_mv rfl (hg := fun e => rfl)) (gcF1 rfl) rfl ?_
    obtain ⟨e19, he19, hX⟩ := bind_some hX
    refine TL.p (C := cx) (gc := (!((decide (e18 ≥ (0 : Int)))))) (p_iaO (xs := drives3) kd22 ty3 rfl rfl rfl nd (j := 3) rfl (fun e => optG_t he19 e) (hg := fun e => ⟨e, e⟩)) (gcF1 rfl) rfl ?_
    refine TL.p (C := cx) (gc := (!((decide (e18 ≥ (0 : Int)))))) (p_ldO (xs := drives3) (a := e19) (e19 : Int) ty3 rfl rfl nd (j := 3) rfl (fun e => optG_t he19 e) rfl rfl rfl (hg := fun e => e)) (gcF1 rfl) rfl ?_
    refine TL.p (C := cx) (gc := (!((decide (e18 ≥ (0 : Int)))))) (p_neq rfl rfl (hg := fun e => ⟨e, rfl⟩)) (gcF1 rfl) rfl ?_
    refine TL.p (C := cx) (gc := true) (p_or rfl rfl (fun e => ⟨rfl, fun h => (not_t h)⟩)) rfl rfl ?_
    refine TL.nil ?_
    refine hK17 _ _ ?_
    refine TK.cond (b := ((decide (e18 ≥ (0 : Int))) || (e19 != (0 : Int)))) rfl (fun hc => ?_) (fun hc => ?_)
    · have hX := ite_t hc hX
      refine TK.seq_k fun K20 hK20 => ?_
      refine TK.reg ?_
      refine TL.p (C := cx) (gc := true) (p_mv rfl) rfl rfl ?_
      refine TL.nil ?_
      refine hK20 _ _ ?_
      refine TK.ret ?_
      try dsimp only [thenQ]
      exact retX (v := Enc.v ((11 : Int) : Int)) (res1 rfl) (by obtain rfl := some_in hX; exact ⟨b5, b6, b7, rfl, rfl⟩) nd (inH_val (v_val _)) ⟨rowIn_RV ⟨inH_rs nd (j := 1) rfl, inH_rs nd (j := 2) rfl, inH_rs nd (j := 3) rfl, trivial⟩, rowIn_RL, rowIn_RL, rowIn_RL, trivial⟩
    · have hX := ite_f hc hX
      refine TK.skip ?_
      refine hK16 _ _ ?_
      refine TK.seq_k fun K21 hK21 => ?_
      refine TK.reg ?_
      refine TL.p (C := cx) (gc := true) (p_mv rfl) rfl rfl ?_
      refine TL.p (C := cx) (gc := true) (p_ncR rfl (fun _ => refOK_of nd (j := 0) rfl rfl)) rfl rfl ?_
      refine TL.p (C := cx) (gc := true) (p_faV fs67_1 (by decide) rfl nd (j := 0) rfl rfl) rfl rfl ?_
      refine TL.p (C := cx) (gc := true) (p_ldV (v := OL (α := Int) b6 in2) ty22 rfl rfl nd (j := 0) rfl rfl rfl rfl rfl) rfl rfl ?_
      refine TL.p (C := cx) (gc := true) (p_mv rfl) rfl rfl ?_
      refine TL.p (C := cx) (gc := true) (p_mv rfl) rfl rfl ?_
      obtain ⟨e22, he22, hX⟩ := bind_some hX
      refine TL.p (C := cx) (gc := true) (p_iaO (xs := in2) kd22 ty3 rfl rfl rfl nd (j := 2) rfl (fun _ => he22)) rfl rfl ?_
      refine TL.stW (C := cx) (xs := in2) (i := r12) (lu := Enc.cl (d9 : Int)) (a' := d9) nd ty3 rfl (j := 2) rfl (by simp [Enc.sz]) (inb_of he22 (by simp)) rfl (Cells_v (d9 : Int)) rfl (WkL_refl _) fun nd => ?_
      refine TL.cvR nd (j := 0) rfl (l' := [OL (α := Int) b5 labels1, OL (α := Int) b6 (in2.set r12.toNat d9), OL (α := Int) b7 drives3]) ⟨Wk.refl _, Wk_eq (OL_len (by simp)), Wk.refl _, trivial⟩ fun nd => ?_
      refine TL.nil ?_
      refine hK21 _ _ ?_
      refine TK.seq_k fun K23 hK23 => ?_
      refine TK.reg ?_
      refine TL.p (C := cx) (gc := true) (p_mv rfl) rfl rfl ?_
      refine TL.p (C := cx) (gc := true) (p_ncR rfl (fun _ => refOK_of nd (j := 0) rfl rfl)) rfl rfl ?_
      refine TL.p (C := cx) (gc := true) (p_faV fs67_2 (by decide) rfl nd (j := 0) rfl rfl) rfl rfl ?_
      refine TL.p (C := cx) (gc := true) (p_ldV (v := OL (α := Int) b7 drives3) ty22 rfl rfl nd (j := 0) rfl rfl rfl rfl rfl) rfl rfl ?_
      refine TL.p (C := cx) (gc := true) (p_mv rfl) rfl rfl ?_
      refine TL.p (C := cx) (gc := true) (p_mv rfl) rfl rfl ?_
      obtain ⟨e24, he24, hX⟩ := bind_some hX
      refine TL.p (C := cx) (gc := true) (p_iaO (xs := drives3) kd22 ty3 rfl rfl rfl nd (j := 3) rfl (fun _ => he24)) rfl rfl ?_
      refine TL.stW (C := cx) (xs := drives3) (i := d9) (lu := Enc.cl (label8 : Int)) (a' := label8) nd ty3 rfl (j := 3) rfl (by simp [Enc.sz]) (inb_of he24 (by simp)) rfl (Cells_v (label8 : Int)) rfl (WkL_refl _) fun nd => ?_
      refine TL.cvR nd (j := 0) rfl (l' := [OL (α := Int) b5 labels1, OL (α := Int) b6 (in2.set r12.toNat d9), OL (α := Int) b7 (drives3.set d9.toNat label8)]) ⟨Wk.refl _, Wk.refl _, Wk_eq (OL_len (by simp)), trivial⟩ fun nd => ?_
      refine TL.nil ?_
      refine hK23 _ _ ?_
      refine TK.seq_k fun K25 hK25 => ?_
      refine TK.reg ?_
      refine TL.p (C := cx) (gc := true) (p_mv rfl) rfl rfl ?_
      refine TL.nil ?_
      refine hK25 _ _ ?_
      refine TK.ret ?_
      try dsimp only [thenQ]
      exact retX (v := Enc.v ((0 : Int) : Int)) (res1 rfl) (by obtain rfl := some_in hX; exact ⟨b5, b6, b7, rfl, rfl⟩) nd (inH_val (v_val _)) ⟨rowIn_RV ⟨inH_rs nd (j := 1) rfl, inH_rs nd (j := 2) rfl, inH_rs nd (j := 3) rfl, trivial⟩, rowIn_RL, rowIn_RL, rowIn_RL, trivial⟩

end Go.Proofs.Ytjkjoihlpnahdaa
