import Derived.Test.YtndjbcnpgggddaaXFn
import Derived.Test.YtndjbcnpgggddaaXS
import Derived.Test.YtndjbcnpgggddaaAmK0
import Derived.Test.YtndjbcnpgggddaaXP0
/- That they do. -/
namespace Go.Proofs.Ytndjbcnpgggddaa
open Go.AM Go.AX
set_option linter.unusedVariables false
set_option maxRecDepth 20000

/-- cartridge/matrix.Inverse -/
theorem ok_matrix_Inverse (m1 : (List (List UInt8))) (r : ((List (List UInt8)) × Int)) (hX : X.matrix_Inverse m1 = some r) : Fun Try.prog 79 [Enc.v (m1 : (List (List UInt8)))] (· = .tup 2 (ofL [Enc.v r.1, Enc.v r.2])) := by
  refine Fun.of b79 (Nat.le_of_ble_eq_true rfl) (allVal.mem ⟨(by exact (v_val _)), trivial⟩) ?_
  unfold k79
  have nd : Nd [] := Nd_nil
  unfold X.matrix_Inverse at hX
  refine TK.seq_k fun K2 hK2 => ?_
  refine TK.reg ?_
  refine TL.p (C := cx) (gc := true) (p_mv rfl) rfl rfl ?_
  refine TL.p (C := cx) (gc := true) (p_mv rfl) rfl rfl ?_
  refine TL.nil ?_
  refine hK2 _ _ ?_
  refine TK.seq_k fun K3 hK3 => ?_
  refine TK.seq_k fun K4 hK4 => ?_
  refine TK.reg ?_
  refine TL.p (C := cx) (gc := true) (p_mv rfl) rfl rfl ?_
  obtain ⟨r5, hr5, hX⟩ := bind_some hX
  refine TL.cvX rfl rfl rfl (fun _ => ⟨rfl, ⟨rfl, trivial⟩⟩) (fun e => ok_matrix_Right m1 _ hr5) ?_
  refine TL.p (C := cx) (gc := true) (p_not rfl) rfl rfl ?_
  refine TL.p (C := cx) (gc := true) (p_mv rfl) rfl rfl ?_
  refine TL.p (C := cx) (gc := (!((!r5)))) (p_mv rfl (hg := fun e => rfl)) (gcF1 rfl) rfl ?_
  refine TL.p (C := cx) (gc := (!((!r5)))) (p_lenL (xs := m1) kd22 rfl (hg := fun e => e)) (gcF1 rfl) rfl ?_
  refine TL.p (C := cx) (gc := (!((!r5)))) (p_mv rfl (hg := fun e => rfl)) (gcF1 rfl) rfl ?_
  obtain ⟨e6, he6, hX⟩ := bind_some hX
  refine TL.p (C := cx) (gc := (!((!r5)))) (p_iaL (xs := m1) kd22 ty25 rfl rfl rfl (fun e => optG_t he6 e) (hg := fun e => ⟨e, rfl⟩)) (gcF1 rfl) rfl ?_
  refine TL.p (C := cx) (gc := (!((!r5)))) (p_ldE (xs := m1) (a := e6) (e6 : (List UInt8)) ty25 rfl rfl (fun e => optG_t he6 e) rfl rfl rfl (hg := fun e => e)) (gcF1 rfl) rfl ?_
  refine TL.p (C := cx) (gc := (!((!r5)))) (p_lenL (xs := e6) kd25 rfl (hg := fun e => e)) (gcF1 rfl) rfl ?_
  refine TL.p (C := cx) (gc := (!((!r5)))) (p_neq rfl rfl (hg := fun e => ⟨e, e⟩)) (gcF1 rfl) rfl ?_
  refine TL.p (C := cx) (gc := true) (p_or rfl rfl (fun e => ⟨rfl, fun h => (not_t h)⟩)) rfl rfl ?_
  refine TL.nil ?_
  refine hK4 _ _ ?_
  refine TK.cond (b := ((!r5) || ((m1.length : Int) != (e6.length : Int)))) rfl (fun hc => ?_) (fun hc => ?_)
  · have hX := ite_t hc hX
    refine TK.seq_k fun K7 hK7 => ?_
    refine TK.reg ?_
    refine TL.p (C := cx) (gc := true) (p_mv rfl) rfl rfl ?_
    refine TL.p (C := cx) (gc := true) (p_mv rfl) rfl rfl ?_
    refine TL.nil ?_
    refine hK7 _ _ ?_
    refine TK.wk 2 (L ([] : (List (List UInt8)))) rfl Wk_nil ?_
    refine TK.ret ?_
    try dsimp only [thenQ]
    exact retN (vs := [Enc.v (([] : (List (List UInt8))) : (List (List UInt8))), Enc.v ((1 : Int) : Int)]) ⟨rfl, rfl, trivial⟩ (by obtain rfl := some_in hX; rfl) (allVal.mem ⟨v_val _, v_val _, trivial⟩)
  · have hX := ite_f hc hX
    refine TK.skip ?_
    refine hK3 _ _ ?_
    refine TK.seq_k fun K8 hK8 => ?_
    refine TK.reg ?_
    refine TL.p (C := cx) (gc := true) (p_mv rfl) rfl rfl ?_
    obtain ⟨r9, hr9, hX⟩ := bind_some hX
    refine TL.tcX [] [] rfl nd (dlt rfl) rfl ⟨rfl, ⟨rfl, trivial⟩⟩ (ok_matrix_beside m1 (Nd.take nd 0 rfl) _ hr9) ?_
    rintro _ _ hQ nd
    obtain ⟨b10, rfl, rfl⟩ := hQ
    refine TL.p (C := cx) (gc := true) (p_mv rfl) rfl rfl ?_
    refine TL.nil ?_
    refine hK8 _ _ ?_
    refine TK.seq_k fun K11 hK11 => ?_
    refine TK.seq_k fun K12 hK12 => ?_
    refine TK.reg ?_
    refine TL.p (C := cx) (gc := true) (p_mv rfl) rfl rfl ?_
    refine TL.p (C := cx) (gc := true) (p_lenR kd22 rfl (fun _ => refOK_of nd (j := 0) rfl rfl)) rfl rfl ?_
    refine TL.p (C := cx) (gc := true) (p_mv rfl) rfl rfl ?_
    refine TL.nil ?_
    refine hK12 _ _ ?_
    refine TK.block ?_
    obtain ⟨o13, hO13, hA13⟩ := bind_some hX
    have E13 : ∀ (l18 : List (List UInt8)) (env : Env) (h : Hp), (∃ b17, keepE [0, 4] env = [(0, true, Enc.v (m1 : (List (List UInt8)))), (4, true, OL (α := (List UInt8)) b17 l18)] ∧ Nd [(b17, RL (α := (List UInt8)) 25 l18)] ∧ HSub [(b17, RL (α := (List UInt8)) 25 l18)] h) → X.matrix_Inverse_e13 m1 l18 = some r → K11 env h := by
      intro l18 env h hE hX
      obtain ⟨b17, henv, nd, hs⟩ := hE
      unfold X.matrix_Inverse_e13 at hX
      refine hK11 _ _ (TK.keep [0, 4] ?_)
      rw [henv]
      refine TK.subH hs ?_
      refine TK.seq_k fun K19 hK19 => ?_
      refine TK.reg ?_
      refine TL.p (C := cx) (gc := true) (p_mv rfl) rfl rfl ?_
      refine TL.nil ?_
      refine hK19 _ _ ?_
      refine TK.ownL (α := (List UInt8)) 8 25 nd rfl (.inl rfl) fun b20 nd => ?_
      refine TK.seq_k fun K21 hK21 => ?_
      refine TK.seq_k fun K22 hK22 => ?_
      refine TK.reg ?_
      refine TL.p (C := cx) (gc := true) (p_mv rfl) rfl rfl ?_
      refine TL.p (C := cx) (gc := true) (p_lenR kd22 rfl (fun _ => refOK_of nd (j := 1) rfl rfl)) rfl rfl ?_
      refine TL.p (C := cx) (gc := true) (p_mv rfl) rfl rfl ?_
      refine TL.nil ?_
      refine hK22 _ _ ?_
      refine TK.block ?_
      obtain ⟨o23, hO23, hA23⟩ := bind_some hX
      have E23 : ∀ (l29 : List (List UInt8)) (env : Env) (h : Hp), (∃ b28, keepE [8] env = [(8, true, OL (α := (List UInt8)) b28 l29)] ∧ Nd [(b28, RL (α := (List UInt8)) 25 l29)] ∧ HSub [(b28, RL (α := (List UInt8)) 25 l29)] h) → X.matrix_Inverse_e23 l29 = some r → K21 env h := by
        intro l29 env h hE hX
        obtain ⟨b28, henv, nd, hs⟩ := hE
        unfold X.matrix_Inverse_e23 at hX
        refine hK21 _ _ (TK.keep [8] ?_)
        rw [henv]
        refine TK.subH hs ?_
        refine TK.seq_k fun K30 hK30 => ?_
        refine TK.reg ?_
        refine TL.p (C := cx) (gc := true) (p_mv rfl) rfl rfl ?_
        refine TL.p (C := cx) (gc := true) (p_mv rfl) rfl rfl ?_
        refine TL.p (C := cx) (gc := true) (p_mv rfl) rfl rfl ?_
        refine TL.nil ?_
        refine hK30 _ _ ?_
        refine TK.lay [(2, L l29)] nd (j := 0) rfl ⟨⟨_, rfl, fix_OL nd (j := 0) rfl, rfl⟩, trivial⟩ fun nd => ?_
        refine TK.ret ?_
        try dsimp only [thenQ]
        exact retN (vs := [Enc.v (l29 : (List (List UInt8))), Enc.v ((0 : Int) : Int)]) ⟨rfl, rfl, trivial⟩ (by obtain rfl := some_in hX; rfl) (allVal.mem ⟨v_val _, v_val _, trivial⟩)
      refine TK.iter [0, 8, 111, 112, 113] (fun s env h => match s with | (out25, x27) => ∃ b24 b26, env = [(0, true, Enc.v (m1 : (List (List UInt8)))), (8, true, OL (α := (List UInt8)) b24 out25), (111, true, OL (α := (List UInt8)) b26 l18), (112, true, Enc.v ((l18.length : Int) : Int)), (113, true, Enc.v (x27 : Int))] ∧ Nd [(b24, RL (α := (List UInt8)) 25 out25), (b26, RL (α := (List UInt8)) 25 l18)] ∧ HSub [(b24, RL (α := (List UInt8)) 25 out25), (b26, RL (α := (List UInt8)) 25 l18)] h) hO23 ⟨b20, b17, rfl, (Nd.pick nd (is := [0, 1]) (by decide)), (HSub.pick nd (is := [0, 1]) (by decide))⟩ ?_
      rintro ⟨out25, x27⟩ env h x23x ⟨b24, b26, rfl, nd, hs⟩ hX hR23
      refine TK.subH hs ?_
      unfold X.matrix_Inverse_s23 at hX
      try dsimp only at hX
      refine TK.seq_k fun K31 hK31 => ?_
      refine TK.reg ?_
      refine TL.p (C := cx) (gc := true) (p_lss rfl rfl) rfl rfl ?_
      refine TL.nil ?_
      refine hK31 _ _ ?_
      refine TK.seq_k fun K32 hK32 => ?_
      refine TK.cond (b := (decide (x27 < (l18.length : Int)))) rfl (fun hc => ?_) (fun hc => ?_)
      · have hX := ite_t hc hX
        refine TK.skip ?_
        refine hK32 _ _ ?_
        refine TK.seq_k fun K33 hK33 => ?_
        refine TK.block ?_
        refine TK.seq_k fun K34 hK34 => ?_
        refine TK.reg ?_
        obtain ⟨e35, he35, hX⟩ := bind_some hX
        refine TL.p (C := cx) (gc := true) (p_iaO (xs := l18) kd22 ty25 rfl rfl rfl nd (j := 1) rfl (fun _ => he35)) rfl rfl ?_
        refine TL.p (C := cx) (gc := true) (p_ldO (xs := l18) (a := e35) (e35 : (List UInt8)) ty25 rfl rfl nd (j := 1) rfl (fun _ => he35) rfl rfl rfl) rfl rfl ?_
        refine TL.p (C := cx) (gc := true) (p_mv rfl) rfl rfl ?_
        refine TL.nil ?_
        refine hK34 _ _ ?_
        refine TK.reg ?_
        refine TL.p (C := cx) (gc := true) (p_mv rfl) rfl rfl ?_
        refine TL.p (C := cx) (gc := true) (p_mv rfl) rfl rfl ?_
        refine TL.p (C := cx) (gc := true) (p_mv rfl) rfl rfl ?_
        refine TL.p (C := cx) (gc := true) (p_lenL (xs := m1) kd22 rfl) rfl rfl ?_
        obtain ⟨u36, hu36, hX⟩ := bind_some hX
        refine TL.p (C := cx) (gc := true) (p_sliL (xs := e35) (l := (m1.length : Int)) (k := (e35.length : Int)) kd25 ty5 rfl rfl rfl rfl (fun e => need_t hu36)) rfl rfl ?_
        obtain ⟨r37, hr37, hX⟩ := bind_some hX
        refine TL.cvX rfl rfl rfl (fun _ => ⟨rfl, ⟨rfl, trivial⟩⟩) (fun e => ok_slices_Clone_Lbyte_byte (slc e35 (m1.length : Int) (e35.length : Int)) _ hr37) ?_
        refine TL.lit (C := cx) ([r37] : List (List UInt8)) kd22 ty25 rfl ⟨⟨rfl, rfl⟩, trivial⟩ rfl rfl rfl ?_
        obtain ⟨u38, hu38, hX⟩ := bind_some hX
        refine TL.appO (C := cx) nd kd22 bo22 ty25 rfl rfl (j := 0) rfl rfl (Src_L _) (by decide) (need_t hu38) rfl fun nd => ?_
        refine TL.p (C := cx) (gc := true) (p_mv rfl) rfl rfl ?_
        refine TL.nil ?_
        refine hK33 _ _ ?_
        refine TK.reg ?_
        refine TL.p (C := cx) (gc := true) (p_add rfl rfl) rfl rfl ?_
        refine TL.p (C := cx) (gc := true) (p_mv rfl) rfl rfl ?_
        refine TL.nil ?_
        exact ⟨_, (some_in hX).symm, b24, b26, rfl, (Nd.pick nd (is := [0, 1]) (by decide)), (HSub.pick nd (is := [0, 1]) (by decide))⟩
      · have hX := ite_f hc hX
        refine TK.exit ?_
        obtain rfl := hR23 _ (some_in hX).symm
        exact E23 out25 _ _ ⟨b24, rfl, (Nd.pick nd (is := [0]) (by decide)), (HSub.pick nd (is := [0]) (by decide))⟩ hA23
    refine TK.iter [0, 4, 26, 27] (fun s env h => match s with | (l15, x16) => ∃ b14, env = [(0, true, Enc.v (m1 : (List (List UInt8)))), (4, true, OL (α := (List UInt8)) b14 l15), (26, true, Enc.v ((r9.length : Int) : Int)), (27, true, Enc.v (x16 : Int))] ∧ Nd [(b14, RL (α := (List UInt8)) 25 l15)] ∧ HSub [(b14, RL (α := (List UInt8)) 25 l15)] h) hO13 ⟨b10, rfl, (Nd.pick nd (is := [0]) (by decide)), (HSub.pick nd (is := [0]) (by decide))⟩ ?_
    rintro ⟨l15, x16⟩ env h x13x ⟨b14, rfl, nd, hs⟩ hX hR13
    refine TK.subH hs ?_
    unfold X.matrix_Inverse_s13 at hX
    try dsimp only at hX
    refine TK.seq_k fun K39 hK39 => ?_
    refine TK.reg ?_
    refine TL.p (C := cx) (gc := true) (p_lss rfl rfl) rfl rfl ?_
    refine TL.nil ?_
    refine hK39 _ _ ?_
    refine TK.seq_k fun K40 hK40 => ?_
    refine TK.cond (b := (decide (x16 < (r9.length : Int)))) rfl (fun hc => ?_) (fun hc => ?_)
    · have hX := ite_t hc hX
      refine TK.skip ?_
      refine hK40 _ _ ?_
      refine TK.seq_k fun K41 hK41 => ?_
      refine TK.block ?_
      refine TK.seq_k fun K42 hK42 => ?_
      refine TK.reg ?_
      refine TL.p (C := cx) (gc := true) (p_mv rfl) rfl rfl ?_
      refine TL.alO (C := cx) (l := [Enc.v ((0 : Int) : Int)]) nd ty3 ti3_z rfl rfl fun b43 nd => ?_
      refine TL.stV (C := cx) (lu := Enc.cl (x16 : Int)) nd ty3 rfl (j := 0) rfl rfl rfl (Cells_v (x16 : Int)) rfl rfl [Enc.v (x16 : Int)] rfl fun nd => ?_
      refine TL.nil ?_
      refine hK42 _ _ ?_
      refine TK.seq_k fun K44 hK44 => ?_
      refine TK.reg ?_
      refine TL.p (C := cx) (gc := true) (p_mv rfl) rfl rfl ?_
      refine TL.p (C := cx) (gc := true) (p_ldV (v := Enc.v (x16 : Int)) ty3 rfl rfl nd (j := 0) rfl rfl rfl rfl rfl) rfl rfl ?_
      obtain ⟨u45, hu45, hX⟩ := bind_some hX
      refine TL.p (C := cx) (gc := true) (p_sliO (xs := l15) (l := x16) (k := (l15.length : Int)) kd22 ty25 rfl rfl nd (j := 1) rfl rfl rfl (fun e => need_t hu45)) rfl rfl ?_
      refine TL.lay [(5, .vref (ofL [Enc.v (x16 : Int)]) 1 0)] nd (j := 0) rfl ⟨⟨_, rfl, fix_ref nd (j := 0) rfl, rfl⟩, trivial⟩ fun nd => ?_
      refine TL.p (C := cx) (gc := true) (p_mf (l := [.vref (ofL [Enc.v (x16 : Int)]) 1 0]) rfl (fun _ => ⟨rfl, trivial⟩)) rfl rfl ?_
      obtain ⟨r46, hr46, hX⟩ := bind_some hX
      refine TL.lookX [L (slc l15 x16 (l15.length : Int)), .fn 123 1 (ofL [.vref (ofL [Enc.v (x16 : Int)]) 1 0])] rfl rfl rfl (fun _ => ⟨rfl, ⟨rfl, ⟨rfl, trivial⟩⟩⟩) ⟨look_OS nd (j := 0) rfl (need_t hu45).1, look_v (caps_val rfl ⟨(vref_val rfl ⟨v_val _, trivial⟩), trivial⟩), trivial⟩ (fun e => ok_slices_IndexFunc_LLbyte_Lbyte (slc l15 x16 (l15.length : Int)) (fun a1 => X.matrix_Inverse_c1 a1 x16) _ hr46 ⟨123, 1, ofL [.vref (ofL [Enc.v (x16 : Int)]) 1 0], rfl, (caps_val rfl ⟨(vref_val rfl ⟨v_val _, trivial⟩), trivial⟩), fun a1 r hr => ok_matrix_Inverse_c1 a1 x16 r hr⟩) (trivial) ?_
      refine TL.p (C := cx) (gc := true) (p_mv rfl) rfl rfl ?_
      refine TL.nil ?_
      refine hK44 _ _ ?_
      refine TK.seq_k fun K47 hK47 => ?_
      refine TK.seq_k fun K48 hK48 => ?_
      refine TK.reg ?_
      refine TL.p (C := cx) (gc := true) (p_mv rfl) rfl rfl ?_
      refine TL.p (C := cx) (gc := true) (p_lss rfl rfl) rfl rfl ?_
      refine TL.nil ?_
      refine hK48 _ _ ?_
      refine TK.cond (b := (decide (r46 < (0 : Int)))) rfl (fun hc => ?_) (fun hc => ?_)
      · have hX := ite_t hc hX
        refine TK.seq_k fun K49 hK49 => ?_
        refine TK.reg ?_
        refine TL.p (C := cx) (gc := true) (p_mv rfl) rfl rfl ?_
        refine TL.p (C := cx) (gc := true) (p_mv rfl) rfl rfl ?_
        refine TL.nil ?_
        refine hK49 _ _ ?_
        refine TK.wk 2 (L ([] : (List (List UInt8)))) rfl Wk_nil ?_
        refine TK.ret ?_
        obtain rfl := hR13 _ (some_in hX).symm
        replace hX := hA13
        try dsimp only [thenQ]
        exact retN (vs := [Enc.v (([] : (List (List UInt8))) : (List (List UInt8))), Enc.v ((12 : Int) : Int)]) ⟨rfl, rfl, trivial⟩ (by obtain rfl := some_in hX; rfl) (allVal.mem ⟨v_val _, v_val _, trivial⟩)
      · have hX := ite_f hc hX
        refine TK.skip ?_
        refine hK47 _ _ ?_
        refine TK.seq_k fun K50 hK50 => ?_
        have ndS : Nd [] := Nd.pick nd (is := []) (by decide)
        refine TK.endK fun KD hKD => ?_
        refine TK.drwX (h := [(b14, RL (α := (List UInt8)) 25 l15)]) (hS := []) [(0, 0), (0, 1), (0, 2), (0, 3), (0, 4), (0, 5), (0, 6), (0, 7), (0, 8), (0, 9), (1, 10), (1, 11), (0, 12), (0, 13), (1, 14), (1, 15), (1, 16), (2, 17), (1, 18), (2, 19)] mixed (by kernel_rfl) (HSub_app nd) ?_
        refine DR0 (gc := true) rfl (vok_p (C := cx) (p_mv rfl)) rfl rfl ?_
        refine DR0 (gc := true) rfl (vok_p (C := cx) (p_ldR (v := Enc.v (x16 : Int)) ty3 rfl rfl rfl rfl rfl rfl)) rfl rfl ?_
        refine DR0 (gc := true) rfl (vok_p (C := cx) (p_mv rfl)) rfl rfl ?_
        refine DR0 (gc := true) rfl (vok_p (C := cx) (p_ldR (v := Enc.v (x16 : Int)) ty3 rfl rfl rfl rfl rfl rfl)) rfl rfl ?_
        refine DR0 (gc := true) rfl (vok_p (C := cx) (p_mv rfl)) rfl rfl ?_
        refine DR0 (gc := true) rfl (vok_p (C := cx) (p_add rfl rfl)) rfl rfl ?_
        refine DR0 (gc := true) rfl (vok_p (C := cx) (p_mv rfl)) rfl rfl ?_
        refine DR0 (gc := true) rfl (vok_p (C := cx) (p_ldR (v := Enc.v (x16 : Int)) ty3 rfl rfl rfl rfl rfl rfl)) rfl rfl ?_
        refine DR0 (gc := true) rfl (vok_p (C := cx) (p_mv rfl)) rfl rfl ?_
        refine DR0 (gc := true) rfl (vok_p (C := cx) (p_add rfl rfl)) rfl rfl ?_
        obtain ⟨e51, he51, hX⟩ := bind_some hX
        refine DR1 (gc := true) rfl (vok_p (C := cx) (p_iaO (xs := l15) kd22 ty25 rfl rfl rfl nd (j := 0) rfl (fun _ => he51))) rfl rfl ?_
        refine DR1 (gc := true) rfl (vok_p (C := cx) (p_ldO (xs := l15) (a := e51) (e51 : (List UInt8)) ty25 rfl rfl nd (j := 0) rfl (fun _ => he51) rfl rfl rfl)) rfl rfl ?_
        refine DR0 (gc := true) rfl (vok_p (C := cx) (p_mv rfl)) rfl rfl ?_
        refine DR0 (gc := true) rfl (vok_p (C := cx) (p_ldR (v := Enc.v (x16 : Int)) ty3 rfl rfl rfl rfl rfl rfl)) rfl rfl ?_
        obtain ⟨e52, he52, hX⟩ := bind_some hX
        refine DR1 (gc := true) rfl (vok_p (C := cx) (p_iaO (xs := l15) kd22 ty25 rfl rfl rfl nd (j := 0) rfl (fun _ => he52))) rfl rfl ?_
        refine DR1 (gc := true) rfl (vok_p (C := cx) (p_ldO (xs := l15) (a := e52) (e52 : (List UInt8)) ty25 rfl rfl nd (j := 0) rfl (fun _ => he52) rfl rfl rfl)) rfl rfl ?_
        obtain ⟨e53, he53, hX⟩ := bind_some hX
        refine DR1 (gc := true) rfl (vok_p (C := cx) (p_iaO (xs := l15) kd22 ty25 rfl rfl rfl nd (j := 0) rfl (fun _ => he53))) rfl rfl ?_
        refine DR2n rfl ?_
        refine TL.stW (C := cx) (xs := l15) (i := x16) (lu := Enc.cl (e51 : (List UInt8))) (a' := e51) nd ty25 rfl (j := 0) rfl (by simp [Enc.sz]) (inb_of he53 (by simp)) rfl (Cells_v (e51 : (List UInt8))) rfl (WkL_refl _) fun nd => ?_
        refine TL.nil ⟨.nilp, [(b14, RL (α := (List UInt8)) 25 (l15.set x16.toNat e51))], rfl, rfl, HSub_app nd, ?_⟩
        obtain ⟨e54, he54, hX⟩ := bind_some hX
        refine DR1 (gc := true) rfl (vok_p (C := cx) (p_iaO (xs := (l15.set x16.toNat e51)) (gx := true) kd22 ty25 rfl (by rw [OL_len (xs := (l15.set x16.toNat e51)) (ys := l15) (by simp)]; rfl) rfl nd (j := 0) rfl (fun _ => he54))) rfl rfl ?_
        refine DR2n rfl ?_
        refine TL.stW (C := cx) (xs := (l15.set x16.toNat e51)) (i := (wr (x16 + r46))) (lu := Enc.cl (e52 : (List UInt8))) (a' := e52) nd ty25 rfl (j := 0) rfl (by simp [Enc.sz]) (inb_of he54 (by simp)) rfl (Cells_v (e52 : (List UInt8))) rfl (WkL_refl _) fun nd => ?_
        refine TL.nil ⟨.nilp, [(b14, RL (α := (List UInt8)) 25 ((l15.set x16.toNat e51).set (wr (x16 + r46)).toNat e52))], rfl, rfl, HSub_app nd, ?_⟩
        refine DRend ?_
        refine hKD _ _ ?_
        refine TL.cv 4 (OL (α := (List UInt8)) b14 ((l15.set x16.toNat e51).set (wr (x16 + r46)).toNat e52)) rfl (Wk_eq (OL_len (by simp))) ?_
        refine TL.nil ?_
        refine hK50 _ _ ?_
        refine TK.seq_k fun K55 hK55 => ?_
        have ndS : Nd [] := Nd.pick nd (is := []) (by decide)
        refine TK.endK fun KD hKD => ?_
        refine TK.drwX (h := [(b14, RL (α := (List UInt8)) 25 ((l15.set x16.toNat e51).set (wr (x16 + r46)).toNat e52))]) (hS := []) [(0, 0), (0, 1), (0, 2), (0, 3), (1, 4), (1, 5), (0, 6), (0, 7), (1, 8), (1, 9), (0, 10), (0, 11), (0, 12), (0, 13), (0, 14), (1, 15), (2, 16)] mixed (by kernel_rfl) (HSub_app nd) ?_
        refine DR0 (gc := true) rfl (vok_p (C := cx) (p_mv rfl)) rfl rfl ?_
        refine DR0 (gc := true) rfl (vok_p (C := cx) (p_ldR (v := Enc.v (x16 : Int)) ty3 rfl rfl rfl rfl rfl rfl)) rfl rfl ?_
        refine DR0 (gc := true) rfl (vok_p (C := cx) (p_mv rfl)) rfl rfl ?_
        refine DR0 (gc := true) rfl (vok_p (C := cx) (p_ldR (v := Enc.v (x16 : Int)) ty3 rfl rfl rfl rfl rfl rfl)) rfl rfl ?_
        obtain ⟨e56, he56, hX⟩ := bind_some hX
        refine DR1 (gc := true) rfl (vok_p (C := cx) (p_iaO (xs := ((l15.set x16.toNat e51).set (wr (x16 + r46)).toNat e52)) kd22 ty25 rfl rfl rfl nd (j := 0) rfl (fun _ => he56))) rfl rfl ?_
        refine DR1 (gc := true) rfl (vok_p (C := cx) (p_ldO (xs := ((l15.set x16.toNat e51).set (wr (x16 + r46)).toNat e52)) (a := e56) (e56 : (List UInt8)) ty25 rfl rfl nd (j := 0) rfl (fun _ => he56) rfl rfl rfl)) rfl rfl ?_
        refine DR0 (gc := true) rfl (vok_p (C := cx) (p_mv rfl)) rfl rfl ?_
        refine DR0 (gc := true) rfl (vok_p (C := cx) (p_ldR (v := Enc.v (x16 : Int)) ty3 rfl rfl rfl rfl rfl rfl)) rfl rfl ?_
        obtain ⟨e57, he57, hX⟩ := bind_some hX
        refine DR1 (gc := true) rfl (vok_p (C := cx) (p_iaO (xs := ((l15.set x16.toNat e51).set (wr (x16 + r46)).toNat e52)) kd22 ty25 rfl rfl rfl nd (j := 0) rfl (fun _ => he57))) rfl rfl ?_
        refine DR1 (gc := true) rfl (vok_p (C := cx) (p_ldO (xs := ((l15.set x16.toNat e51).set (wr (x16 + r46)).toNat e52)) (a := e57) (e57 : (List UInt8)) ty25 rfl rfl nd (j := 0) rfl (fun _ => he57) rfl rfl rfl)) rfl rfl ?_
        refine DR0 (gc := true) rfl (vok_p (C := cx) (p_ldR (v := Enc.v (x16 : Int)) ty3 rfl rfl rfl rfl rfl rfl)) rfl rfl ?_
        obtain ⟨e58, he58, hX⟩ := bind_some hX
        refine DR0 (gc := true) rfl (vok_p (C := cx) (p_iaL (xs := e57) kd25 ty5 rfl rfl rfl (fun _ => he58))) rfl rfl ?_
        refine DR0 (gc := true) rfl (vok_p (C := cx) (p_ldE (xs := e57) (a := e58) (e58 : UInt8) ty5 rfl rfl (fun _ => he58) rfl rfl rfl)) rfl rfl ?_
        obtain ⟨r59, hr59, hX⟩ := bind_some hX
        refine DR0 (gc := true) rfl (vok_c rfl (fun _ => ⟨rfl, ⟨rfl, trivial⟩⟩) (fun e => ok_gf_Inv e58 _ hr59)) rfl rfl ?_
        obtain ⟨r60, hr60, hX⟩ := bind_some hX
        refine DR0 (gc := true) rfl (vok_c rfl (fun _ => ⟨rfl, ⟨rfl, ⟨rfl, trivial⟩⟩⟩) (fun e => ok_matrix_scaled e56 r59 _ hr60)) rfl rfl ?_
        obtain ⟨e61, he61, hX⟩ := bind_some hX
        refine DR1 (gc := true) rfl (vok_p (C := cx) (p_iaO (xs := ((l15.set x16.toNat e51).set (wr (x16 + r46)).toNat e52)) kd22 ty25 rfl rfl rfl nd (j := 0) rfl (fun _ => he61))) rfl rfl ?_
        refine DR2n rfl ?_
        refine TL.stW (C := cx) (xs := ((l15.set x16.toNat e51).set (wr (x16 + r46)).toNat e52)) (i := x16) (lu := Enc.cl (r60 : (List UInt8))) (a' := r60) nd ty25 rfl (j := 0) rfl (by simp [Enc.sz]) (inb_of he61 (by simp)) rfl (Cells_v (r60 : (List UInt8))) rfl (WkL_refl _) fun nd => ?_
        refine TL.nil ⟨.nilp, [(b14, RL (α := (List UInt8)) 25 (((l15.set x16.toNat e51).set (wr (x16 + r46)).toNat e52).set x16.toNat r60))], rfl, rfl, HSub_app nd, ?_⟩
        refine DRend ?_
        refine hKD _ _ ?_
        refine TL.cv 4 (OL (α := (List UInt8)) b14 (((l15.set x16.toNat e51).set (wr (x16 + r46)).toNat e52).set x16.toNat r60)) rfl (Wk_eq (OL_len (by simp))) ?_
        refine TL.nil ?_
        refine hK55 _ _ ?_
        refine TK.seq_k fun K62 hK62 => ?_
        refine TK.reg ?_
        refine TL.p (C := cx) (gc := true) (p_mv rfl) rfl rfl ?_
        refine TL.p (C := cx) (gc := true) (p_lenR kd22 rfl (fun _ => refOK_of nd (j := 0) rfl rfl)) rfl rfl ?_
        refine TL.p (C := cx) (gc := true) (p_mv rfl) rfl rfl ?_
        refine TL.nil ?_
        refine hK62 _ _ ?_
        refine TK.block ?_
        obtain ⟨o63, hO63, hA63⟩ := bind_some hX
        have E63 : ∀ (l68 : List (List UInt8)) (env : Env) (h : Hp), (∃ b67, keepE [0, 4, 26, 27] env = [(0, true, Enc.v (m1 : (List (List UInt8)))), (4, true, OL (α := (List UInt8)) b67 l68), (26, true, Enc.v ((r9.length : Int) : Int)), (27, true, Enc.v (x16 : Int))] ∧ Nd [(b67, RL (α := (List UInt8)) 25 l68)] ∧ HSub [(b67, RL (α := (List UInt8)) 25 l68)] h) → X.matrix_Inverse_e63 x16 l68 = some x13x → K41 env h := by
          intro l68 env h hE hX
          obtain ⟨b67, henv, nd, hs⟩ := hE
          unfold X.matrix_Inverse_e63 at hX
          refine hK41 _ _ (TK.keep [0, 4, 26, 27] ?_)
          rw [henv]
          refine TK.subH hs ?_
          refine TK.reg ?_
          refine TL.p (C := cx) (gc := true) (p_add rfl rfl) rfl rfl ?_
          refine TL.p (C := cx) (gc := true) (p_mv rfl) rfl rfl ?_
          refine TL.nil ?_
          exact ⟨_, (some_in hX).symm, b67, rfl, (Nd.pick nd (is := [0]) (by decide)), (HSub.pick nd (is := [0]) (by decide))⟩
        refine TK.iter [0, 4, 5, 26, 27, 72, 73] (fun s env h => match s with | (l65, x66) => ∃ b64, env = [(0, true, Enc.v (m1 : (List (List UInt8)))), (4, true, OL (α := (List UInt8)) b64 l65), (5, true, .vref (ofL [Enc.v (x16 : Int)]) 1 0), (26, true, Enc.v ((r9.length : Int) : Int)), (27, true, Enc.v (x16 : Int)), (72, true, Enc.v (((((l15.set x16.toNat e51).set (wr (x16 + r46)).toNat e52).set x16.toNat r60).length : Int) : Int)), (73, true, Enc.v (x66 : Int))] ∧ Nd [(b64, RL (α := (List UInt8)) 25 l65)] ∧ HSub [(b64, RL (α := (List UInt8)) 25 l65)] h) hO63 ⟨b14, rfl, (Nd.pick nd (is := [0]) (by decide)), (HSub.pick nd (is := [0]) (by decide))⟩ ?_
        rintro ⟨l65, x66⟩ env h x63x ⟨b64, rfl, nd, hs⟩ hX hR63
        refine TK.subH hs ?_
        unfold X.matrix_Inverse_s63 at hX
        try dsimp only at hX
        refine TK.seq_k fun K69 hK69 => ?_
        refine TK.reg ?_
        refine TL.p (C := cx) (gc := true) (p_lss rfl rfl) rfl rfl ?_
        refine TL.nil ?_
        refine hK69 _ _ ?_
        refine TK.seq_k fun K70 hK70 => ?_
        refine TK.cond (b := (decide (x66 < ((((l15.set x16.toNat e51).set (wr (x16 + r46)).toNat e52).set x16.toNat r60).length : Int)))) rfl (fun hc => ?_) (fun hc => ?_)
        · have hX := ite_t hc hX
          refine TK.skip ?_
          refine hK70 _ _ ?_
          refine TK.seq_k fun K71 hK71 => ?_
          refine TK.block ?_
          refine TK.seq_k fun K72 hK72 => ?_
          refine TK.reg ?_
          refine TL.p (C := cx) (gc := true) (p_mv rfl) rfl rfl ?_
          refine TL.p (C := cx) (gc := true) (p_mv rfl) rfl rfl ?_
          refine TL.nil ?_
          refine hK72 _ _ ?_
          refine TK.seq_k fun K73 hK73 => ?_
          have ndS : Nd [(b64, RL (α := (List UInt8)) 25 l65)] := Nd.pick nd (is := [0]) (by decide)
          refine TK.drwX (h := []) (hS := [(b64, RL (α := (List UInt8)) 25 l65)]) [(0, 0), (0, 1), (0, 2), (0, 3), (0, 4), (0, 5), (0, 6), (0, 7), (0, 8), (0, 9), (0, 10), (0, 11), (0, 12)] mixed (by kernel_rfl) (HSub_app nd) ?_
          refine DR0 (gc := true) rfl (vok_p (C := cx) (p_mv rfl)) rfl rfl ?_
          refine DR0 (gc := true) rfl (vok_p (C := cx) (p_ldR (v := Enc.v (x16 : Int)) ty3 rfl rfl rfl rfl rfl rfl)) rfl rfl ?_
          refine DR0 (gc := true) rfl (vok_p (C := cx) (p_neq rfl rfl)) rfl rfl ?_
          refine DR0 (gc := true) rfl (vok_p (C := cx) (p_mv rfl)) rfl rfl ?_
          refine DR0 (gc := ((x66 != x16))) rfl (vok_p (C := cx) (p_mv rfl (hg := fun e => rfl))) (gcT1 rfl) rfl ?_
          refine DR0 (gc := ((x66 != x16))) rfl (vok_p (C := cx) (p_mv rfl (hg := fun e => rfl))) (gcT1 rfl) rfl ?_
          obtain ⟨e74, he74, hX⟩ := bind_some hX
          refine DR0 (gc := ((x66 != x16))) rfl (vok_p (C := cx) (p_iaO (xs := l65) kd22 ty25 rfl rfl rfl ndS (j := 0) rfl (fun e => optG_t he74 e) (hg := fun e => ⟨e, e⟩))) (gcT1 rfl) rfl ?_
          refine DR0 (gc := ((x66 != x16))) rfl (vok_p (C := cx) (p_ldO (xs := l65) (a := e74) (e74 : (List UInt8)) ty25 rfl rfl ndS (j := 0) rfl (fun e => optG_t he74 e) rfl rfl rfl (hg := fun e => e))) (gcT1 rfl) rfl ?_
          refine DR0 (gc := ((x66 != x16))) rfl (vok_p (C := cx) (p_ldR (v := Enc.v (x16 : Int)) ty3 rfl rfl rfl rfl rfl rfl (hg := fun e => rfl))) (gcT1 rfl) rfl ?_
          obtain ⟨e75, he75, hX⟩ := bind_some hX
          refine DR0 (gc := ((x66 != x16))) rfl (vok_p (C := cx) (p_iaL (xs := e74) kd25 ty5 rfl rfl rfl (fun e => optG_t he75 e) (hg := fun e => ⟨e, e⟩))) (gcT1 rfl) rfl ?_
          refine DR0 (gc := ((x66 != x16))) rfl (vok_p (C := cx) (p_ldE (xs := e74) (a := e75) (e75 : UInt8) ty5 rfl rfl (fun e => optG_t he75 e) rfl rfl rfl (hg := fun e => e))) (gcT1 rfl) rfl ?_
          refine DR0 (gc := ((x66 != x16))) rfl (vok_p (C := cx) (p8_neq (a := e75) (b := (0 : UInt8)) rfl rfl (hg := fun e => ⟨e, rfl⟩))) (gcT1 rfl) rfl ?_
          refine DR0 (gc := true) rfl (vok_p (C := cx) (p_and rfl rfl (fun e => ⟨rfl, fun h => h⟩))) rfl rfl ?_
          refine DRend ?_
          refine hK73 _ _ ?_
          refine TK.cond (b := ((x66 != x16) && (e75 != (0 : UInt8)))) rfl (fun hc => ?_) (fun hc => ?_)
          · have hX := ite_t hc hX
            have ndS : Nd [] := Nd.pick nd (is := []) (by decide)
            refine TK.endK fun KD hKD => ?_
            refine TK.drwX (h := [(b64, RL (α := (List UInt8)) 25 l65)]) (hS := []) [(0, 0), (0, 1), (0, 2), (0, 3), (1, 4), (1, 5), (0, 6), (0, 7), (1, 8), (1, 9), (0, 10), (0, 11), (1, 12), (1, 13), (0, 14), (0, 15), (0, 16), (0, 17), (0, 18), (1, 19), (2, 20)] mixed (by kernel_rfl) (HSub_app nd) ?_
            refine DR0 (gc := true) rfl (vok_p (C := cx) (p_mv rfl)) rfl rfl ?_
            refine DR0 (gc := true) rfl (vok_p (C := cx) (p_mv rfl)) rfl rfl ?_
            refine DR0 (gc := true) rfl (vok_p (C := cx) (p_mv rfl)) rfl rfl ?_
            refine DR0 (gc := true) rfl (vok_p (C := cx) (p_mv rfl)) rfl rfl ?_
            obtain ⟨e76, he76, hX⟩ := bind_some hX
            refine DR1 (gc := true) rfl (vok_p (C := cx) (p_iaO (xs := l65) kd22 ty25 rfl rfl rfl nd (j := 0) rfl (fun _ => he76))) rfl rfl ?_
            refine DR1 (gc := true) rfl (vok_p (C := cx) (p_ldO (xs := l65) (a := e76) (e76 : (List UInt8)) ty25 rfl rfl nd (j := 0) rfl (fun _ => he76) rfl rfl rfl)) rfl rfl ?_
            refine DR0 (gc := true) rfl (vok_p (C := cx) (p_mv rfl)) rfl rfl ?_
            refine DR0 (gc := true) rfl (vok_p (C := cx) (p_ldR (v := Enc.v (x16 : Int)) ty3 rfl rfl rfl rfl rfl rfl)) rfl rfl ?_
            obtain ⟨e77, he77, hX⟩ := bind_some hX
            refine DR1 (gc := true) rfl (vok_p (C := cx) (p_iaO (xs := l65) kd22 ty25 rfl rfl rfl nd (j := 0) rfl (fun _ => he77))) rfl rfl ?_
            refine DR1 (gc := true) rfl (vok_p (C := cx) (p_ldO (xs := l65) (a := e77) (e77 : (List UInt8)) ty25 rfl rfl nd (j := 0) rfl (fun _ => he77) rfl rfl rfl)) rfl rfl ?_
            refine DR0 (gc := true) rfl (vok_p (C := cx) (p_mv rfl)) rfl rfl ?_
            refine DR0 (gc := true) rfl (vok_p (C := cx) (p_mv rfl)) rfl rfl ?_
            obtain ⟨e78, he78, hX⟩ := bind_some hX
            refine DR1 (gc := true) rfl (vok_p (C := cx) (p_iaO (xs := l65) kd22 ty25 rfl rfl rfl nd (j := 0) rfl (fun _ => he78))) rfl rfl ?_
            refine DR1 (gc := true) rfl (vok_p (C := cx) (p_ldO (xs := l65) (a := e78) (e78 : (List UInt8)) ty25 rfl rfl nd (j := 0) rfl (fun _ => he78) rfl rfl rfl)) rfl rfl ?_
            refine DR0 (gc := true) rfl (vok_p (C := cx) (p_ldR (v := Enc.v (x16 : Int)) ty3 rfl rfl rfl rfl rfl rfl)) rfl rfl ?_
            obtain ⟨e79, he79, hX⟩ := bind_some hX
            refine DR0 (gc := true) rfl (vok_p (C := cx) (p_iaL (xs := e78) kd25 ty5 rfl rfl rfl (fun _ => he79))) rfl rfl ?_
            refine DR0 (gc := true) rfl (vok_p (C := cx) (p_ldE (xs := e78) (a := e79) (e79 : UInt8) ty5 rfl rfl (fun _ => he79) rfl rfl rfl)) rfl rfl ?_
            obtain ⟨r80, hr80, hX⟩ := bind_some hX
            refine DR0 (gc := true) rfl (vok_c rfl (fun _ => ⟨rfl, ⟨rfl, ⟨rfl, trivial⟩⟩⟩) (fun e => ok_matrix_scaled e77 e79 _ hr80)) rfl rfl ?_
            obtain ⟨r81, hr81, hX⟩ := bind_some hX
            refine DR0 (gc := true) rfl (vok_c rfl (fun _ => ⟨rfl, ⟨rfl, ⟨rfl, trivial⟩⟩⟩) (fun e => ok_matrix_sum e76 r80 _ hr81)) rfl rfl ?_
            obtain ⟨e82, he82, hX⟩ := bind_some hX
            refine DR1 (gc := true) rfl (vok_p (C := cx) (p_iaO (xs := l65) kd22 ty25 rfl rfl rfl nd (j := 0) rfl (fun _ => he82))) rfl rfl ?_
            refine DR2n rfl ?_
            refine TL.stW (C := cx) (xs := l65) (i := x66) (lu := Enc.cl (r81 : (List UInt8))) (a' := r81) nd ty25 rfl (j := 0) rfl (by simp [Enc.sz]) (inb_of he82 (by simp)) rfl (Cells_v (r81 : (List UInt8))) rfl (WkL_refl _) fun nd => ?_
            refine TL.nil ⟨.nilp, [(b64, RL (α := (List UInt8)) 25 (l65.set x66.toNat r81))], rfl, rfl, HSub_app nd, ?_⟩
            refine DRend ?_
            refine hKD _ _ ?_
            refine TL.cv 4 (OL (α := (List UInt8)) b64 (l65.set x66.toNat r81)) rfl (Wk_eq (OL_len (by simp))) ?_
            refine TL.nil ?_
            refine hK71 _ _ ?_
            refine TK.reg ?_
            refine TL.p (C := cx) (gc := true) (p_add rfl rfl) rfl rfl ?_
            refine TL.p (C := cx) (gc := true) (p_mv rfl) rfl rfl ?_
            refine TL.nil ?_
            exact ⟨_, (some_in hX).symm, b64, rfl, (Nd.pick nd (is := [0]) (by decide)), (HSub.pick nd (is := [0]) (by decide))⟩
          · have hX := ite_f hc hX
            refine TK.skip ?_
            refine hK71 _ _ ?_
            refine TK.reg ?_
            refine TL.p (C := cx) (gc := true) (p_add rfl rfl) rfl rfl ?_
            refine TL.p (C := cx) (gc := true) (p_mv rfl) rfl rfl ?_
            refine TL.nil ?_
            exact ⟨_, (some_in hX).symm, b64, rfl, (Nd.pick nd (is := [0]) (by decide)), (HSub.pick nd (is := [0]) (by decide))⟩
        · have hX := ite_f hc hX
          refine TK.exit ?_
          obtain rfl := hR63 _ (some_in hX).symm
          exact E63 l65 _ _ ⟨b64, rfl, (Nd.pick nd (is := [0]) (by decide)), (HSub.pick nd (is := [0]) (by decide))⟩ hA63
    · have hX := ite_f hc hX
      refine TK.exit ?_
      obtain rfl := hR13 _ (some_in hX).symm
      exact E13 l15 _ _ ⟨b14, rfl, (Nd.pick nd (is := [0]) (by decide)), (HSub.pick nd (is := [0]) (by decide))⟩ hA13

/-- cartridge/erasure.Decode -/
theorem ok_erasure_Decode (have1 : (List (List UInt8))) (data2 : Int) (r : ((List (List UInt8)) × Int)) (hX : X.erasure_Decode have1 data2 = some r) : Fun Try.prog 42 [Enc.v (have1 : (List (List UInt8))), Enc.v (data2 : Int)] (· = .tup 2 (ofL [Enc.v r.1, Enc.v r.2])) := by
  refine Fun.of b42 (Nat.le_of_ble_eq_true rfl) (allVal.mem ⟨(by exact (v_val _)), (by exact (v_val _)), trivial⟩) ?_
  unfold k42
  have nd : Nd [] := Nd_nil
  unfold X.erasure_Decode at hX
  refine TK.seq_k fun K3 hK3 => ?_
  refine TK.reg ?_
  refine TL.p (C := cx) (gc := true) (p_mv rfl) rfl rfl ?_
  refine TL.p (C := cx) (gc := true) (p_mv rfl) rfl rfl ?_
  refine TL.nil ?_
  refine hK3 _ _ ?_
  refine TK.seq_k fun K4 hK4 => ?_
  refine TK.reg ?_
  refine TL.p (C := cx) (gc := true) (p_mv rfl) rfl rfl ?_
  refine TL.nil ?_
  refine hK4 _ _ ?_
  refine TK.ownL (α := (List UInt8)) 6 25 nd rfl (.inl rfl) fun b5 nd => ?_
  refine TK.seq_k fun K6 hK6 => ?_
  refine TK.seq_k fun K7 hK7 => ?_
  refine TK.reg ?_
  refine TL.p (C := cx) (gc := true) (p_mv rfl) rfl rfl ?_
  refine TL.p (C := cx) (gc := true) (p_lenL (xs := have1) kd22 rfl) rfl rfl ?_
  refine TL.p (C := cx) (gc := true) (p_mv rfl) rfl rfl ?_
  refine TL.nil ?_
  refine hK7 _ _ ?_
  refine TK.block ?_
  obtain ⟨o8, hO8, hA8⟩ := bind_some hX
  have E8 : ∀ (l13 : List (List UInt8)) (env : Env) (h : Hp), (∃ b12, keepE [0, 1, 6] env = [(0, true, Enc.v (have1 : (List (List UInt8)))), (1, true, Enc.v (data2 : Int)), (6, true, OL (α := (List UInt8)) b12 l13)] ∧ Nd [(b12, RL (α := (List UInt8)) 25 l13)] ∧ HSub [(b12, RL (α := (List UInt8)) 25 l13)] h) → X.erasure_Decode_e8 data2 have1 l13 = some r → K6 env h := by
    intro l13 env h hE hX
    obtain ⟨b12, henv, nd, hs⟩ := hE
    unfold X.erasure_Decode_e8 at hX
    refine hK6 _ _ (TK.keep [0, 1, 6] ?_)
    rw [henv]
    refine TK.subH hs ?_
    refine TK.seq_k fun K14 hK14 => ?_
    refine TK.block ?_
    refine TK.seq_k fun K15 hK15 => ?_
    refine TK.reg ?_
    refine TL.p (C := cx) (gc := true) (p_mv rfl) rfl rfl ?_
    refine TL.p (C := cx) (gc := true) (p_lss rfl rfl) rfl rfl ?_
    refine TL.p (C := cx) (gc := true) (p_mv rfl) rfl rfl ?_
    refine TL.p (C := cx) (gc := (!((decide (data2 < (1 : Int)))))) (p_mv rfl (hg := fun e => rfl)) (gcF1 rfl) rfl ?_
    refine TL.p (C := cx) (gc := (!((decide (data2 < (1 : Int)))))) (p_mv rfl (hg := fun e => rfl)) (gcF1 rfl) rfl ?_
    refine TL.p (C := cx) (gc := (!((decide (data2 < (1 : Int)))))) (p_lenL (xs := have1) kd22 rfl (hg := fun e => e)) (gcF1 rfl) rfl ?_
    refine TL.p (C := cx) (gc := (!((decide (data2 < (1 : Int)))))) (p_gtr rfl rfl (hg := fun e => ⟨e, e⟩)) (gcF1 rfl) rfl ?_
    refine TL.p (C := cx) (gc := true) (p_or rfl rfl (fun e => ⟨rfl, fun h => (not_t h)⟩)) rfl rfl ?_
    refine TL.p (C := cx) (gc := true) (p_mv rfl) rfl rfl ?_
    refine TL.p (C := cx) (gc := (!(((decide (data2 < (1 : Int))) || (decide (data2 > (have1.length : Int))))))) (p_mv rfl (hg := fun e => rfl)) (gcF1 rfl) rfl ?_
    refine TL.p (C := cx) (gc := (!(((decide (data2 < (1 : Int))) || (decide (data2 > (have1.length : Int))))))) (p_lenL (xs := have1) kd22 rfl (hg := fun e => e)) (gcF1 rfl) rfl ?_
    refine TL.p (C := cx) (gc := (!(((decide (data2 < (1 : Int))) || (decide (data2 > (have1.length : Int))))))) (p_gtr rfl rfl (hg := fun e => ⟨e, rfl⟩)) (gcF1 rfl) rfl ?_
    refine TL.p (C := cx) (gc := true) (p_or rfl rfl (fun e => ⟨rfl, fun h => (not_t h)⟩)) rfl rfl ?_
    refine TL.p (C := cx) (gc := true) (p_mv rfl) rfl rfl ?_
    refine TL.p (C := cx) (gc := (!((((decide (data2 < (1 : Int))) || (decide (data2 > (have1.length : Int)))) || (decide ((have1.length : Int) > (255 : Int))))))) (p_mv rfl (hg := fun e => rfl)) (gcF1 rfl) rfl ?_
    refine TL.p (C := cx) (gc := (!((((decide (data2 < (1 : Int))) || (decide (data2 > (have1.length : Int)))) || (decide ((have1.length : Int) > (255 : Int))))))) (p_lenR kd22 rfl (fun _ => refOK_of nd (j := 0) rfl rfl) (hg := fun e => e)) (gcF1 rfl) rfl ?_
    refine TL.p (C := cx) (gc := (!((((decide (data2 < (1 : Int))) || (decide (data2 > (have1.length : Int)))) || (decide ((have1.length : Int) > (255 : Int))))))) (p_eql rfl rfl (hg := fun e => ⟨e, rfl⟩)) (gcF1 rfl) rfl ?_
    refine TL.p (C := cx) (gc := true) (p_or rfl rfl (fun e => ⟨rfl, fun h => (not_t h)⟩)) rfl rfl ?_
    refine TL.p (C := cx) (gc := true) (p_mv rfl) rfl rfl ?_
    refine TL.p (C := cx) (gc := (!(((((decide (data2 < (1 : Int))) || (decide (data2 > (have1.length : Int)))) || (decide ((have1.length : Int) > (255 : Int)))) || ((l13.length : Int) == (0 : Int)))))) (p_mv rfl (hg := fun e => rfl)) (gcF1 rfl) rfl ?_
    obtain ⟨r16, hr16, hX⟩ := bind_some hX
    refine TL.lookX [L l13] (gcF1 rfl) rfl rfl (fun e => ⟨rfl, ⟨e, trivial⟩⟩) ⟨look_OL nd (j := 0) rfl, trivial⟩ (fun e => ok_erasure_alike l13 _ (optG_t hr16 e)) (trivial) ?_
    refine TL.p (C := cx) (gc := (!(((((decide (data2 < (1 : Int))) || (decide (data2 > (have1.length : Int)))) || (decide ((have1.length : Int) > (255 : Int)))) || ((l13.length : Int) == (0 : Int)))))) (p_not rfl (hg := fun e => e)) (gcF1 rfl) rfl ?_
    refine TL.p (C := cx) (gc := true) (p_or rfl rfl (fun e => ⟨rfl, fun h => (not_t h)⟩)) rfl rfl ?_
    refine TL.p (C := cx) (gc := true) (p_mv rfl) rfl rfl ?_
    refine TL.nil ?_
    refine hK15 _ _ ?_
    refine TK.cond (b := (((((decide (data2 < (1 : Int))) || (decide (data2 > (have1.length : Int)))) || (decide ((have1.length : Int) > (255 : Int)))) || ((l13.length : Int) == (0 : Int))) || (!r16))) rfl (fun hc => ?_) (fun hc => ?_)
    · have hX := ite_t hc hX
      refine TK.seq_k fun K17 hK17 => ?_
      refine TK.reg ?_
      refine TL.p (C := cx) (gc := true) (p_mv rfl) rfl rfl ?_
      refine TL.p (C := cx) (gc := true) (p_mv rfl) rfl rfl ?_
      refine TL.nil ?_
      refine hK17 _ _ ?_
      refine TK.wk 4 (L ([] : (List (List UInt8)))) rfl Wk_nil ?_
      refine TK.ret ?_
      try dsimp only [thenQ]
      exact retN (vs := [Enc.v (([] : (List (List UInt8))) : (List (List UInt8))), Enc.v ((1 : Int) : Int)]) ⟨rfl, rfl, trivial⟩ (by obtain rfl := some_in hX; rfl) (allVal.mem ⟨v_val _, v_val _, trivial⟩)
    · have hX := ite_f hc hX
      refine TK.seq_k fun K18 hK18 => ?_
      refine TK.reg ?_
      refine TL.p (C := cx) (gc := true) (p_mv rfl) rfl rfl ?_
      refine TL.p (C := cx) (gc := true) (p_lenR kd22 rfl (fun _ => refOK_of nd (j := 0) rfl rfl)) rfl rfl ?_
      refine TL.p (C := cx) (gc := true) (p_mv rfl) rfl rfl ?_
      refine TL.p (C := cx) (gc := true) (p_lss rfl rfl) rfl rfl ?_
      refine TL.p (C := cx) (gc := true) (p_mv rfl) rfl rfl ?_
      refine TL.nil ?_
      refine hK18 _ _ ?_
      refine TK.cond (b := (decide ((l13.length : Int) < data2))) rfl (fun hc => ?_) (fun hc => ?_)
      · have hX := ite_t hc hX
        refine TK.seq_k fun K19 hK19 => ?_
        refine TK.reg ?_
        refine TL.p (C := cx) (gc := true) (p_mv rfl) rfl rfl ?_
        refine TL.p (C := cx) (gc := true) (p_mv rfl) rfl rfl ?_
        refine TL.nil ?_
        refine hK19 _ _ ?_
        refine TK.wk 4 (L ([] : (List (List UInt8)))) rfl Wk_nil ?_
        refine TK.ret ?_
        try dsimp only [thenQ]
        exact retN (vs := [Enc.v (([] : (List (List UInt8))) : (List (List UInt8))), Enc.v ((10 : Int) : Int)]) ⟨rfl, rfl, trivial⟩ (by obtain rfl := some_in hX; rfl) (allVal.mem ⟨v_val _, v_val _, trivial⟩)
      · have hX := ite_f hc hX
        refine TK.skip ?_
        refine hK14 _ _ ?_
        refine TK.seq_k fun K20 hK20 => ?_
        refine TK.reg ?_
        refine TL.p (C := cx) (gc := true) (p_mv rfl) rfl rfl ?_
        refine TL.nil ?_
        refine hK20 _ _ ?_
        refine TK.ownL (α := (List UInt8)) 9 25 nd rfl (.inl rfl) fun b21 nd => ?_
        refine TK.seq_k fun K22 hK22 => ?_
        refine TK.seq_k fun K23 hK23 => ?_
        refine TK.reg ?_
        refine TL.p (C := cx) (gc := true) (p_mv rfl) rfl rfl ?_
        refine TL.p (C := cx) (gc := true) (p_mv rfl) rfl rfl ?_
        refine TL.p (C := cx) (gc := true) (p_lenL (xs := have1) kd22 rfl) rfl rfl ?_
        obtain ⟨r24, hr24, hX⟩ := bind_some hX
        refine TL.cvX rfl rfl rfl (fun _ => ⟨rfl, ⟨rfl, ⟨rfl, trivial⟩⟩⟩) (fun e => ok_erasure_rows data2 (have1.length : Int) _ hr24) ?_
        refine TL.p (C := cx) (gc := true) (p_lenL (xs := r24) kd22 rfl) rfl rfl ?_
        refine TL.p (C := cx) (gc := true) (p_mv rfl) rfl rfl ?_
        refine TL.nil ?_
        refine hK23 _ _ ?_
        refine TK.block ?_
        obtain ⟨o25, hO25, hA25⟩ := bind_some hX
        have E25 : ∀ (l32 : List (List UInt8)) (env : Env) (h : Hp), (∃ b30 b31, keepE [1, 6, 9] env = [(1, true, Enc.v (data2 : Int)), (6, true, OL (α := (List UInt8)) b30 l13), (9, true, OL (α := (List UInt8)) b31 l32)] ∧ Nd [(b30, RL (α := (List UInt8)) 25 l13), (b31, RL (α := (List UInt8)) 25 l32)] ∧ HSub [(b30, RL (α := (List UInt8)) 25 l13), (b31, RL (α := (List UInt8)) 25 l32)] h) → X.erasure_Decode_e25 data2 l13 l32 = some r → K22 env h := by
          intro l32 env h hE hX
          obtain ⟨b30, b31, henv, nd, hs⟩ := hE
          unfold X.erasure_Decode_e25 at hX
          refine hK22 _ _ (TK.keep [1, 6, 9] ?_)
          rw [henv]
          refine TK.subH hs ?_
          refine TK.seq_k fun K33 hK33 => ?_
          refine TK.reg ?_
          refine TL.p (C := cx) (gc := true) (p_mv rfl) rfl rfl ?_
          refine TL.lay [(85, L l32)] nd (j := 1) rfl ⟨⟨_, rfl, fix_OL nd (j := 1) rfl, rfl⟩, trivial⟩ fun nd => ?_
          obtain ⟨r34, hr34, hX⟩ := bind_some hX
          refine TL.cvX rfl rfl rfl (fun _ => ⟨rfl, ⟨rfl, trivial⟩⟩) (fun e => ok_matrix_Inverse l32 _ hr34) ?_
          refine TL.p (C := cx) (gc := true) (p_mv rfl) rfl rfl ?_
          refine TL.p (C := cx) (gc := true) (p_ex rfl rfl (by decide)) rfl rfl ?_
          refine TL.p (C := cx) (gc := true) (p_ex rfl rfl (by decide)) rfl rfl ?_
          refine TL.p (C := cx) (gc := true) (p_mv rfl) rfl rfl ?_
          refine TL.p (C := cx) (gc := true) (p_mv rfl) rfl rfl ?_
          refine TL.nil ?_
          refine hK33 _ _ ?_
          refine TK.seq_k fun K35 hK35 => ?_
          refine TK.seq_k fun K36 hK36 => ?_
          refine TK.reg ?_
          refine TL.p (C := cx) (gc := true) (p_mv rfl) rfl rfl ?_
          refine TL.p (C := cx) (gc := true) (p_neq rfl rfl) rfl rfl ?_
          refine TL.nil ?_
          refine hK36 _ _ ?_
          refine TK.cond (b := (r34.2 != (0 : Int))) rfl (fun hc => ?_) (fun hc => ?_)
          · have hX := ite_t hc hX
            refine TK.seq_k fun K37 hK37 => ?_
            refine TK.reg ?_
            refine TL.p (C := cx) (gc := true) (p_mv rfl) rfl rfl ?_
            refine TL.p (C := cx) (gc := true) (p_mv rfl) rfl rfl ?_
            refine TL.p (C := cx) (gc := true) (p_mv rfl) rfl rfl ?_
            refine TL.nil ?_
            refine hK37 _ _ ?_
            refine TK.wk 4 (L ([] : (List (List UInt8)))) rfl Wk_nil ?_
            refine TK.ret ?_
            try dsimp only [thenQ]
            exact retN (vs := [Enc.v (([] : (List (List UInt8))) : (List (List UInt8))), Enc.v (r34.2 : Int)]) ⟨rfl, rfl, trivial⟩ (by obtain rfl := some_in hX; rfl) (allVal.mem ⟨v_val _, v_val _, trivial⟩)
          · have hX := ite_f hc hX
            refine TK.skip ?_
            refine hK35 _ _ ?_
            refine TK.seq_k fun K38 hK38 => ?_
            refine TK.reg ?_
            refine TL.p (C := cx) (gc := true) (p_mv rfl) rfl rfl ?_
            refine TL.p (C := cx) (gc := true) (p_mv rfl) rfl rfl ?_
            refine TL.p (C := cx) (gc := true) (p_mv rfl) rfl rfl ?_
            obtain ⟨u39, hu39, hX⟩ := bind_some hX
            refine TL.p (C := cx) (gc := true) (p_sliO (xs := l13) (l := (0 : Int)) (k := data2) kd22 ty25 rfl rfl nd (j := 0) rfl rfl rfl (fun e => need_t hu39)) rfl rfl ?_
            refine TL.lay [(95, L (slc l13 (0 : Int) data2))] nd (j := 0) rfl ⟨⟨_, rfl, fix_OS nd (j := 0) rfl (need_t hu39).1, rfl⟩, trivial⟩ fun nd => ?_
            obtain ⟨r40, hr40, hX⟩ := bind_some hX
            refine TL.cvX rfl rfl rfl (fun _ => ⟨rfl, ⟨rfl, ⟨rfl, trivial⟩⟩⟩) (fun e => ok_erasure_reckon r34.1 (slc l13 (0 : Int) data2) _ hr40) ?_
            refine TL.p (C := cx) (gc := true) (p_mv rfl) rfl rfl ?_
            refine TL.p (C := cx) (gc := true) (p_mv rfl) rfl rfl ?_
            refine TL.nil ?_
            refine hK38 _ _ ?_
            refine TK.ret ?_
            try dsimp only [thenQ]
            exact retN (vs := [Enc.v (r40 : (List (List UInt8))), Enc.v ((0 : Int) : Int)]) ⟨rfl, rfl, trivial⟩ (by obtain rfl := some_in hX; rfl) (allVal.mem ⟨v_val _, v_val _, trivial⟩)
        refine TK.iter [0, 1, 6, 9, 60, 61, 62] (fun s env h => match s with | (m28, x29) => ∃ b26 b27, env = [(0, true, Enc.v (have1 : (List (List UInt8)))), (1, true, Enc.v (data2 : Int)), (6, true, OL (α := (List UInt8)) b26 l13), (9, true, OL (α := (List UInt8)) b27 m28), (60, true, Enc.v (r24 : (List (List UInt8)))), (61, true, Enc.v ((r24.length : Int) : Int)), (62, true, Enc.v (x29 : Int))] ∧ Nd [(b26, RL (α := (List UInt8)) 25 l13), (b27, RL (α := (List UInt8)) 25 m28)] ∧ HSub [(b26, RL (α := (List UInt8)) 25 l13), (b27, RL (α := (List UInt8)) 25 m28)] h) hO25 ⟨b12, b21, rfl, (Nd.pick nd (is := [1, 0]) (by decide)), (HSub.pick nd (is := [1, 0]) (by decide))⟩ ?_
        rintro ⟨m28, x29⟩ env h x25x ⟨b26, b27, rfl, nd, hs⟩ hX hR25
        refine TK.subH hs ?_
        unfold X.erasure_Decode_s25 at hX
        try dsimp only at hX
        refine TK.seq_k fun K41 hK41 => ?_
        refine TK.reg ?_
        refine TL.p (C := cx) (gc := true) (p_lss rfl rfl) rfl rfl ?_
        refine TL.nil ?_
        refine hK41 _ _ ?_
        refine TK.seq_k fun K42 hK42 => ?_
        refine TK.cond (b := (decide (x29 < (r24.length : Int)))) rfl (fun hc => ?_) (fun hc => ?_)
        · have hX := ite_t hc hX
          refine TK.skip ?_
          refine hK42 _ _ ?_
          refine TK.seq_k fun K43 hK43 => ?_
          refine TK.block ?_
          refine TK.seq_k fun K44 hK44 => ?_
          refine TK.reg ?_
          refine TL.p (C := cx) (gc := true) (p_mv rfl) rfl rfl ?_
          obtain ⟨e45, he45, hX⟩ := bind_some hX
          refine TL.p (C := cx) (gc := true) (p_iaL (xs := r24) kd22 ty25 rfl rfl rfl (fun _ => he45)) rfl rfl ?_
          refine TL.p (C := cx) (gc := true) (p_ldE (xs := r24) (a := e45) (e45 : (List UInt8)) ty25 rfl rfl (fun _ => he45) rfl rfl rfl) rfl rfl ?_
          refine TL.p (C := cx) (gc := true) (p_mv rfl) rfl rfl ?_
          refine TL.p (C := cx) (gc := true) (p_mv rfl) rfl rfl ?_
          refine TL.nil ?_
          refine hK44 _ _ ?_
          refine TK.seq_k fun K46 hK46 => ?_
          refine TK.reg ?_
          refine TL.p (C := cx) (gc := true) (p_mv rfl) rfl rfl ?_
          refine TL.p (C := cx) (gc := true) (p_mv rfl) rfl rfl ?_
          obtain ⟨e47, he47, hX⟩ := bind_some hX
          refine TL.p (C := cx) (gc := true) (p_iaL (xs := have1) kd22 ty25 rfl rfl rfl (fun _ => he47)) rfl rfl ?_
          refine TL.p (C := cx) (gc := true) (p_ldE (xs := have1) (a := e47) (e47 : (List UInt8)) ty25 rfl rfl (fun _ => he47) rfl rfl rfl) rfl rfl ?_
          refine TL.p (C := cx) (gc := true) (p_lenL (xs := e47) kd25 rfl) rfl rfl ?_
          refine TL.p (C := cx) (gc := true) (p_gtr rfl rfl) rfl rfl ?_
          refine TL.p (C := cx) (gc := true) (p_mv rfl) rfl rfl ?_
          refine TL.p (C := cx) (gc := ((decide ((e47.length : Int) > (0 : Int))))) (p_mv rfl (hg := fun e => rfl)) (gcT1 rfl) rfl ?_
          refine TL.p (C := cx) (gc := ((decide ((e47.length : Int) > (0 : Int))))) (p_lenR kd22 rfl (fun _ => refOK_of nd (j := 1) rfl rfl) (hg := fun e => e)) (gcT1 rfl) rfl ?_
          refine TL.p (C := cx) (gc := ((decide ((e47.length : Int) > (0 : Int))))) (p_mv rfl (hg := fun e => rfl)) (gcT1 rfl) rfl ?_
          refine TL.p (C := cx) (gc := ((decide ((e47.length : Int) > (0 : Int))))) (p_lss rfl rfl (hg := fun e => ⟨e, e⟩)) (gcT1 rfl) rfl ?_
          refine TL.p (C := cx) (gc := true) (p_and rfl rfl (fun e => ⟨rfl, fun h => h⟩)) rfl rfl ?_
          refine TL.nil ?_
          refine hK46 _ _ ?_
          refine TK.cond (b := ((decide ((e47.length : Int) > (0 : Int))) && (decide ((m28.length : Int) < data2)))) rfl (fun hc => ?_) (fun hc => ?_)
          · have hX := ite_t hc hX
            refine TK.reg ?_
            refine TL.p (C := cx) (gc := true) (p_mv rfl) rfl rfl ?_
            refine TL.p (C := cx) (gc := true) (p_mv rfl) rfl rfl ?_
            refine TL.lit (C := cx) ([e45] : List (List UInt8)) kd22 ty25 rfl ⟨⟨rfl, rfl⟩, trivial⟩ rfl rfl rfl ?_
            obtain ⟨u48, hu48, hX⟩ := bind_some hX
            refine TL.appO (C := cx) nd kd22 bo22 ty25 rfl rfl (j := 1) rfl rfl (Src_L _) (by decide) (need_t hu48) rfl fun nd => ?_
            refine TL.p (C := cx) (gc := true) (p_mv rfl) rfl rfl ?_
            refine TL.nil ?_
            refine hK43 _ _ ?_
            refine TK.reg ?_
            refine TL.p (C := cx) (gc := true) (p_add rfl rfl) rfl rfl ?_
            refine TL.p (C := cx) (gc := true) (p_mv rfl) rfl rfl ?_
            refine TL.nil ?_
            exact ⟨_, (some_in hX).symm, b26, b27, rfl, (Nd.pick nd (is := [0, 1]) (by decide)), (HSub.pick nd (is := [0, 1]) (by decide))⟩
          · have hX := ite_f hc hX
            refine TK.skip ?_
            refine hK43 _ _ ?_
            refine TK.reg ?_
            refine TL.p (C := cx) (gc := true) (p_add rfl rfl) rfl rfl ?_
            refine TL.p (C := cx) (gc := true) (p_mv rfl) rfl rfl ?_
            refine TL.nil ?_
            exact ⟨_, (some_in hX).symm, b26, b27, rfl, (Nd.pick nd (is := [0, 1]) (by decide)), (HSub.pick nd (is := [0, 1]) (by decide))⟩
        · have hX := ite_f hc hX
          refine TK.exit ?_
          obtain rfl := hR25 _ (some_in hX).symm
          exact E25 m28 _ _ ⟨b26, b27, rfl, (Nd.pick nd (is := [0, 1]) (by decide)), (HSub.pick nd (is := [0, 1]) (by decide))⟩ hA25
  refine TK.iter [0, 1, 6, 14, 15, 16] (fun s env h => match s with | (there10, x11) => ∃ b9, env = [(0, true, Enc.v (have1 : (List (List UInt8)))), (1, true, Enc.v (data2 : Int)), (6, true, OL (α := (List UInt8)) b9 there10), (14, true, Enc.v (have1 : (List (List UInt8)))), (15, true, Enc.v ((have1.length : Int) : Int)), (16, true, Enc.v (x11 : Int))] ∧ Nd [(b9, RL (α := (List UInt8)) 25 there10)] ∧ HSub [(b9, RL (α := (List UInt8)) 25 there10)] h) hO8 ⟨b5, rfl, (Nd.pick nd (is := [0]) (by decide)), (HSub.pick nd (is := [0]) (by decide))⟩ ?_
  rintro ⟨there10, x11⟩ env h x8x ⟨b9, rfl, nd, hs⟩ hX hR8
  refine TK.subH hs ?_
  unfold X.erasure_Decode_s8 at hX
  try dsimp only at hX
  refine TK.seq_k fun K49 hK49 => ?_
  refine TK.reg ?_
  refine TL.p (C := cx) (gc := true) (p_lss rfl rfl) rfl rfl ?_
  refine TL.nil ?_
  refine hK49 _ _ ?_
  refine TK.seq_k fun K50 hK50 => ?_
  refine TK.cond (b := (decide (x11 < (have1.length : Int)))) rfl (fun hc => ?_) (fun hc => ?_)
  · have hX := ite_t hc hX
    refine TK.skip ?_
    refine hK50 _ _ ?_
    refine TK.seq_k fun K51 hK51 => ?_
    refine TK.block ?_
    refine TK.seq_k fun K52 hK52 => ?_
    refine TK.reg ?_
    obtain ⟨e53, he53, hX⟩ := bind_some hX
    refine TL.p (C := cx) (gc := true) (p_iaL (xs := have1) kd22 ty25 rfl rfl rfl (fun _ => he53)) rfl rfl ?_
    refine TL.p (C := cx) (gc := true) (p_ldE (xs := have1) (a := e53) (e53 : (List UInt8)) ty25 rfl rfl (fun _ => he53) rfl rfl rfl) rfl rfl ?_
    refine TL.p (C := cx) (gc := true) (p_mv rfl) rfl rfl ?_
    refine TL.nil ?_
    refine hK52 _ _ ?_
    refine TK.seq_k fun K54 hK54 => ?_
    refine TK.reg ?_
    refine TL.p (C := cx) (gc := true) (p_mv rfl) rfl rfl ?_
    refine TL.p (C := cx) (gc := true) (p_lenL (xs := e53) kd25 rfl) rfl rfl ?_
    refine TL.p (C := cx) (gc := true) (p_gtr rfl rfl) rfl rfl ?_
    refine TL.nil ?_
    refine hK54 _ _ ?_
    refine TK.cond (b := (decide ((e53.length : Int) > (0 : Int)))) rfl (fun hc => ?_) (fun hc => ?_)
    · have hX := ite_t hc hX
      refine TK.reg ?_
      refine TL.p (C := cx) (gc := true) (p_mv rfl) rfl rfl ?_
      refine TL.p (C := cx) (gc := true) (p_mv rfl) rfl rfl ?_
      refine TL.lit (C := cx) ([e53] : List (List UInt8)) kd22 ty25 rfl ⟨⟨rfl, rfl⟩, trivial⟩ rfl rfl rfl ?_
      obtain ⟨u55, hu55, hX⟩ := bind_some hX
      refine TL.appO (C := cx) nd kd22 bo22 ty25 rfl rfl (j := 0) rfl rfl (Src_L _) (by decide) (need_t hu55) rfl fun nd => ?_
      refine TL.p (C := cx) (gc := true) (p_mv rfl) rfl rfl ?_
      refine TL.nil ?_
      refine hK51 _ _ ?_
      refine TK.reg ?_
      refine TL.p (C := cx) (gc := true) (p_add rfl rfl) rfl rfl ?_
      refine TL.p (C := cx) (gc := true) (p_mv rfl) rfl rfl ?_
      refine TL.nil ?_
      exact ⟨_, (some_in hX).symm, b9, rfl, (Nd.pick nd (is := [0]) (by decide)), (HSub.pick nd (is := [0]) (by decide))⟩
    · have hX := ite_f hc hX
      refine TK.skip ?_
      refine hK51 _ _ ?_
      refine TK.reg ?_
      refine TL.p (C := cx) (gc := true) (p_add rfl rfl) rfl rfl ?_
      refine TL.p (C := cx) (gc := true) (p_mv rfl) rfl rfl ?_
      refine TL.nil ?_
      exact ⟨_, (some_in hX).symm, b9, rfl, (Nd.pick nd (is := [0]) (by decide)), (HSub.pick nd (is := [0]) (by decide))⟩
  · have hX := ite_f hc hX
    refine TK.exit ?_
    obtain rfl := hR8 _ (some_in hX).symm
    exact E8 there10 _ _ ⟨b9, rfl, (Nd.pick nd (is := [0]) (by decide)), (HSub.pick nd (is := [0]) (by decide))⟩ hA8

/-- cartridge/cartridgelaw3.alive -/
theorem ok_cartridgelaw3_alive  (r : Bool) (hX : X.cartridgelaw3_alive = some r) : Fun Try.prog 12 [] (· = Enc.v (r : Bool)) := by
  refine Fun.of b12 (Nat.le_of_ble_eq_true rfl) (fun x hx => by cases hx) ?_
  unfold k12
  have nd : Nd [] := Nd_nil
  unfold X.cartridgelaw3_alive at hX
  refine TK.seq_k fun K1 hK1 => ?_
  refine TK.reg ?_
  refine TL.p (C := cx) (gc := true) (p_mv rfl) rfl rfl ?_
  refine TL.nil ?_
  refine hK1 _ _ ?_
  refine TK.seq_k fun K2 hK2 => ?_
  refine TK.reg ?_
  refine TL.litO (C := cx) nd ([(97 : UInt8), (98 : UInt8)] : List UInt8) kd25 ty5 rfl ⟨⟨rfl, rfl⟩, ⟨rfl, rfl⟩, trivial⟩ rfl rfl rfl fun b3 nd => ?_
  refine TL.cvtF (C := cx) (xs := ([(97 : UInt8), (98 : UInt8)] : List UInt8)) nd kd25 kd5 rfl (j := 0) rfl (by simp) rfl fun nd => ?_
  refine TL.lit (C := cx) ([([(97 : UInt8), (98 : UInt8)] : List UInt8)] : List (List UInt8)) kd22 ty25 rfl ⟨⟨rfl, rfl⟩, trivial⟩ rfl rfl rfl ?_
  obtain ⟨r4, hr4, hX⟩ := bind_some hX
  refine TL.cvX rfl rfl rfl (fun _ => ⟨rfl, ⟨rfl, ⟨rfl, trivial⟩⟩⟩) (fun e => ok_erasure_Encode ([([(97 : UInt8), (98 : UInt8)] : List UInt8)] : List (List UInt8)) (1 : Int) _ hr4) ?_
  refine TL.p (C := cx) (gc := true) (p_mv rfl) rfl rfl ?_
  refine TL.p (C := cx) (gc := true) (p_ex rfl rfl (by decide)) rfl rfl ?_
  refine TL.p (C := cx) (gc := true) (p_ex rfl rfl (by decide)) rfl rfl ?_
  refine TL.p (C := cx) (gc := true) (p_mv rfl) rfl rfl ?_
  refine TL.p (C := cx) (gc := true) (p_mv rfl) rfl rfl ?_
  refine TL.nil ?_
  refine hK2 _ _ ?_
  refine TK.seq_k fun K5 hK5 => ?_
  refine TK.seq_k fun K6 hK6 => ?_
  refine TK.reg ?_
  refine TL.p (C := cx) (gc := true) (p_mv rfl) rfl rfl ?_
  obtain ⟨r7, hr7, hX⟩ := bind_some hX
  refine TL.cvX rfl rfl rfl (fun _ => ⟨rfl, ⟨rfl, trivial⟩⟩) (fun e => ok_cartridgelaw3_num r4.2 _ hr7) ?_
  refine TL.p (C := cx) (gc := true) (p_neq rfl rfl) rfl rfl ?_
  refine TL.p (C := cx) (gc := true) (p_mv rfl) rfl rfl ?_
  refine TL.p (C := cx) (gc := (!((r7 != (0 : Int))))) (p_mv rfl (hg := fun e => rfl)) (gcF1 rfl) rfl ?_
  refine TL.p (C := cx) (gc := (!((r7 != (0 : Int))))) (p_lenL (xs := r4.1) kd22 rfl (hg := fun e => e)) (gcF1 rfl) rfl ?_
  refine TL.p (C := cx) (gc := (!((r7 != (0 : Int))))) (p_neq rfl rfl (hg := fun e => ⟨e, rfl⟩)) (gcF1 rfl) rfl ?_
  refine TL.p (C := cx) (gc := true) (p_or rfl rfl (fun e => ⟨rfl, fun h => (not_t h)⟩)) rfl rfl ?_
  refine TL.nil ?_
  refine hK6 _ _ ?_
  refine TK.cond (b := ((r7 != (0 : Int)) || ((r4.1.length : Int) != (1 : Int)))) rfl (fun hc => ?_) (fun hc => ?_)
  · have hX := ite_t hc hX
    refine TK.seq_k fun K8 hK8 => ?_
    refine TK.reg ?_
    refine TL.p (C := cx) (gc := true) (p_mv rfl) rfl rfl ?_
    refine TL.nil ?_
    refine hK8 _ _ ?_
    refine TK.ret ?_
    try dsimp only [thenQ]
    exact ret1 (v := Enc.v (false : Bool)) rfl (by obtain rfl := some_in hX; rfl) (v_val _)
  · have hX := ite_f hc hX
    refine TK.skip ?_
    refine hK5 _ _ ?_
    refine TK.seq_k fun K9 hK9 => ?_
    refine TK.reg ?_
    refine TL.p (C := cx) (gc := true) (p_mv rfl) rfl rfl ?_
    obtain ⟨e10, he10, hX⟩ := bind_some hX
    refine TL.p (C := cx) (gc := true) (p_iaL (xs := r4.1) kd22 ty25 rfl rfl rfl (fun _ => he10)) rfl rfl ?_
    refine TL.p (C := cx) (gc := true) (p_ldE (xs := r4.1) (a := e10) (e10 : (List UInt8)) ty25 rfl rfl (fun _ => he10) rfl rfl rfl) rfl rfl ?_
    refine TL.litN (C := cx) ([([] : (List UInt8)), e10] : List (List UInt8)) kd22 ty25 rfl ⟨⟨rfl, _, rfl, .inr ⟨rfl, rfl⟩⟩, ⟨rfl, _, rfl, .inl rfl⟩, trivial⟩ rfl rfl rfl ?_
    obtain ⟨r11, hr11, hX⟩ := bind_some hX
    refine TL.cvX rfl rfl rfl (fun _ => ⟨rfl, ⟨rfl, ⟨rfl, trivial⟩⟩⟩) (fun e => ok_erasure_Decode ([([] : (List UInt8)), e10] : List (List UInt8)) (1 : Int) _ hr11) ?_
    refine TL.p (C := cx) (gc := true) (p_mv rfl) rfl rfl ?_
    refine TL.p (C := cx) (gc := true) (p_ex rfl rfl (by decide)) rfl rfl ?_
    refine TL.p (C := cx) (gc := true) (p_ex rfl rfl (by decide)) rfl rfl ?_
    refine TL.p (C := cx) (gc := true) (p_mv rfl) rfl rfl ?_
    refine TL.p (C := cx) (gc := true) (p_mv rfl) rfl rfl ?_
    refine TL.nil ?_
    refine hK9 _ _ ?_
    refine TK.seq_k fun K12 hK12 => ?_
    refine TK.reg ?_
    refine TL.p (C := cx) (gc := true) (p_mv rfl) rfl rfl ?_
    obtain ⟨r13, hr13, hX⟩ := bind_some hX
    refine TL.cvX rfl rfl rfl (fun _ => ⟨rfl, ⟨rfl, trivial⟩⟩) (fun e => ok_cartridgelaw3_num r11.2 _ hr13) ?_
    refine TL.p (C := cx) (gc := true) (p_eql rfl rfl) rfl rfl ?_
    refine TL.p (C := cx) (gc := true) (p_mv rfl) rfl rfl ?_
    refine TL.p (C := cx) (gc := ((r13 == (0 : Int)))) (p_mv rfl (hg := fun e => rfl)) (gcT1 rfl) rfl ?_
    refine TL.p (C := cx) (gc := ((r13 == (0 : Int)))) (p_lenL (xs := r11.1) kd22 rfl (hg := fun e => e)) (gcT1 rfl) rfl ?_
    refine TL.p (C := cx) (gc := ((r13 == (0 : Int)))) (p_eql rfl rfl (hg := fun e => ⟨e, rfl⟩)) (gcT1 rfl) rfl ?_
    refine TL.p (C := cx) (gc := true) (p_and rfl rfl (fun e => ⟨rfl, fun h => h⟩)) rfl rfl ?_
    refine TL.p (C := cx) (gc := true) (p_mv rfl) rfl rfl ?_
    refine TL.p (C := cx) (gc := (((r13 == (0 : Int)) && ((r11.1.length : Int) == (1 : Int))))) (p_mv rfl (hg := fun e => rfl)) (gcT1 rfl) rfl ?_
    obtain ⟨e14, he14, hX⟩ := bind_some hX
    refine TL.p (C := cx) (gc := (((r13 == (0 : Int)) && ((r11.1.length : Int) == (1 : Int))))) (p_iaL (xs := r11.1) kd22 ty25 rfl rfl rfl (fun e => optG_t he14 e) (hg := fun e => ⟨e, rfl⟩)) (gcT1 rfl) rfl ?_
    refine TL.p (C := cx) (gc := (((r13 == (0 : Int)) && ((r11.1.length : Int) == (1 : Int))))) (p_ldE (xs := r11.1) (a := e14) (e14 : (List UInt8)) ty25 rfl rfl (fun e => optG_t he14 e) rfl rfl rfl (hg := fun e => e)) (gcT1 rfl) rfl ?_
    refine TL.ofV (gc := (((r13 == (0 : Int)) && ((r11.1.length : Int) == (1 : Int))))) (vok_cvtBS (C := cx) (gc := (((r13 == (0 : Int)) && ((r11.1.length : Int) == (1 : Int))))) (xs := e14) kd25 kd5 kd9 rfl (look_v (v := Enc.v (e14 : (List UInt8))) (v_val _)) (hg := fun e => e)) (gcT1 rfl) rfl ?_
    refine TL.p (C := cx) (gc := (((r13 == (0 : Int)) && ((r11.1.length : Int) == (1 : Int))))) (ps_eql (s := (Str.mk e14)) (r := (Str.mk [97, 98])) rfl rfl (hg := fun e => ⟨e, rfl⟩)) (gcT1 rfl) rfl ?_
    refine TL.p (C := cx) (gc := true) (p_and rfl rfl (fun e => ⟨rfl, fun h => h⟩)) rfl rfl ?_
    refine TL.p (C := cx) (gc := true) (p_mv rfl) rfl rfl ?_
    refine TL.nil ?_
    refine hK12 _ _ ?_
    refine TK.ret ?_
    try dsimp only [thenQ]
    exact ret1 (v := Enc.v ((((r13 == (0 : Int)) && ((r11.1.length : Int) == (1 : Int))) && ((Str.mk e14).l == (Str.mk [97, 98]).l)) : Bool)) rfl (by obtain rfl := some_in hX; rfl) (v_val _)

/-- cartridge/cartridgelaw2.Few -/
theorem ok_cartridgelaw2_Few (m1 : (List (List UInt8))) (r : Bool) (hX : X.cartridgelaw2_Few m1 = some r) : Fun Try.prog 13 [Enc.v (m1 : (List (List UInt8)))] (· = Enc.v (r : Bool)) := by
  refine Fun.of b13 (Nat.le_of_ble_eq_true rfl) (allVal.mem ⟨(by exact (v_val _)), trivial⟩) ?_
  unfold k13
  have nd : Nd [] := Nd_nil
  unfold X.cartridgelaw2_Few at hX
  refine TK.seq_k fun K2 hK2 => ?_
  refine TK.reg ?_
  refine TL.p (C := cx) (gc := true) (p_mv rfl) rfl rfl ?_
  refine TL.nil ?_
  refine hK2 _ _ ?_
  refine TK.seq_k fun K3 hK3 => ?_
  refine TK.reg ?_
  refine TL.p (C := cx) (gc := true) (p_mv rfl) rfl rfl ?_
  refine TL.nil ?_
  refine hK3 _ _ ?_
  refine TK.seq_k fun K4 hK4 => ?_
  refine TK.seq_k fun K5 hK5 => ?_
  refine TK.reg ?_
  refine TL.p (C := cx) (gc := true) (p_mv rfl) rfl rfl ?_
  refine TL.nil ?_
  refine hK5 _ _ ?_
  refine TK.block ?_
  obtain ⟨o6, hO6, hA6⟩ := bind_some hX
  have E6 : ∀ (n9 : Int) (env : Env) (h : Hp), (∃ _u : Unit, keepE [3] env = [(3, true, Enc.v (n9 : Int))] ∧ Nd [] ∧ HSub [] h) → X.cartridgelaw2_Few_e6 n9 = some r → K4 env h := by
    intro n9 env h hE hX
    obtain ⟨_u, henv, nd, hs⟩ := hE
    unfold X.cartridgelaw2_Few_e6 at hX
    refine hK4 _ _ (TK.keep [3] ?_)
    rw [henv]
    refine TK.subH hs ?_
    refine TK.seq_k fun K10 hK10 => ?_
    refine TK.reg ?_
    refine TL.p (C := cx) (gc := true) (p_mv rfl) rfl rfl ?_
    refine TL.p (C := cx) (gc := true) (p_leq rfl rfl) rfl rfl ?_
    refine TL.p (C := cx) (gc := true) (p_mv rfl) rfl rfl ?_
    refine TL.nil ?_
    refine hK10 _ _ ?_
    refine TK.ret ?_
    try dsimp only [thenQ]
    exact ret1 (v := Enc.v ((decide (n9 ≤ (2000 : Int))) : Bool)) rfl (by obtain rfl := some_in hX; rfl) (v_val _)
  refine TK.iter [0, 3, 4] (fun s env h => match s with | (n7, i8) => ∃ _u : Unit, env = [(0, true, Enc.v (m1 : (List (List UInt8)))), (3, true, Enc.v (n7 : Int)), (4, true, Enc.v (i8 : Int))] ∧ Nd [] ∧ HSub [] h) hO6 ⟨(), rfl, Nd_nil, HSub.refl _⟩ ?_
  rintro ⟨n7, i8⟩ env h x6x ⟨_u, rfl, nd, hs⟩ hX hR6
  refine TK.subH hs ?_
  unfold X.cartridgelaw2_Few_s6 at hX
  try dsimp only at hX
  refine TK.seq_k fun K11 hK11 => ?_
  refine TK.seq_k fun K12 hK12 => ?_
  refine TK.reg ?_
  refine TL.p (C := cx) (gc := true) (p_mv rfl) rfl rfl ?_
  refine TL.p (C := cx) (gc := true) (p_mv rfl) rfl rfl ?_
  refine TL.p (C := cx) (gc := true) (p_lenL (xs := m1) kd22 rfl) rfl rfl ?_
  refine TL.p (C := cx) (gc := true) (p_lss rfl rfl) rfl rfl ?_
  refine TL.p (C := cx) (gc := true) (p_mv rfl) rfl rfl ?_
  refine TL.p (C := cx) (gc := ((decide (i8 < (m1.length : Int))))) (p_mv rfl (hg := fun e => rfl)) (gcT1 rfl) rfl ?_
  refine TL.p (C := cx) (gc := ((decide (i8 < (m1.length : Int))))) (p_leq rfl rfl (hg := fun e => ⟨e, rfl⟩)) (gcT1 rfl) rfl ?_
  refine TL.p (C := cx) (gc := true) (p_and rfl rfl (fun e => ⟨rfl, fun h => h⟩)) rfl rfl ?_
  refine TL.nil ?_
  refine hK12 _ _ ?_
  refine TK.cond (b := ((decide (i8 < (m1.length : Int))) && (decide (n7 ≤ (2000 : Int))))) rfl (fun hc => ?_) (fun hc => ?_)
  · have hX := ite_t hc hX
    refine TK.skip ?_
    refine hK11 _ _ ?_
    refine TK.seq_k fun K13 hK13 => ?_
    refine TK.block ?_
    refine TK.reg ?_
    refine TL.p (C := cx) (gc := true) (p_mv rfl) rfl rfl ?_
    refine TL.p (C := cx) (gc := true) (p_add rfl rfl) rfl rfl ?_
    refine TL.p (C := cx) (gc := true) (p_mv rfl) rfl rfl ?_
    refine TL.p (C := cx) (gc := true) (p_mv rfl) rfl rfl ?_
    obtain ⟨e14, he14, hX⟩ := bind_some hX
    refine TL.p (C := cx) (gc := true) (p_iaL (xs := m1) kd22 ty25 rfl rfl rfl (fun _ => he14)) rfl rfl ?_
    refine TL.p (C := cx) (gc := true) (p_ldE (xs := m1) (a := e14) (e14 : (List UInt8)) ty25 rfl rfl (fun _ => he14) rfl rfl rfl) rfl rfl ?_
    refine TL.p (C := cx) (gc := true) (p_lenL (xs := e14) kd25 rfl) rfl rfl ?_
    refine TL.p (C := cx) (gc := true) (p_add rfl rfl) rfl rfl ?_
    refine TL.p (C := cx) (gc := true) (p_mv rfl) rfl rfl ?_
    refine TL.nil ?_
    refine hK13 _ _ ?_
    refine TK.reg ?_
    refine TL.p (C := cx) (gc := true) (p_mv rfl) rfl rfl ?_
    refine TL.p (C := cx) (gc := true) (p_add rfl rfl) rfl rfl ?_
    refine TL.p (C := cx) (gc := true) (p_mv rfl) rfl rfl ?_
    refine TL.nil ?_
    exact ⟨_, (some_in hX).symm, (), rfl, Nd_nil, HSub.refl _⟩
  · have hX := ite_f hc hX
    refine TK.exit ?_
    obtain rfl := hR6 _ (some_in hX).symm
    exact E6 n7 _ _ ⟨(), rfl, Nd_nil, HSub.refl _⟩ hA6

/-- cartridge/cartridgelaw3.ErasureLine -/
theorem ok_cartridgelaw3_ErasureLine (a1 : (List (List UInt8))) (b2 : (List (List UInt8))) (parity3 : Int) (r : Bool) (hX : X.cartridgelaw3_ErasureLine a1 b2 parity3 = some r) : Fun Try.prog 3 [Enc.v (a1 : (List (List UInt8))), Enc.v (b2 : (List (List UInt8))), Enc.v (parity3 : Int)] (· = Enc.v (r : Bool)) := by
  refine Fun.of b3 (Nat.le_of_ble_eq_true rfl) (allVal.mem ⟨(by exact (v_val _)), (by exact (v_val _)), (by exact (v_val _)), trivial⟩) ?_
  unfold k3
  have nd : Nd [] := Nd_nil
  unfold X.cartridgelaw3_ErasureLine at hX
  refine TK.seq_k fun K4 hK4 => ?_
  refine TK.reg ?_
  refine TL.p (C := cx) (gc := true) (p_mv rfl) rfl rfl ?_
  refine TL.nil ?_
  refine hK4 _ _ ?_
  refine TK.seq_k fun K5 hK5 => ?_
  refine TK.reg ?_
  obtain ⟨r6, hr6, hX⟩ := bind_some hX
  refine TL.cvX rfl rfl rfl (fun _ => ⟨rfl, trivial⟩) (fun e => ok_cartridgelaw3_alive  _ hr6) ?_
  refine TL.p (C := cx) (gc := true) (p_mv rfl) rfl rfl ?_
  refine TL.nil ?_
  refine hK5 _ _ ?_
  refine TK.seq_k fun K7 hK7 => ?_
  refine TK.seq_k fun K8 hK8 => ?_
  refine TK.reg ?_
  refine TL.p (C := cx) (gc := true) (p_mv rfl) rfl rfl ?_
  refine TL.p (C := cx) (gc := true) (p_not rfl) rfl rfl ?_
  refine TL.p (C := cx) (gc := true) (p_mv rfl) rfl rfl ?_
  refine TL.p (C := cx) (gc := (!((!r6)))) (p_mv rfl (hg := fun e => rfl)) (gcF1 rfl) rfl ?_
  obtain ⟨r9, hr9, hX⟩ := bind_some hX
  refine TL.cvX (gcF1 rfl) rfl rfl (fun e => ⟨rfl, ⟨e, trivial⟩⟩) (fun e => ok_cartridgelaw2_Few a1 _ (optG_t hr9 e)) ?_
  refine TL.p (C := cx) (gc := (!((!r6)))) (p_not rfl (hg := fun e => e)) (gcF1 rfl) rfl ?_
  refine TL.p (C := cx) (gc := true) (p_or rfl rfl (fun e => ⟨rfl, fun h => (not_t h)⟩)) rfl rfl ?_
  refine TL.p (C := cx) (gc := true) (p_mv rfl) rfl rfl ?_
  refine TL.p (C := cx) (gc := (!(((!r6) || (!r9))))) (p_mv rfl (hg := fun e => rfl)) (gcF1 rfl) rfl ?_
  refine TL.p (C := cx) (gc := (!(((!r6) || (!r9))))) (p_lenL (xs := a1) kd22 rfl (hg := fun e => e)) (gcF1 rfl) rfl ?_
  refine TL.p (C := cx) (gc := (!(((!r6) || (!r9))))) (p_lss rfl rfl (hg := fun e => ⟨e, rfl⟩)) (gcF1 rfl) rfl ?_
  refine TL.p (C := cx) (gc := true) (p_or rfl rfl (fun e => ⟨rfl, fun h => (not_t h)⟩)) rfl rfl ?_
  refine TL.p (C := cx) (gc := true) (p_mv rfl) rfl rfl ?_
  refine TL.p (C := cx) (gc := (!((((!r6) || (!r9)) || (decide ((a1.length : Int) < (1 : Int))))))) (p_mv rfl (hg := fun e => rfl)) (gcF1 rfl) rfl ?_
  refine TL.p (C := cx) (gc := (!((((!r6) || (!r9)) || (decide ((a1.length : Int) < (1 : Int))))))) (p_lenL (xs := a1) kd22 rfl (hg := fun e => e)) (gcF1 rfl) rfl ?_
  refine TL.p (C := cx) (gc := (!((((!r6) || (!r9)) || (decide ((a1.length : Int) < (1 : Int))))))) (p_gtr rfl rfl (hg := fun e => ⟨e, rfl⟩)) (gcF1 rfl) rfl ?_
  refine TL.p (C := cx) (gc := true) (p_or rfl rfl (fun e => ⟨rfl, fun h => (not_t h)⟩)) rfl rfl ?_
  refine TL.p (C := cx) (gc := true) (p_mv rfl) rfl rfl ?_
  refine TL.p (C := cx) (gc := (!(((((!r6) || (!r9)) || (decide ((a1.length : Int) < (1 : Int)))) || (decide ((a1.length : Int) > (20 : Int))))))) (p_mv rfl (hg := fun e => rfl)) (gcF1 rfl) rfl ?_
  refine TL.p (C := cx) (gc := (!(((((!r6) || (!r9)) || (decide ((a1.length : Int) < (1 : Int)))) || (decide ((a1.length : Int) > (20 : Int))))))) (p_lenL (xs := b2) kd22 rfl (hg := fun e => e)) (gcF1 rfl) rfl ?_
  refine TL.p (C := cx) (gc := (!(((((!r6) || (!r9)) || (decide ((a1.length : Int) < (1 : Int)))) || (decide ((a1.length : Int) > (20 : Int))))))) (p_mv rfl (hg := fun e => rfl)) (gcF1 rfl) rfl ?_
  refine TL.p (C := cx) (gc := (!(((((!r6) || (!r9)) || (decide ((a1.length : Int) < (1 : Int)))) || (decide ((a1.length : Int) > (20 : Int))))))) (p_lenL (xs := a1) kd22 rfl (hg := fun e => e)) (gcF1 rfl) rfl ?_
  refine TL.p (C := cx) (gc := (!(((((!r6) || (!r9)) || (decide ((a1.length : Int) < (1 : Int)))) || (decide ((a1.length : Int) > (20 : Int))))))) (p_neq rfl rfl (hg := fun e => ⟨e, e⟩)) (gcF1 rfl) rfl ?_
  refine TL.p (C := cx) (gc := true) (p_or rfl rfl (fun e => ⟨rfl, fun h => (not_t h)⟩)) rfl rfl ?_
  refine TL.p (C := cx) (gc := true) (p_mv rfl) rfl rfl ?_
  refine TL.p (C := cx) (gc := (!((((((!r6) || (!r9)) || (decide ((a1.length : Int) < (1 : Int)))) || (decide ((a1.length : Int) > (20 : Int)))) || ((b2.length : Int) != (a1.length : Int)))))) (p_mv rfl (hg := fun e => rfl)) (gcF1 rfl) rfl ?_
  refine TL.p (C := cx) (gc := (!((((((!r6) || (!r9)) || (decide ((a1.length : Int) < (1 : Int)))) || (decide ((a1.length : Int) > (20 : Int)))) || ((b2.length : Int) != (a1.length : Int)))))) (p_lss rfl rfl (hg := fun e => ⟨e, rfl⟩)) (gcF1 rfl) rfl ?_
  refine TL.p (C := cx) (gc := true) (p_or rfl rfl (fun e => ⟨rfl, fun h => (not_t h)⟩)) rfl rfl ?_
  refine TL.p (C := cx) (gc := true) (p_mv rfl) rfl rfl ?_
  refine TL.p (C := cx) (gc := (!(((((((!r6) || (!r9)) || (decide ((a1.length : Int) < (1 : Int)))) || (decide ((a1.length : Int) > (20 : Int)))) || ((b2.length : Int) != (a1.length : Int))) || (decide (parity3 < (1 : Int))))))) (p_mv rfl (hg := fun e => rfl)) (gcF1 rfl) rfl ?_
  refine TL.p (C := cx) (gc := (!(((((((!r6) || (!r9)) || (decide ((a1.length : Int) < (1 : Int)))) || (decide ((a1.length : Int) > (20 : Int)))) || ((b2.length : Int) != (a1.length : Int))) || (decide (parity3 < (1 : Int))))))) (p_gtr rfl rfl (hg := fun e => ⟨e, rfl⟩)) (gcF1 rfl) rfl ?_
  refine TL.p (C := cx) (gc := true) (p_or rfl rfl (fun e => ⟨rfl, fun h => (not_t h)⟩)) rfl rfl ?_
  refine TL.nil ?_
  refine hK8 _ _ ?_
  refine TK.cond (b := (((((((!r6) || (!r9)) || (decide ((a1.length : Int) < (1 : Int)))) || (decide ((a1.length : Int) > (20 : Int)))) || ((b2.length : Int) != (a1.length : Int))) || (decide (parity3 < (1 : Int)))) || (decide (parity3 > (8 : Int))))) rfl (fun hc => ?_) (fun hc => ?_)
  · have hX := ite_t hc hX
    refine TK.seq_k fun K10 hK10 => ?_
    refine TK.reg ?_
    refine TL.p (C := cx) (gc := true) (p_mv rfl) rfl rfl ?_
    refine TL.p (C := cx) (gc := true) (p_mv rfl) rfl rfl ?_
    refine TL.nil ?_
    refine hK10 _ _ ?_
    refine TK.ret ?_
    try dsimp only [thenQ]
    exact ret1 (v := Enc.v (r6 : Bool)) rfl (by obtain rfl := some_in hX; rfl) (v_val _)
  · have hX := ite_f hc hX
    refine TK.skip ?_
    refine hK7 _ _ ?_
    refine TK.seq_k fun K11 hK11 => ?_
    refine TK.reg ?_
    refine TL.p (C := cx) (gc := true) (p_mv rfl) rfl rfl ?_
    refine TL.nil ?_
    refine hK11 _ _ ?_
    refine TK.ownL (α := (List UInt8)) 8 25 nd rfl (.inl rfl) fun b12 nd => ?_
    refine TK.seq_k fun K13 hK13 => ?_
    refine TK.seq_k fun K14 hK14 => ?_
    refine TK.reg ?_
    refine TL.p (C := cx) (gc := true) (p_mv rfl) rfl rfl ?_
    refine TL.nil ?_
    refine hK14 _ _ ?_
    refine TK.block ?_
    obtain ⟨o15, hO15, hA15⟩ := bind_some hX
    have E15 : ∀ (l20 : List (List UInt8)) (env : Env) (h : Hp), (∃ b19, keepE [0, 1, 2, 8] env = [(0, true, Enc.v (a1 : (List (List UInt8)))), (1, true, Enc.v (b2 : (List (List UInt8)))), (2, true, Enc.v (parity3 : Int)), (8, true, OL (α := (List UInt8)) b19 l20)] ∧ Nd [(b19, RL (α := (List UInt8)) 25 l20)] ∧ HSub [(b19, RL (α := (List UInt8)) 25 l20)] h) → X.cartridgelaw3_ErasureLine_e15 a1 parity3 b2 l20 = some r → K13 env h := by
      intro l20 env h hE hX
      obtain ⟨b19, henv, nd, hs⟩ := hE
      unfold X.cartridgelaw3_ErasureLine_e15 at hX
      refine hK13 _ _ (TK.keep [0, 1, 2, 8] ?_)
      rw [henv]
      refine TK.subH hs ?_
      refine TK.seq_k fun K21 hK21 => ?_
      refine TK.reg ?_
      refine TL.p (C := cx) (gc := true) (p_mv rfl) rfl rfl ?_
      refine TL.p (C := cx) (gc := true) (p_mv rfl) rfl rfl ?_
      obtain ⟨r22, hr22, hX⟩ := bind_some hX
      refine TL.cvX rfl rfl rfl (fun _ => ⟨rfl, ⟨rfl, ⟨rfl, trivial⟩⟩⟩) (fun e => ok_erasure_Encode a1 parity3 _ hr22) ?_
      refine TL.p (C := cx) (gc := true) (p_mv rfl) rfl rfl ?_
      refine TL.p (C := cx) (gc := true) (p_ex rfl rfl (by decide)) rfl rfl ?_
      refine TL.p (C := cx) (gc := true) (p_ex rfl rfl (by decide)) rfl rfl ?_
      refine TL.p (C := cx) (gc := true) (p_mv rfl) rfl rfl ?_
      refine TL.p (C := cx) (gc := true) (p_mv rfl) rfl rfl ?_
      refine TL.nil ?_
      refine hK21 _ _ ?_
      refine TK.seq_k fun K23 hK23 => ?_
      refine TK.reg ?_
      refine TL.p (C := cx) (gc := true) (p_mv rfl) rfl rfl ?_
      refine TL.p (C := cx) (gc := true) (p_mv rfl) rfl rfl ?_
      obtain ⟨r24, hr24, hX⟩ := bind_some hX
      refine TL.cvX rfl rfl rfl (fun _ => ⟨rfl, ⟨rfl, ⟨rfl, trivial⟩⟩⟩) (fun e => ok_erasure_Encode b2 parity3 _ hr24) ?_
      refine TL.p (C := cx) (gc := true) (p_mv rfl) rfl rfl ?_
      refine TL.p (C := cx) (gc := true) (p_ex rfl rfl (by decide)) rfl rfl ?_
      refine TL.p (C := cx) (gc := true) (p_ex rfl rfl (by decide)) rfl rfl ?_
      refine TL.p (C := cx) (gc := true) (p_mv rfl) rfl rfl ?_
      refine TL.p (C := cx) (gc := true) (p_mv rfl) rfl rfl ?_
      refine TL.nil ?_
      refine hK23 _ _ ?_
      refine TK.seq_k fun K25 hK25 => ?_
      refine TK.reg ?_
      refine TL.p (C := cx) (gc := true) (p_mv rfl) rfl rfl ?_
      refine TL.p (C := cx) (gc := true) (p_mv rfl) rfl rfl ?_
      refine TL.lay [(128, L l20)] nd (j := 0) rfl ⟨⟨_, rfl, fix_OL nd (j := 0) rfl, rfl⟩, trivial⟩ fun nd => ?_
      obtain ⟨r26, hr26, hX⟩ := bind_some hX
      refine TL.cvX rfl rfl rfl (fun _ => ⟨rfl, ⟨rfl, ⟨rfl, trivial⟩⟩⟩) (fun e => ok_erasure_Encode l20 parity3 _ hr26) ?_
      refine TL.p (C := cx) (gc := true) (p_mv rfl) rfl rfl ?_
      refine TL.p (C := cx) (gc := true) (p_ex rfl rfl (by decide)) rfl rfl ?_
      refine TL.p (C := cx) (gc := true) (p_ex rfl rfl (by decide)) rfl rfl ?_
      refine TL.p (C := cx) (gc := true) (p_mv rfl) rfl rfl ?_
      refine TL.p (C := cx) (gc := true) (p_mv rfl) rfl rfl ?_
      refine TL.nil ?_
      refine hK25 _ _ ?_
      refine TK.seq_k fun K27 hK27 => ?_
      refine TK.seq_k fun K28 hK28 => ?_
      refine TK.reg ?_
      refine TL.p (C := cx) (gc := true) (p_mv rfl) rfl rfl ?_
      obtain ⟨r29, hr29, hX⟩ := bind_some hX
      refine TL.cvX rfl rfl rfl (fun _ => ⟨rfl, ⟨rfl, trivial⟩⟩) (fun e => ok_cartridgelaw3_num r26.2 _ hr29) ?_
      refine TL.p (C := cx) (gc := true) (p_neq rfl rfl) rfl rfl ?_
      refine TL.p (C := cx) (gc := true) (p_mv rfl) rfl rfl ?_
      refine TL.p (C := cx) (gc := (!((r29 != (0 : Int))))) (p_mv rfl (hg := fun e => rfl)) (gcF1 rfl) rfl ?_
      refine TL.p (C := cx) (gc := (!((r29 != (0 : Int))))) (p_lenL (xs := r22.1) kd22 rfl (hg := fun e => e)) (gcF1 rfl) rfl ?_
      refine TL.p (C := cx) (gc := (!((r29 != (0 : Int))))) (p_mv rfl (hg := fun e => rfl)) (gcF1 rfl) rfl ?_
      refine TL.p (C := cx) (gc := (!((r29 != (0 : Int))))) (p_neq rfl rfl (hg := fun e => ⟨e, e⟩)) (gcF1 rfl) rfl ?_
      refine TL.p (C := cx) (gc := true) (p_or rfl rfl (fun e => ⟨rfl, fun h => (not_t h)⟩)) rfl rfl ?_
      refine TL.p (C := cx) (gc := true) (p_mv rfl) rfl rfl ?_
      refine TL.p (C := cx) (gc := (!(((r29 != (0 : Int)) || ((r22.1.length : Int) != parity3))))) (p_mv rfl (hg := fun e => rfl)) (gcF1 rfl) rfl ?_
      refine TL.p (C := cx) (gc := (!(((r29 != (0 : Int)) || ((r22.1.length : Int) != parity3))))) (p_lenL (xs := r24.1) kd22 rfl (hg := fun e => e)) (gcF1 rfl) rfl ?_
      refine TL.p (C := cx) (gc := (!(((r29 != (0 : Int)) || ((r22.1.length : Int) != parity3))))) (p_mv rfl (hg := fun e => rfl)) (gcF1 rfl) rfl ?_
      refine TL.p (C := cx) (gc := (!(((r29 != (0 : Int)) || ((r22.1.length : Int) != parity3))))) (p_neq rfl rfl (hg := fun e => ⟨e, e⟩)) (gcF1 rfl) rfl ?_
      refine TL.p (C := cx) (gc := true) (p_or rfl rfl (fun e => ⟨rfl, fun h => (not_t h)⟩)) rfl rfl ?_
      refine TL.p (C := cx) (gc := true) (p_mv rfl) rfl rfl ?_
      refine TL.p (C := cx) (gc := (!((((r29 != (0 : Int)) || ((r22.1.length : Int) != parity3)) || ((r24.1.length : Int) != parity3))))) (p_mv rfl (hg := fun e => rfl)) (gcF1 rfl) rfl ?_
      refine TL.p (C := cx) (gc := (!((((r29 != (0 : Int)) || ((r22.1.length : Int) != parity3)) || ((r24.1.length : Int) != parity3))))) (p_lenL (xs := r26.1) kd22 rfl (hg := fun e => e)) (gcF1 rfl) rfl ?_
      refine TL.p (C := cx) (gc := (!((((r29 != (0 : Int)) || ((r22.1.length : Int) != parity3)) || ((r24.1.length : Int) != parity3))))) (p_mv rfl (hg := fun e => rfl)) (gcF1 rfl) rfl ?_
      refine TL.p (C := cx) (gc := (!((((r29 != (0 : Int)) || ((r22.1.length : Int) != parity3)) || ((r24.1.length : Int) != parity3))))) (p_neq rfl rfl (hg := fun e => ⟨e, e⟩)) (gcF1 rfl) rfl ?_
      refine TL.p (C := cx) (gc := true) (p_or rfl rfl (fun e => ⟨rfl, fun h => (not_t h)⟩)) rfl rfl ?_
      refine TL.nil ?_
      refine hK28 _ _ ?_
      refine TK.cond (b := ((((r29 != (0 : Int)) || ((r22.1.length : Int) != parity3)) || ((r24.1.length : Int) != parity3)) || ((r26.1.length : Int) != parity3))) rfl (fun hc => ?_) (fun hc => ?_)
      · have hX := ite_t hc hX
        refine TK.seq_k fun K30 hK30 => ?_
        refine TK.reg ?_
        refine TL.p (C := cx) (gc := true) (p_mv rfl) rfl rfl ?_
        refine TL.nil ?_
        refine hK30 _ _ ?_
        refine TK.ret ?_
        try dsimp only [thenQ]
        exact ret1 (v := Enc.v (false : Bool)) rfl (by obtain rfl := some_in hX; rfl) (v_val _)
      · have hX := ite_f hc hX
        refine TK.skip ?_
        refine hK27 _ _ ?_
        refine TK.seq_k fun K31 hK31 => ?_
        refine TK.seq_k fun K32 hK32 => ?_
        refine TK.reg ?_
        refine TL.p (C := cx) (gc := true) (p_mv rfl) rfl rfl ?_
        refine TL.nil ?_
        refine hK32 _ _ ?_
        refine TK.block ?_
        obtain ⟨o33, hO33, hA33⟩ := bind_some hX
        have E33 : ∀ (env : Env) (h : Hp), (∃ _u : Unit, keepE [] env = [] ∧ Nd [] ∧ HSub [] h) → X.cartridgelaw3_ErasureLine_e33 = some r → K31 env h := by
          intro  env h hE hX
          obtain ⟨_u, henv, nd, hs⟩ := hE
          unfold X.cartridgelaw3_ErasureLine_e33 at hX
          refine hK31 _ _ (TK.keep [] ?_)
          rw [henv]
          refine TK.subH hs ?_
          refine TK.seq_k fun K35 hK35 => ?_
          refine TK.reg ?_
          refine TL.p (C := cx) (gc := true) (p_mv rfl) rfl rfl ?_
          refine TL.nil ?_
          refine hK35 _ _ ?_
          refine TK.ret ?_
          try dsimp only [thenQ]
          exact ret1 (v := Enc.v (true : Bool)) rfl (by obtain rfl := some_in hX; rfl) (v_val _)
        refine TK.iter [0, 2, 12, 14, 16, 18] (fun s env h => match s with | i34 => ∃ _u : Unit, env = [(0, true, Enc.v (a1 : (List (List UInt8)))), (2, true, Enc.v (parity3 : Int)), (12, true, Enc.v (r22.1 : (List (List UInt8)))), (14, true, Enc.v (r24.1 : (List (List UInt8)))), (16, true, Enc.v (r26.1 : (List (List UInt8)))), (18, true, Enc.v (i34 : Int))] ∧ Nd [] ∧ HSub [] h) hO33 ⟨(), rfl, Nd_nil, HSub.refl _⟩ ?_
        rintro i34 env h x33x ⟨_u, rfl, nd, hs⟩ hX hR33
        refine TK.subH hs ?_
        unfold X.cartridgelaw3_ErasureLine_s33 at hX
        try dsimp only at hX
        refine TK.seq_k fun K36 hK36 => ?_
        refine TK.seq_k fun K37 hK37 => ?_
        refine TK.reg ?_
        refine TL.p (C := cx) (gc := true) (p_mv rfl) rfl rfl ?_
        refine TL.p (C := cx) (gc := true) (p_mv rfl) rfl rfl ?_
        refine TL.p (C := cx) (gc := true) (p_lss rfl rfl) rfl rfl ?_
        refine TL.nil ?_
        refine hK37 _ _ ?_
        refine TK.cond (b := (decide (i34 < parity3))) rfl (fun hc => ?_) (fun hc => ?_)
        · have hX := ite_t hc hX
          refine TK.skip ?_
          refine hK36 _ _ ?_
          refine TK.seq_k fun K38 hK38 => ?_
          refine TK.block ?_
          refine TK.seq_k fun K39 hK39 => ?_
          refine TK.seq_k fun K40 hK40 => ?_
          have ndS : Nd [] := Nd.pick nd (is := []) (by decide)
          refine TK.drwX (h := []) (hS := []) [(0, 0), (0, 1), (0, 2), (0, 3), (0, 4), (0, 5), (0, 6), (0, 7), (0, 8), (0, 9), (0, 10), (0, 11), (0, 12), (0, 13), (0, 14), (0, 15), (0, 16), (0, 17), (0, 18), (0, 19), (0, 20), (0, 21), (0, 22), (0, 23), (0, 24), (0, 25), (0, 26), (0, 27), (0, 28), (0, 29), (0, 30), (0, 31), (0, 32), (0, 33)] mixed (by kernel_rfl) (HSub_app nd) ?_
          refine DR0 (gc := true) rfl (vok_p (C := cx) (p_mv rfl)) rfl rfl ?_
          refine DR0 (gc := true) rfl (vok_p (C := cx) (p_mv rfl)) rfl rfl ?_
          obtain ⟨e41, he41, hX⟩ := bind_some hX
          refine DR0 (gc := true) rfl (vok_p (C := cx) (p_iaL (xs := r22.1) kd22 ty25 rfl rfl rfl (fun _ => he41))) rfl rfl ?_
          refine DR0 (gc := true) rfl (vok_p (C := cx) (p_ldE (xs := r22.1) (a := e41) (e41 : (List UInt8)) ty25 rfl rfl (fun _ => he41) rfl rfl rfl)) rfl rfl ?_
          refine DR0 (gc := true) rfl (vok_p (C := cx) (p_lenL (xs := e41) kd25 rfl)) rfl rfl ?_
          refine DR0 (gc := true) rfl (vok_p (C := cx) (p_mv rfl)) rfl rfl ?_
          obtain ⟨e42, he42, hX⟩ := bind_some hX
          refine DR0 (gc := true) rfl (vok_p (C := cx) (p_iaL (xs := a1) kd22 ty25 rfl rfl rfl (fun _ => he42))) rfl rfl ?_
          refine DR0 (gc := true) rfl (vok_p (C := cx) (p_ldE (xs := a1) (a := e42) (e42 : (List UInt8)) ty25 rfl rfl (fun _ => he42) rfl rfl rfl)) rfl rfl ?_
          refine DR0 (gc := true) rfl (vok_p (C := cx) (p_lenL (xs := e42) kd25 rfl)) rfl rfl ?_
          refine DR0 (gc := true) rfl (vok_p (C := cx) (p_neq rfl rfl)) rfl rfl ?_
          refine DR0 (gc := true) rfl (vok_p (C := cx) (p_mv rfl)) rfl rfl ?_
          refine DR0 (gc := (!(((e41.length : Int) != (e42.length : Int))))) rfl (vok_p (C := cx) (p_mv rfl (hg := fun e => rfl))) (gcF1 rfl) rfl ?_
          refine DR0 (gc := (!(((e41.length : Int) != (e42.length : Int))))) rfl (vok_p (C := cx) (p_mv rfl (hg := fun e => rfl))) (gcF1 rfl) rfl ?_
          obtain ⟨e43, he43, hX⟩ := bind_some hX
          refine DR0 (gc := (!(((e41.length : Int) != (e42.length : Int))))) rfl (vok_p (C := cx) (p_iaL (xs := r24.1) kd22 ty25 rfl rfl rfl (fun e => optG_t he43 e) (hg := fun e => ⟨e, e⟩))) (gcF1 rfl) rfl ?_
          refine DR0 (gc := (!(((e41.length : Int) != (e42.length : Int))))) rfl (vok_p (C := cx) (p_ldE (xs := r24.1) (a := e43) (e43 : (List UInt8)) ty25 rfl rfl (fun e => optG_t he43 e) rfl rfl rfl (hg := fun e => e))) (gcF1 rfl) rfl ?_
          refine DR0 (gc := (!(((e41.length : Int) != (e42.length : Int))))) rfl (vok_p (C := cx) (p_lenL (xs := e43) kd25 rfl (hg := fun e => e))) (gcF1 rfl) rfl ?_
          refine DR0 (gc := (!(((e41.length : Int) != (e42.length : Int))))) rfl (vok_p (C := cx) (p_mv rfl (hg := fun e => rfl))) (gcF1 rfl) rfl ?_
          obtain ⟨e44, he44, hX⟩ := bind_some hX
          refine DR0 (gc := (!(((e41.length : Int) != (e42.length : Int))))) rfl (vok_p (C := cx) (p_iaL (xs := a1) kd22 ty25 rfl rfl rfl (fun e => optG_t he44 e) (hg := fun e => ⟨e, rfl⟩))) (gcF1 rfl) rfl ?_
          refine DR0 (gc := (!(((e41.length : Int) != (e42.length : Int))))) rfl (vok_p (C := cx) (p_ldE (xs := a1) (a := e44) (e44 : (List UInt8)) ty25 rfl rfl (fun e => optG_t he44 e) rfl rfl rfl (hg := fun e => e))) (gcF1 rfl) rfl ?_
          refine DR0 (gc := (!(((e41.length : Int) != (e42.length : Int))))) rfl (vok_p (C := cx) (p_lenL (xs := e44) kd25 rfl (hg := fun e => e))) (gcF1 rfl) rfl ?_
          refine DR0 (gc := (!(((e41.length : Int) != (e42.length : Int))))) rfl (vok_p (C := cx) (p_neq rfl rfl (hg := fun e => ⟨e, e⟩))) (gcF1 rfl) rfl ?_
          refine DR0 (gc := true) rfl (vok_p (C := cx) (p_or rfl rfl (fun e => ⟨rfl, fun h => (not_t h)⟩))) rfl rfl ?_
          refine DR0 (gc := true) rfl (vok_p (C := cx) (p_mv rfl)) rfl rfl ?_
          refine DR0 (gc := (!((((e41.length : Int) != (e42.length : Int)) || ((e43.length : Int) != (e44.length : Int)))))) rfl (vok_p (C := cx) (p_mv rfl (hg := fun e => rfl))) (gcF1 rfl) rfl ?_
          refine DR0 (gc := (!((((e41.length : Int) != (e42.length : Int)) || ((e43.length : Int) != (e44.length : Int)))))) rfl (vok_p (C := cx) (p_mv rfl (hg := fun e => rfl))) (gcF1 rfl) rfl ?_
          obtain ⟨e45, he45, hX⟩ := bind_some hX
          refine DR0 (gc := (!((((e41.length : Int) != (e42.length : Int)) || ((e43.length : Int) != (e44.length : Int)))))) rfl (vok_p (C := cx) (p_iaL (xs := r26.1) kd22 ty25 rfl rfl rfl (fun e => optG_t he45 e) (hg := fun e => ⟨e, e⟩))) (gcF1 rfl) rfl ?_
          refine DR0 (gc := (!((((e41.length : Int) != (e42.length : Int)) || ((e43.length : Int) != (e44.length : Int)))))) rfl (vok_p (C := cx) (p_ldE (xs := r26.1) (a := e45) (e45 : (List UInt8)) ty25 rfl rfl (fun e => optG_t he45 e) rfl rfl rfl (hg := fun e => e))) (gcF1 rfl) rfl ?_
          refine DR0 (gc := (!((((e41.length : Int) != (e42.length : Int)) || ((e43.length : Int) != (e44.length : Int)))))) rfl (vok_p (C := cx) (p_lenL (xs := e45) kd25 rfl (hg := fun e => e))) (gcF1 rfl) rfl ?_
          refine DR0 (gc := (!((((e41.length : Int) != (e42.length : Int)) || ((e43.length : Int) != (e44.length : Int)))))) rfl (vok_p (C := cx) (p_mv rfl (hg := fun e => rfl))) (gcF1 rfl) rfl ?_
          obtain ⟨e46, he46, hX⟩ := bind_some hX
          refine DR0 (gc := (!((((e41.length : Int) != (e42.length : Int)) || ((e43.length : Int) != (e44.length : Int)))))) rfl (vok_p (C := cx) (p_iaL (xs := a1) kd22 ty25 rfl rfl rfl (fun e => optG_t he46 e) (hg := fun e => ⟨e, rfl⟩))) (gcF1 rfl) rfl ?_
          refine DR0 (gc := (!((((e41.length : Int) != (e42.length : Int)) || ((e43.length : Int) != (e44.length : Int)))))) rfl (vok_p (C := cx) (p_ldE (xs := a1) (a := e46) (e46 : (List UInt8)) ty25 rfl rfl (fun e => optG_t he46 e) rfl rfl rfl (hg := fun e => e))) (gcF1 rfl) rfl ?_
          refine DR0 (gc := (!((((e41.length : Int) != (e42.length : Int)) || ((e43.length : Int) != (e44.length : Int)))))) rfl (vok_p (C := cx) (p_lenL (xs := e46) kd25 rfl (hg := fun e => e))) (gcF1 rfl) rfl ?_
          refine DR0 (gc := (!((((e41.length : Int) != (e42.length : Int)) || ((e43.length : Int) != (e44.length : Int)))))) rfl (vok_p (C := cx) (p_neq rfl rfl (hg := fun e => ⟨e, e⟩))) (gcF1 rfl) rfl ?_
          refine DR0 (gc := true) rfl (vok_p (C := cx) (p_or rfl rfl (fun e => ⟨rfl, fun h => (not_t h)⟩))) rfl rfl ?_
          refine DRend ?_
          refine hK40 _ _ ?_
          refine TK.cond (b := ((((e41.length : Int) != (e42.length : Int)) || ((e43.length : Int) != (e44.length : Int))) || ((e45.length : Int) != (e46.length : Int)))) rfl (fun hc => ?_) (fun hc => ?_)
          · have hX := ite_t hc hX
            refine TK.seq_k fun K47 hK47 => ?_
            refine TK.reg ?_
            refine TL.p (C := cx) (gc := true) (p_mv rfl) rfl rfl ?_
            refine TL.nil ?_
            refine hK47 _ _ ?_
            refine TK.ret ?_
            obtain rfl := hR33 _ (some_in hX).symm
            replace hX := hA33
            try dsimp only [thenQ]
            exact ret1 (v := Enc.v (false : Bool)) rfl (by obtain rfl := some_in hX; rfl) (v_val _)
          · have hX := ite_f hc hX
            refine TK.skip ?_
            refine hK39 _ _ ?_
            refine TK.seq_k fun K48 hK48 => ?_
            refine TK.reg ?_
            refine TL.p (C := cx) (gc := true) (p_mv rfl) rfl rfl ?_
            refine TL.nil ?_
            refine hK48 _ _ ?_
            refine TK.block ?_
            obtain ⟨o49, hO49, hA49⟩ := bind_some hX
            have E49 : ∀ (env : Env) (h : Hp), (∃ _u : Unit, keepE [0, 2, 12, 14, 16, 18] env = [(0, true, Enc.v (a1 : (List (List UInt8)))), (2, true, Enc.v (parity3 : Int)), (12, true, Enc.v (r22.1 : (List (List UInt8)))), (14, true, Enc.v (r24.1 : (List (List UInt8)))), (16, true, Enc.v (r26.1 : (List (List UInt8)))), (18, true, Enc.v (i34 : Int))] ∧ Nd [] ∧ HSub [] h) → X.cartridgelaw3_ErasureLine_e49 i34 = some x33x → K38 env h := by
              intro  env h hE hX
              obtain ⟨_u, henv, nd, hs⟩ := hE
              unfold X.cartridgelaw3_ErasureLine_e49 at hX
              refine hK38 _ _ (TK.keep [0, 2, 12, 14, 16, 18] ?_)
              rw [henv]
              refine TK.subH hs ?_
              refine TK.reg ?_
              refine TL.p (C := cx) (gc := true) (p_mv rfl) rfl rfl ?_
              refine TL.p (C := cx) (gc := true) (p_add rfl rfl) rfl rfl ?_
              refine TL.p (C := cx) (gc := true) (p_mv rfl) rfl rfl ?_
              refine TL.nil ?_
              exact ⟨_, (some_in hX).symm, (), rfl, Nd_nil, HSub.refl _⟩
            refine TK.iter [0, 2, 12, 14, 16, 18, 19] (fun s env h => match s with | k50 => ∃ _u : Unit, env = [(0, true, Enc.v (a1 : (List (List UInt8)))), (2, true, Enc.v (parity3 : Int)), (12, true, Enc.v (r22.1 : (List (List UInt8)))), (14, true, Enc.v (r24.1 : (List (List UInt8)))), (16, true, Enc.v (r26.1 : (List (List UInt8)))), (18, true, Enc.v (i34 : Int)), (19, true, Enc.v (k50 : Int))] ∧ Nd [] ∧ HSub [] h) hO49 ⟨(), rfl, Nd_nil, HSub.refl _⟩ ?_
            rintro k50 env h x49x ⟨_u, rfl, nd, hs⟩ hX hR49
            refine TK.subH hs ?_
            unfold X.cartridgelaw3_ErasureLine_s49 at hX
            try dsimp only at hX
            refine TK.seq_k fun K51 hK51 => ?_
            refine TK.seq_k fun K52 hK52 => ?_
            refine TK.reg ?_
            refine TL.p (C := cx) (gc := true) (p_mv rfl) rfl rfl ?_
            refine TL.p (C := cx) (gc := true) (p_mv rfl) rfl rfl ?_
            refine TL.p (C := cx) (gc := true) (p_mv rfl) rfl rfl ?_
            obtain ⟨e53, he53, hX⟩ := bind_some hX
            refine TL.p (C := cx) (gc := true) (p_iaL (xs := r26.1) kd22 ty25 rfl rfl rfl (fun _ => he53)) rfl rfl ?_
            refine TL.p (C := cx) (gc := true) (p_ldE (xs := r26.1) (a := e53) (e53 : (List UInt8)) ty25 rfl rfl (fun _ => he53) rfl rfl rfl) rfl rfl ?_
            refine TL.p (C := cx) (gc := true) (p_lenL (xs := e53) kd25 rfl) rfl rfl ?_
            refine TL.p (C := cx) (gc := true) (p_lss rfl rfl) rfl rfl ?_
            refine TL.nil ?_
            refine hK52 _ _ ?_
            refine TK.cond (b := (decide (k50 < (e53.length : Int)))) rfl (fun hc => ?_) (fun hc => ?_)
            · have hX := ite_t hc hX
              refine TK.skip ?_
              refine hK51 _ _ ?_
              refine TK.seq_k fun K54 hK54 => ?_
              refine TK.block ?_
              refine TK.seq_k fun K55 hK55 => ?_
              have ndS : Nd [] := Nd.pick nd (is := []) (by decide)
              refine TK.drwX (h := []) (hS := []) [(0, 0), (0, 1), (0, 2), (0, 3), (0, 4), (0, 5), (0, 6), (0, 7), (0, 8), (0, 9), (0, 10), (0, 11), (0, 12), (0, 13), (0, 14), (0, 15), (0, 16), (0, 17), (0, 18), (0, 19), (0, 20), (0, 21), (0, 22)] mixed (by kernel_rfl) (HSub_app nd) ?_
              refine DR0 (gc := true) rfl (vok_p (C := cx) (p_mv rfl)) rfl rfl ?_
              refine DR0 (gc := true) rfl (vok_p (C := cx) (p_mv rfl)) rfl rfl ?_
              obtain ⟨e56, he56, hX⟩ := bind_some hX
              refine DR0 (gc := true) rfl (vok_p (C := cx) (p_iaL (xs := r26.1) kd22 ty25 rfl rfl rfl (fun _ => he56))) rfl rfl ?_
              refine DR0 (gc := true) rfl (vok_p (C := cx) (p_ldE (xs := r26.1) (a := e56) (e56 : (List UInt8)) ty25 rfl rfl (fun _ => he56) rfl rfl rfl)) rfl rfl ?_
              refine DR0 (gc := true) rfl (vok_p (C := cx) (p_mv rfl)) rfl rfl ?_
              obtain ⟨e57, he57, hX⟩ := bind_some hX
              refine DR0 (gc := true) rfl (vok_p (C := cx) (p_iaL (xs := e56) kd25 ty5 rfl rfl rfl (fun _ => he57))) rfl rfl ?_
              refine DR0 (gc := true) rfl (vok_p (C := cx) (p_ldE (xs := e56) (a := e57) (e57 : UInt8) ty5 rfl rfl (fun _ => he57) rfl rfl rfl)) rfl rfl ?_
              refine DR0 (gc := true) rfl (vok_p (C := cx) (p_mv rfl)) rfl rfl ?_
              refine DR0 (gc := true) rfl (vok_p (C := cx) (p_mv rfl)) rfl rfl ?_
              obtain ⟨e58, he58, hX⟩ := bind_some hX
              refine DR0 (gc := true) rfl (vok_p (C := cx) (p_iaL (xs := r22.1) kd22 ty25 rfl rfl rfl (fun _ => he58))) rfl rfl ?_
              refine DR0 (gc := true) rfl (vok_p (C := cx) (p_ldE (xs := r22.1) (a := e58) (e58 : (List UInt8)) ty25 rfl rfl (fun _ => he58) rfl rfl rfl)) rfl rfl ?_
              refine DR0 (gc := true) rfl (vok_p (C := cx) (p_mv rfl)) rfl rfl ?_
              obtain ⟨e59, he59, hX⟩ := bind_some hX
              refine DR0 (gc := true) rfl (vok_p (C := cx) (p_iaL (xs := e58) kd25 ty5 rfl rfl rfl (fun _ => he59))) rfl rfl ?_
              refine DR0 (gc := true) rfl (vok_p (C := cx) (p_ldE (xs := e58) (a := e59) (e59 : UInt8) ty5 rfl rfl (fun _ => he59) rfl rfl rfl)) rfl rfl ?_
              refine DR0 (gc := true) rfl (vok_p (C := cx) (p_mv rfl)) rfl rfl ?_
              refine DR0 (gc := true) rfl (vok_p (C := cx) (p_mv rfl)) rfl rfl ?_
              obtain ⟨e60, he60, hX⟩ := bind_some hX
              refine DR0 (gc := true) rfl (vok_p (C := cx) (p_iaL (xs := r24.1) kd22 ty25 rfl rfl rfl (fun _ => he60))) rfl rfl ?_
              refine DR0 (gc := true) rfl (vok_p (C := cx) (p_ldE (xs := r24.1) (a := e60) (e60 : (List UInt8)) ty25 rfl rfl (fun _ => he60) rfl rfl rfl)) rfl rfl ?_
              refine DR0 (gc := true) rfl (vok_p (C := cx) (p_mv rfl)) rfl rfl ?_
              obtain ⟨e61, he61, hX⟩ := bind_some hX
              refine DR0 (gc := true) rfl (vok_p (C := cx) (p_iaL (xs := e60) kd25 ty5 rfl rfl rfl (fun _ => he61))) rfl rfl ?_
              refine DR0 (gc := true) rfl (vok_p (C := cx) (p_ldE (xs := e60) (a := e61) (e61 : UInt8) ty5 rfl rfl (fun _ => he61) rfl rfl rfl)) rfl rfl ?_
              refine DR0 (gc := true) rfl (vok_p (C := cx) (p8_xor (a := e59) (b := e61) rfl rfl)) rfl rfl ?_
              refine DR0 (gc := true) rfl (vok_p (C := cx) (p8_neq (a := e57) (b := (e59 ^^^ e61)) rfl rfl)) rfl rfl ?_
              refine DRend ?_
              refine hK55 _ _ ?_
              refine TK.cond (b := (e57 != (e59 ^^^ e61))) rfl (fun hc => ?_) (fun hc => ?_)
              · have hX := ite_t hc hX
                refine TK.seq_k fun K62 hK62 => ?_
                refine TK.reg ?_
                refine TL.p (C := cx) (gc := true) (p_mv rfl) rfl rfl ?_
                refine TL.nil ?_
                refine hK62 _ _ ?_
                refine TK.ret ?_
                obtain rfl := hR49 _ (some_in hX).symm
                replace hX := hA49
                obtain rfl := hR33 _ (some_in hX).symm
                replace hX := hA33
                try dsimp only [thenQ]
                exact ret1 (v := Enc.v (false : Bool)) rfl (by obtain rfl := some_in hX; rfl) (v_val _)
              · have hX := ite_f hc hX
                refine TK.skip ?_
                refine hK54 _ _ ?_
                refine TK.reg ?_
                refine TL.p (C := cx) (gc := true) (p_mv rfl) rfl rfl ?_
                refine TL.p (C := cx) (gc := true) (p_add rfl rfl) rfl rfl ?_
                refine TL.p (C := cx) (gc := true) (p_mv rfl) rfl rfl ?_
                refine TL.nil ?_
                exact ⟨_, (some_in hX).symm, (), rfl, Nd_nil, HSub.refl _⟩
            · have hX := ite_f hc hX
              refine TK.exit ?_
              obtain rfl := hR49 _ (some_in hX).symm
              exact E49 _ _ ⟨(), rfl, Nd_nil, HSub.refl _⟩ hA49
        · have hX := ite_f hc hX
          refine TK.exit ?_
          obtain rfl := hR33 _ (some_in hX).symm
          exact E33 _ _ ⟨(), rfl, Nd_nil, HSub.refl _⟩ hA33
    refine TK.iter [0, 1, 2, 8, 9] (fun s env h => match s with | (c17, i18) => ∃ b16, env = [(0, true, Enc.v (a1 : (List (List UInt8)))), (1, true, Enc.v (b2 : (List (List UInt8)))), (2, true, Enc.v (parity3 : Int)), (8, true, OL (α := (List UInt8)) b16 c17), (9, true, Enc.v (i18 : Int))] ∧ Nd [(b16, RL (α := (List UInt8)) 25 c17)] ∧ HSub [(b16, RL (α := (List UInt8)) 25 c17)] h) hO15 ⟨b12, rfl, (Nd.pick nd (is := [0]) (by decide)), (HSub.pick nd (is := [0]) (by decide))⟩ ?_
    rintro ⟨c17, i18⟩ env h x15x ⟨b16, rfl, nd, hs⟩ hX hR15
    refine TK.subH hs ?_
    unfold X.cartridgelaw3_ErasureLine_s15 at hX
    try dsimp only at hX
    refine TK.seq_k fun K63 hK63 => ?_
    refine TK.seq_k fun K64 hK64 => ?_
    refine TK.reg ?_
    refine TL.p (C := cx) (gc := true) (p_mv rfl) rfl rfl ?_
    refine TL.p (C := cx) (gc := true) (p_mv rfl) rfl rfl ?_
    refine TL.p (C := cx) (gc := true) (p_lenL (xs := a1) kd22 rfl) rfl rfl ?_
    refine TL.p (C := cx) (gc := true) (p_lss rfl rfl) rfl rfl ?_
    refine TL.nil ?_
    refine hK64 _ _ ?_
    refine TK.cond (b := (decide (i18 < (a1.length : Int)))) rfl (fun hc => ?_) (fun hc => ?_)
    · have hX := ite_t hc hX
      refine TK.skip ?_
      refine hK63 _ _ ?_
      refine TK.seq_k fun K65 hK65 => ?_
      refine TK.block ?_
      refine TK.seq_k fun K66 hK66 => ?_
      refine TK.seq_k fun K67 hK67 => ?_
      have ndS : Nd [(b16, RL (α := (List UInt8)) 25 c17)] := Nd.pick nd (is := [0]) (by decide)
      refine TK.drwX (h := []) (hS := [(b16, RL (α := (List UInt8)) 25 c17)]) [(0, 0), (0, 1), (0, 2), (0, 3), (0, 4), (0, 5), (0, 6), (0, 7), (0, 8), (0, 9), (0, 10), (0, 11), (0, 12), (0, 13), (0, 14), (0, 15), (0, 16), (0, 17), (0, 18), (0, 19), (0, 20), (0, 21)] mixed (by kernel_rfl) (HSub_app nd) ?_
      refine DR0 (gc := true) rfl (vok_p (C := cx) (p_mv rfl)) rfl rfl ?_
      refine DR0 (gc := true) rfl (vok_p (C := cx) (p_mv rfl)) rfl rfl ?_
      obtain ⟨e68, he68, hX⟩ := bind_some hX
      refine DR0 (gc := true) rfl (vok_p (C := cx) (p_iaL (xs := a1) kd22 ty25 rfl rfl rfl (fun _ => he68))) rfl rfl ?_
      refine DR0 (gc := true) rfl (vok_p (C := cx) (p_ldE (xs := a1) (a := e68) (e68 : (List UInt8)) ty25 rfl rfl (fun _ => he68) rfl rfl rfl)) rfl rfl ?_
      refine DR0 (gc := true) rfl (vok_p (C := cx) (p_lenL (xs := e68) kd25 rfl)) rfl rfl ?_
      refine DR0 (gc := true) rfl (vok_p (C := cx) (p_mv rfl)) rfl rfl ?_
      obtain ⟨e69, he69, hX⟩ := bind_some hX
      refine DR0 (gc := true) rfl (vok_p (C := cx) (p_iaL (xs := a1) kd22 ty25 rfl rfl rfl (fun _ => he69))) rfl rfl ?_
      refine DR0 (gc := true) rfl (vok_p (C := cx) (p_ldE (xs := a1) (a := e69) (e69 : (List UInt8)) ty25 rfl rfl (fun _ => he69) rfl rfl rfl)) rfl rfl ?_
      refine DR0 (gc := true) rfl (vok_p (C := cx) (p_lenL (xs := e69) kd25 rfl)) rfl rfl ?_
      refine DR0 (gc := true) rfl (vok_p (C := cx) (p_neq rfl rfl)) rfl rfl ?_
      refine DR0 (gc := true) rfl (vok_p (C := cx) (p_mv rfl)) rfl rfl ?_
      refine DR0 (gc := (!(((e68.length : Int) != (e69.length : Int))))) rfl (vok_p (C := cx) (p_mv rfl (hg := fun e => rfl))) (gcF1 rfl) rfl ?_
      refine DR0 (gc := (!(((e68.length : Int) != (e69.length : Int))))) rfl (vok_p (C := cx) (p_mv rfl (hg := fun e => rfl))) (gcF1 rfl) rfl ?_
      obtain ⟨e70, he70, hX⟩ := bind_some hX
      refine DR0 (gc := (!(((e68.length : Int) != (e69.length : Int))))) rfl (vok_p (C := cx) (p_iaL (xs := b2) kd22 ty25 rfl rfl rfl (fun e => optG_t he70 e) (hg := fun e => ⟨e, e⟩))) (gcF1 rfl) rfl ?_
      refine DR0 (gc := (!(((e68.length : Int) != (e69.length : Int))))) rfl (vok_p (C := cx) (p_ldE (xs := b2) (a := e70) (e70 : (List UInt8)) ty25 rfl rfl (fun e => optG_t he70 e) rfl rfl rfl (hg := fun e => e))) (gcF1 rfl) rfl ?_
      refine DR0 (gc := (!(((e68.length : Int) != (e69.length : Int))))) rfl (vok_p (C := cx) (p_lenL (xs := e70) kd25 rfl (hg := fun e => e))) (gcF1 rfl) rfl ?_
      refine DR0 (gc := (!(((e68.length : Int) != (e69.length : Int))))) rfl (vok_p (C := cx) (p_mv rfl (hg := fun e => rfl))) (gcF1 rfl) rfl ?_
      obtain ⟨e71, he71, hX⟩ := bind_some hX
      refine DR0 (gc := (!(((e68.length : Int) != (e69.length : Int))))) rfl (vok_p (C := cx) (p_iaL (xs := a1) kd22 ty25 rfl rfl rfl (fun e => optG_t he71 e) (hg := fun e => ⟨e, rfl⟩))) (gcF1 rfl) rfl ?_
      refine DR0 (gc := (!(((e68.length : Int) != (e69.length : Int))))) rfl (vok_p (C := cx) (p_ldE (xs := a1) (a := e71) (e71 : (List UInt8)) ty25 rfl rfl (fun e => optG_t he71 e) rfl rfl rfl (hg := fun e => e))) (gcF1 rfl) rfl ?_
      refine DR0 (gc := (!(((e68.length : Int) != (e69.length : Int))))) rfl (vok_p (C := cx) (p_lenL (xs := e71) kd25 rfl (hg := fun e => e))) (gcF1 rfl) rfl ?_
      refine DR0 (gc := (!(((e68.length : Int) != (e69.length : Int))))) rfl (vok_p (C := cx) (p_neq rfl rfl (hg := fun e => ⟨e, e⟩))) (gcF1 rfl) rfl ?_
      refine DR0 (gc := true) rfl (vok_p (C := cx) (p_or rfl rfl (fun e => ⟨rfl, fun h => (not_t h)⟩))) rfl rfl ?_
      refine DRend ?_
      refine hK67 _ _ ?_
      refine TK.cond (b := (((e68.length : Int) != (e69.length : Int)) || ((e70.length : Int) != (e71.length : Int)))) rfl (fun hc => ?_) (fun hc => ?_)
      · have hX := ite_t hc hX
        refine TK.seq_k fun K72 hK72 => ?_
        refine TK.reg ?_
        refine TL.p (C := cx) (gc := true) (p_mv rfl) rfl rfl ?_
        refine TL.nil ?_
        refine hK72 _ _ ?_
        refine TK.ret ?_
        obtain rfl := hR15 _ (some_in hX).symm
        replace hX := hA15
        try dsimp only [thenQ]
        exact ret1 (v := Enc.v (true : Bool)) rfl (by obtain rfl := some_in hX; rfl) (v_val _)
      · have hX := ite_f hc hX
        refine TK.skip ?_
        refine hK66 _ _ ?_
        refine TK.seq_k fun K73 hK73 => ?_
        refine TK.reg ?_
        refine TL.p (C := cx) (gc := true) (p_mv rfl) rfl rfl ?_
        obtain ⟨e74, he74, hX⟩ := bind_some hX
        refine TL.p (C := cx) (gc := true) (p_iaL (xs := a1) kd22 ty25 rfl rfl rfl (fun _ => he74)) rfl rfl ?_
        refine TL.p (C := cx) (gc := true) (p_ldE (xs := a1) (a := e74) (e74 : (List UInt8)) ty25 rfl rfl (fun _ => he74) rfl rfl rfl) rfl rfl ?_
        refine TL.p (C := cx) (gc := true) (p_lenL (xs := e74) kd25 rfl) rfl rfl ?_
        obtain ⟨u75, hu75, hX⟩ := bind_some hX
        refine TL.mkO (C := cx) nd (0 : UInt8) kd25 ty5 rfl (fun j hj => by (have : j = 0 := by simpa [Enc.sz] using hj); subst this; rfl) rfl rfl (by decide) (need_t hu75) rfl fun b76 nd => ?_
        refine TL.p (C := cx) (gc := true) (p_mv rfl) rfl rfl ?_
        refine TL.nil ?_
        refine hK73 _ _ ?_
        refine TK.seq_k fun K77 hK77 => ?_
        refine TK.seq_k fun K78 hK78 => ?_
        refine TK.reg ?_
        refine TL.p (C := cx) (gc := true) (p_mv rfl) rfl rfl ?_
        refine TL.nil ?_
        refine hK78 _ _ ?_
        refine TK.block ?_
        obtain ⟨o79, hO79, hA79⟩ := bind_some hX
        have E79 : ∀ (l86 : List UInt8) (env : Env) (h : Hp), (∃ b84 b85, keepE [0, 1, 2, 8, 9, 10] env = [(0, true, Enc.v (a1 : (List (List UInt8)))), (1, true, Enc.v (b2 : (List (List UInt8)))), (2, true, Enc.v (parity3 : Int)), (8, true, OL (α := (List UInt8)) b84 c17), (9, true, Enc.v (i18 : Int)), (10, true, OL (α := UInt8) b85 l86)] ∧ Nd [(b84, RL (α := (List UInt8)) 25 c17), (b85, RL (α := UInt8) 5 l86)] ∧ HSub [(b84, RL (α := (List UInt8)) 25 c17), (b85, RL (α := UInt8) 5 l86)] h) → X.cartridgelaw3_ErasureLine_e79 c17 i18 l86 = some x15x → K77 env h := by
          intro l86 env h hE hX
          obtain ⟨b84, b85, henv, nd, hs⟩ := hE
          unfold X.cartridgelaw3_ErasureLine_e79 at hX
          refine hK77 _ _ (TK.keep [0, 1, 2, 8, 9, 10] ?_)
          rw [henv]
          refine TK.subH hs ?_
          refine TK.reg ?_
          refine TL.p (C := cx) (gc := true) (p_mv rfl) rfl rfl ?_
          refine TL.p (C := cx) (gc := true) (p_mv rfl) rfl rfl ?_
          refine TL.lay [(112, L l86)] nd (j := 1) rfl ⟨⟨_, rfl, fix_OL nd (j := 1) rfl, rfl⟩, trivial⟩ fun nd => ?_
          refine TL.lit (C := cx) ([l86] : List (List UInt8)) kd22 ty25 rfl ⟨⟨rfl, rfl⟩, trivial⟩ rfl rfl rfl ?_
          obtain ⟨u87, hu87, hX⟩ := bind_some hX
          refine TL.appO (C := cx) nd kd22 bo22 ty25 rfl rfl (j := 0) rfl rfl (Src_L _) (by decide) (need_t hu87) rfl fun nd => ?_
          refine TL.p (C := cx) (gc := true) (p_mv rfl) rfl rfl ?_
          refine TL.nil ?_
          refine hK65 _ _ ?_
          refine TK.reg ?_
          refine TL.p (C := cx) (gc := true) (p_mv rfl) rfl rfl ?_
          refine TL.p (C := cx) (gc := true) (p_add rfl rfl) rfl rfl ?_
          refine TL.p (C := cx) (gc := true) (p_mv rfl) rfl rfl ?_
          refine TL.nil ?_
          exact ⟨_, (some_in hX).symm, b84, rfl, (Nd.pick nd (is := [0]) (by decide)), (HSub.pick nd (is := [0]) (by decide))⟩
        refine TK.iter [0, 1, 2, 8, 9, 10, 11] (fun s env h => match s with | (row82, k83) => ∃ b80 b81, env = [(0, true, Enc.v (a1 : (List (List UInt8)))), (1, true, Enc.v (b2 : (List (List UInt8)))), (2, true, Enc.v (parity3 : Int)), (8, true, OL (α := (List UInt8)) b80 c17), (9, true, Enc.v (i18 : Int)), (10, true, OL (α := UInt8) b81 row82), (11, true, Enc.v (k83 : Int))] ∧ Nd [(b80, RL (α := (List UInt8)) 25 c17), (b81, RL (α := UInt8) 5 row82)] ∧ HSub [(b80, RL (α := (List UInt8)) 25 c17), (b81, RL (α := UInt8) 5 row82)] h) hO79 ⟨b16, b76, rfl, (Nd.pick nd (is := [1, 0]) (by decide)), (HSub.pick nd (is := [1, 0]) (by decide))⟩ ?_
        rintro ⟨row82, k83⟩ env h x79x ⟨b80, b81, rfl, nd, hs⟩ hX hR79
        refine TK.subH hs ?_
        unfold X.cartridgelaw3_ErasureLine_s79 at hX
        try dsimp only at hX
        refine TK.seq_k fun K88 hK88 => ?_
        refine TK.seq_k fun K89 hK89 => ?_
        refine TK.reg ?_
        refine TL.p (C := cx) (gc := true) (p_mv rfl) rfl rfl ?_
        refine TL.p (C := cx) (gc := true) (p_mv rfl) rfl rfl ?_
        refine TL.p (C := cx) (gc := true) (p_lenR kd25 rfl (fun _ => refOK_of nd (j := 1) rfl rfl)) rfl rfl ?_
        refine TL.p (C := cx) (gc := true) (p_lss rfl rfl) rfl rfl ?_
        refine TL.nil ?_
        refine hK89 _ _ ?_
        refine TK.cond (b := (decide (k83 < (row82.length : Int)))) rfl (fun hc => ?_) (fun hc => ?_)
        · have hX := ite_t hc hX
          refine TK.skip ?_
          refine hK88 _ _ ?_
          refine TK.seq_k fun K90 hK90 => ?_
          refine TK.block ?_
          refine TK.pick [1, 0] nd (by decide) fun nd => ?_
          have ndS : Nd [(b80, RL (α := (List UInt8)) 25 c17)] := Nd.pick nd (is := [1]) (by decide)
          refine TK.endK fun KD hKD => ?_
          refine TK.drwX (h := [(b81, RL (α := UInt8) 5 row82)]) (hS := [(b80, RL (α := (List UInt8)) 25 c17)]) [(0, 0), (0, 1), (0, 2), (0, 3), (0, 4), (0, 5), (0, 6), (0, 7), (0, 8), (0, 9), (0, 10), (0, 11), (0, 12), (0, 13), (0, 14), (0, 15), (0, 16), (1, 17), (2, 18)] mixed (by kernel_rfl) (HSub_app nd) ?_
          refine DR0 (gc := true) rfl (vok_p (C := cx) (p_mv rfl)) rfl rfl ?_
          refine DR0 (gc := true) rfl (vok_p (C := cx) (p_mv rfl)) rfl rfl ?_
          refine DR0 (gc := true) rfl (vok_p (C := cx) (p_mv rfl)) rfl rfl ?_
          refine DR0 (gc := true) rfl (vok_p (C := cx) (p_mv rfl)) rfl rfl ?_
          obtain ⟨e91, he91, hX⟩ := bind_some hX
          refine DR0 (gc := true) rfl (vok_p (C := cx) (p_iaL (xs := a1) kd22 ty25 rfl rfl rfl (fun _ => he91))) rfl rfl ?_
          refine DR0 (gc := true) rfl (vok_p (C := cx) (p_ldE (xs := a1) (a := e91) (e91 : (List UInt8)) ty25 rfl rfl (fun _ => he91) rfl rfl rfl)) rfl rfl ?_
          refine DR0 (gc := true) rfl (vok_p (C := cx) (p_mv rfl)) rfl rfl ?_
          obtain ⟨e92, he92, hX⟩ := bind_some hX
          refine DR0 (gc := true) rfl (vok_p (C := cx) (p_iaL (xs := e91) kd25 ty5 rfl rfl rfl (fun _ => he92))) rfl rfl ?_
          refine DR0 (gc := true) rfl (vok_p (C := cx) (p_ldE (xs := e91) (a := e92) (e92 : UInt8) ty5 rfl rfl (fun _ => he92) rfl rfl rfl)) rfl rfl ?_
          refine DR0 (gc := true) rfl (vok_p (C := cx) (p_mv rfl)) rfl rfl ?_
          refine DR0 (gc := true) rfl (vok_p (C := cx) (p_mv rfl)) rfl rfl ?_
          obtain ⟨e93, he93, hX⟩ := bind_some hX
          refine DR0 (gc := true) rfl (vok_p (C := cx) (p_iaL (xs := b2) kd22 ty25 rfl rfl rfl (fun _ => he93))) rfl rfl ?_
          refine DR0 (gc := true) rfl (vok_p (C := cx) (p_ldE (xs := b2) (a := e93) (e93 : (List UInt8)) ty25 rfl rfl (fun _ => he93) rfl rfl rfl)) rfl rfl ?_
          refine DR0 (gc := true) rfl (vok_p (C := cx) (p_mv rfl)) rfl rfl ?_
          obtain ⟨e94, he94, hX⟩ := bind_some hX
          refine DR0 (gc := true) rfl (vok_p (C := cx) (p_iaL (xs := e93) kd25 ty5 rfl rfl rfl (fun _ => he94))) rfl rfl ?_
          refine DR0 (gc := true) rfl (vok_p (C := cx) (p_ldE (xs := e93) (a := e94) (e94 : UInt8) ty5 rfl rfl (fun _ => he94) rfl rfl rfl)) rfl rfl ?_
          refine DR0 (gc := true) rfl (vok_p (C := cx) (p8_xor (a := e92) (b := e94) rfl rfl)) rfl rfl ?_
          obtain ⟨e95, he95, hX⟩ := bind_some hX
          refine DR1 (gc := true) rfl (vok_p (C := cx) (p_iaO (xs := row82) kd25 ty5 rfl rfl rfl nd (j := 0) rfl (fun _ => he95))) rfl rfl ?_
          refine DR2n rfl ?_
          refine TL.stW (C := cx) (xs := row82) (i := k83) (lu := Enc.cl ((e92 ^^^ e94) : UInt8)) (a' := (e92 ^^^ e94)) nd ty5 rfl (j := 0) rfl (by simp [Enc.sz]) (inb_of he95 (by simp)) rfl (Cells_v ((e92 ^^^ e94) : UInt8)) rfl (WkL_refl _) fun nd => ?_
          refine TL.nil ⟨.nilp, [(b81, RL (α := UInt8) 5 (row82.set k83.toNat (e92 ^^^ e94)))], rfl, rfl, HSub_app nd, ?_⟩
          refine DRend ?_
          refine hKD _ _ ?_
          refine TL.cv 10 (OL (α := UInt8) b81 (row82.set k83.toNat (e92 ^^^ e94))) rfl (Wk_eq (OL_len (by simp))) ?_
          refine TL.nil ?_
          refine hK90 _ _ ?_
          refine TK.reg ?_
          refine TL.p (C := cx) (gc := true) (p_mv rfl) rfl rfl ?_
          refine TL.p (C := cx) (gc := true) (p_add rfl rfl) rfl rfl ?_
          refine TL.p (C := cx) (gc := true) (p_mv rfl) rfl rfl ?_
          refine TL.nil ?_
          exact ⟨_, (some_in hX).symm, b80, b81, rfl, (Nd.pick nd (is := [1, 0]) (by decide)), (HSub.pick nd (is := [1, 0]) (by decide))⟩
        · have hX := ite_f hc hX
          refine TK.exit ?_
          obtain rfl := hR79 _ (some_in hX).symm
          exact E79 row82 _ _ ⟨b80, b81, rfl, (Nd.pick nd (is := [0, 1]) (by decide)), (HSub.pick nd (is := [0, 1]) (by decide))⟩ hA79
    · have hX := ite_f hc hX
      refine TK.exit ?_
      obtain rfl := hR15 _ (some_in hX).symm
      exact E15 c17 _ _ ⟨b16, rfl, (Nd.pick nd (is := [0]) (by decide)), (HSub.pick nd (is := [0]) (by decide))⟩ hA15

end Go.Proofs.Ytndjbcnpgggddaa
