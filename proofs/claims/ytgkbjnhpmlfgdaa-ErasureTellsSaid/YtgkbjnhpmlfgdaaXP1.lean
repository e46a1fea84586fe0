import Derived.Test.YtgkbjnhpmlfgdaaXFn
import Derived.Test.YtgkbjnhpmlfgdaaXS
import Derived.Test.YtgkbjnhpmlfgdaaAmK0
import Derived.Test.YtgkbjnhpmlfgdaaXP0
/- That they do. -/
namespace Go.Proofs.Ytgkbjnhpmlfgdaa
open Go.AM Go.AX
set_option linter.unusedVariables false
set_option maxRecDepth 20000

/-- cartridge/matrix.Inverse -/
theorem ok_matrix_Inverse (m1 : (List (List UInt8))) (r : ((List (List UInt8)) × Int)) (hX : X.matrix_Inverse m1 = some r) : Fun Try.prog 17 [Enc.v (m1 : (List (List UInt8)))] (· = .tup 2 (ofL [Enc.v r.1, Enc.v r.2])) := by
  refine Fun.of b17 (Nat.le_of_ble_eq_true rfl) (allVal.mem ⟨(by exact (v_val _)), trivial⟩) ?_
  unfold k17
  have nd : Nd [] := Nd_nil
  unfold X.matrix_Inverse at hX
  refine TK.seq_k fun K2 hK2 => ?_
  refine TK.reg ?_
  refine TL.p (C := cx) (gc := true) (p_mv rfl) rfl rfl ?_
  refine TL.p (C := cx) (gc := true) (p_mv rfl) rfl rfl ?_
  refine TL.nil ?_
  refine hK2 _ _ ?_
  refine TK.seq_k fun K3 hK3 => ?_
  refine TK.seq_k fun K4 hK4 => ?_
  refine TK.reg ?_
  refine TL.p (C := cx) (gc := true) (p_mv rfl) rfl rfl ?_
  obtain ⟨r5, hr5, hX⟩ := bind_some hX
  refine TL.cvX rfl rfl rfl (fun _ => ⟨rfl, ⟨rfl, trivial⟩⟩) (fun e => ok_matrix_Right m1 _ hr5) ?_
  refine TL.p (C := cx) (gc := true) (p_not rfl) rfl rfl ?_
  refine TL.p (C := cx) (gc := true) (p_mv rfl) rfl rfl ?_
  refine TL.p (C := cx) (gc := (!((!r5)))) (p_mv rfl (hg := fun e => rfl)) (gcF1 rfl) rfl ?_
  refine TL.p (C := cx) (gc := (!((!r5)))) (p_lenL (xs := m1) kd22 rfl (hg := fun e => e)) (gcF1 rfl) rfl ?_
  refine TL.p (C := cx) (gc := (!((!r5)))) (p_mv rfl (hg := fun e => rfl)) (gcF1 rfl) rfl ?_
  obtain ⟨e6, he6, hX⟩ := bind_some hX
  refine TL.p (C := cx) (gc := (!((!r5)))) (p_iaL (xs := m1) kd22 ty23 rfl rfl rfl (fun e => optG_t he6 e) (hg := fun e => ⟨e, rfl⟩)) (gcF1 rfl) rfl ?_
  refine TL.p (C := cx) (gc := (!((!r5)))) (p_ldE (xs := m1) (a := e6) (e6 : (List UInt8)) ty23 rfl rfl (fun e => optG_t he6 e) rfl rfl rfl (hg := fun e => e)) (gcF1 rfl) rfl ?_
  refine TL.p (C := cx) (gc := (!((!r5)))) (p_lenL (xs := e6) kd23 rfl (hg := fun e => e)) (gcF1 rfl) rfl ?_
  refine TL.p (C := cx) (gc := (!((!r5)))) (p_neq rfl rfl (hg := fun e => ⟨e, e⟩)) (gcF1 rfl) rfl ?_
  refine TL.p (C := cx) (gc := true) (p_or rfl rfl (fun e => ⟨rfl, fun h => (not_t h)⟩)) rfl rfl ?_
  refine TL.nil ?_
  refine hK4 _ _ ?_
  refine TK.cond (b := ((!r5) || ((m1.length : Int) != (e6.length : Int)))) rfl (fun hc => ?_) (fun hc => ?_)
  · have hX := ite_t hc hX
    refine TK.seq_k fun K7 hK7 => ?_
    refine TK.reg ?_
    refine TL.p (C := cx) (gc := true) (p_mv rfl) rfl rfl ?_
    refine TL.p (C := cx) (gc := true) (p_mv rfl) rfl rfl ?_
    refine TL.nil ?_
    refine hK7 _ _ ?_
    refine TK.wk 2 (L ([] : (List (List UInt8)))) rfl Wk_nil ?_
    refine TK.ret ?_
    try dsimp only [thenQ]
    exact retN (vs := [Enc.v (([] : (List (List UInt8))) : (List (List UInt8))), Enc.v ((1 : Int) : Int)]) ⟨rfl, rfl, trivial⟩ (by obtain rfl := some_in hX; rfl) (allVal.mem ⟨v_val _, v_val _, trivial⟩)
  · have hX := ite_f hc hX
    refine TK.skip ?_
    refine hK3 _ _ ?_
    refine TK.seq_k fun K8 hK8 => ?_
    refine TK.reg ?_
    refine TL.p (C := cx) (gc := true) (p_mv rfl) rfl rfl ?_
    obtain ⟨r9, hr9, hX⟩ := bind_some hX
    refine TL.tcX [] [] rfl nd (dlt rfl) rfl ⟨rfl, ⟨rfl, trivial⟩⟩ (ok_matrix_beside m1 (Nd.take nd 0 rfl) _ hr9) ?_
    rintro _ _ hQ nd
    obtain ⟨b10, rfl, rfl⟩ := hQ
    refine TL.p (C := cx) (gc := true) (p_mv rfl) rfl rfl ?_
    refine TL.nil ?_
    refine hK8 _ _ ?_
    refine TK.seq_k fun K11 hK11 => ?_
    refine TK.seq_k fun K12 hK12 => ?_
    refine TK.reg ?_
    refine TL.p (C := cx) (gc := true) (p_mv rfl) rfl rfl ?_
    refine TL.p (C := cx) (gc := true) (p_lenR kd22 rfl (fun _ => refOK_of nd (j := 0) rfl rfl)) rfl rfl ?_
    refine TL.p (C := cx) (gc := true) (p_mv rfl) rfl rfl ?_
    refine TL.nil ?_
    refine hK12 _ _ ?_
    refine TK.block ?_
    obtain ⟨o13, hO13, hA13⟩ := bind_some hX
    have E13 : ∀ (l18 : List (List UInt8)) (env : Env) (h : Hp), (∃ b17, keepE [0, 4] env = [(0, true, Enc.v (m1 : (List (List UInt8)))), (4, true, OL (α := (List UInt8)) b17 l18)] ∧ Nd [(b17, RL (α := (List UInt8)) 23 l18)] ∧ HSub [(b17, RL (α := (List UInt8)) 23 l18)] h) → X.matrix_Inverse_e13 m1 l18 = some r → K11 env h := by
      intro l18 env h hE hX
      obtain ⟨b17, henv, nd, hs⟩ := hE
      unfold X.matrix_Inverse_e13 at hX
      refine hK11 _ _ (TK.keep [0, 4] ?_)
      rw [henv]
      refine TK.subH hs ?_
      refine TK.seq_k fun K19 hK19 => ?_
      refine TK.reg ?_
      refine TL.p (C := cx) (gc := true) (p_mv rfl) rfl rfl ?_
      refine TL.nil ?_
      refine hK19 _ _ ?_
      refine TK.ownL (α := (List UInt8)) 8 23 nd rfl (.inl rfl) fun b20 nd => ?_
      refine TK.seq_k fun K21 hK21 => ?_
      refine TK.seq_k fun K22 hK22 => ?_
      refine TK.reg ?_
      refine TL.p (C := cx) (gc := true) (p_mv rfl) rfl rfl ?_
      refine TL.p (C := cx) (gc := true) (p_lenR kd22 rfl (fun _ => refOK_of nd (j := 1) rfl rfl)) rfl rfl ?_
      refine TL.p (C := cx) (gc := true) (p_mv rfl) rfl rfl ?_
      refine TL.nil ?_
      refine hK22 _ _ ?_
      refine TK.block ?_
      obtain ⟨o23, hO23, hA23⟩ := bind_some hX
      have E23 : ∀ (l29 : List (List UInt8)) (env : Env) (h : Hp), (∃ b28, keepE [8] env = [(8, true, OL (α := (List UInt8)) b28 l29)] ∧ Nd [(b28, RL (α := (List UInt8)) 23 l29)] ∧ HSub [(b28, RL (α := (List UInt8)) 23 l29)] h) → X.matrix_Inverse_e23 l29 = some r → K21 env h := by
        intro l29 env h hE hX
        obtain ⟨b28, henv, nd, hs⟩ := hE
        unfold X.matrix_Inverse_e23 at hX
        refine hK21 _ _ (TK.keep [8] ?_)
        rw [henv]
        refine TK.subH hs ?_
        refine TK.seq_k fun K30 hK30 => ?_
        refine TK.reg ?_
        refine TL.p (C := cx) (gc := true) (p_mv rfl) rfl rfl ?_
        refine TL.p (C := cx) (gc := true) (p_mv rfl) rfl rfl ?_
        refine TL.p (C := cx) (gc := true) (p_mv rfl) rfl rfl ?_
        refine TL.nil ?_
        refine hK30 _ _ ?_
        refine TK.lay [(2, L l29)] nd (j := 0) rfl ⟨⟨_, rfl, fix_OL nd (j := 0) rfl, rfl⟩, trivial⟩ fun nd => ?_
        refine TK.ret ?_
        try dsimp only [thenQ]
        exact retN (vs := [Enc.v (l29 : (List (List UInt8))), Enc.v ((0 : Int) : Int)]) ⟨rfl, rfl, trivial⟩ (by obtain rfl := some_in hX; rfl) (allVal.mem ⟨v_val _, v_val _, trivial⟩)
      refine TK.iter [0, 8, 111, 112, 113] (fun s env h => match s with | (out25, x27) => ∃ b24 b26, env = [(0, true, Enc.v (m1 : (List (List UInt8)))), (8, true, OL (α := (List UInt8)) b24 out25), (111, true, OL (α := (List UInt8)) b26 l18), (112, true, Enc.v ((l18.length : Int) : Int)), (113, true, Enc.v (x27 : Int))] ∧ Nd [(b24, RL (α := (List UInt8)) 23 out25), (b26, RL (α := (List UInt8)) 23 l18)] ∧ HSub [(b24, RL (α := (List UInt8)) 23 out25), (b26, RL (α := (List UInt8)) 23 l18)] h) hO23 ⟨b20, b17, rfl, (Nd.pick nd (is := [0, 1]) (by decide)), (HSub.pick nd (is := [0, 1]) (by decide))⟩ ?_
      rintro ⟨out25, x27⟩ env h x23x ⟨b24, b26, rfl, nd, hs⟩ hX hR23
      refine TK.subH hs ?_
      unfold X.matrix_Inverse_s23 at hX
      try dsimp only at hX
      refine TK.seq_k fun K31 hK31 => ?_
      refine TK.reg ?_
      refine TL.p (C := cx) (gc := true) (p_lss rfl rfl) rfl rfl ?_
      refine TL.nil ?_
      refine hK31 _ _ ?_
      refine TK.seq_k fun K32 hK32 => ?_
      refine TK.cond (b := (decide (x27 < (l18.length : Int)))) rfl (fun hc => ?_) (fun hc => ?_)
      · have hX := ite_t hc hX
        refine TK.skip ?_
        refine hK32 _ _ ?_
        refine TK.seq_k fun K33 hK33 => ?_
        refine TK.block ?_
        refine TK.seq_k fun K34 hK34 => ?_
        refine TK.reg ?_
        obtain ⟨e35, he35, hX⟩ := bind_some hX
        refine TL.p (C := cx) (gc := true) (p_iaO (xs := l18) kd22 ty23 rfl rfl rfl nd (j := 1) rfl (fun _ => he35)) rfl rfl ?_
        refine TL.p (C := cx) (gc := true) (p_ldO (xs := l18) (a := e35) (e35 : (List UInt8)) ty23 rfl rfl nd (j := 1) rfl (fun _ => he35) rfl rfl rfl) rfl rfl ?_
        refine TL.p (C := cx) (gc := true) (p_mv rfl) rfl rfl ?_
        refine TL.nil ?_
        refine hK34 _ _ ?_
        refine TK.reg ?_
        refine TL.p (C := cx) (gc := true) (p_mv rfl) rfl rfl ?_
        refine TL.p (C := cx) (gc := true) (p_mv rfl) rfl rfl ?_
        refine TL.p (C := cx) (gc := true) (p_mv rfl) rfl rfl ?_
        refine TL.p (C := cx) (gc := true) (p_lenL (xs := m1) kd22 rfl) rfl rfl ?_
        obtain ⟨u36, hu36, hX⟩ := bind_some hX
        refine TL.p (C := cx) (gc := true) (p_sliL (xs := e35) (l := (m1.length : Int)) (k := (e35.length : Int)) kd23 ty5 rfl rfl rfl rfl (fun e => need_t hu36)) rfl rfl ?_
        obtain ⟨r37, hr37, hX⟩ := bind_some hX
        refine TL.cvX rfl rfl rfl (fun _ => ⟨rfl, ⟨rfl, trivial⟩⟩) (fun e => ok_slices_Clone_Lbyte_byte (slc e35 (m1.length : Int) (e35.length : Int)) _ hr37) ?_
        refine TL.lit (C := cx) ([r37] : List (List UInt8)) kd22 ty23 rfl ⟨⟨rfl, rfl⟩, trivial⟩ rfl rfl rfl ?_
        obtain ⟨u38, hu38, hX⟩ := bind_some hX
        refine TL.appO (C := cx) nd kd22 bo22 ty23 rfl rfl (j := 0) rfl rfl (Src_L _) (by decide) (need_t hu38) rfl fun nd => ?_
        refine TL.p (C := cx) (gc := true) (p_mv rfl) rfl rfl ?_
        refine TL.nil ?_
        refine hK33 _ _ ?_
        refine TK.reg ?_
        refine TL.p (C := cx) (gc := true) (p_add rfl rfl) rfl rfl ?_
        refine TL.p (C := cx) (gc := true) (p_mv rfl) rfl rfl ?_
        refine TL.nil ?_
        exact ⟨_, (some_in hX).symm, b24, b26, rfl, (Nd.pick nd (is := [0, 1]) (by decide)), (HSub.pick nd (is := [0, 1]) (by decide))⟩
      · have hX := ite_f hc hX
        refine TK.exit ?_
        obtain rfl := hR23 _ (some_in hX).symm
        exact E23 out25 _ _ ⟨b24, rfl, (Nd.pick nd (is := [0]) (by decide)), (HSub.pick nd (is := [0]) (by decide))⟩ hA23
    refine TK.iter [0, 4, 26, 27] (fun s env h => match s with | (l15, x16) => ∃ b14, env = [(0, true, Enc.v (m1 : (List (List UInt8)))), (4, true, OL (α := (List UInt8)) b14 l15), (26, true, Enc.v ((r9.length : Int) : Int)), (27, true, Enc.v (x16 : Int))] ∧ Nd [(b14, RL (α := (List UInt8)) 23 l15)] ∧ HSub [(b14, RL (α := (List UInt8)) 23 l15)] h) hO13 ⟨b10, rfl, (Nd.pick nd (is := [0]) (by decide)), (HSub.pick nd (is := [0]) (by decide))⟩ ?_
    rintro ⟨l15, x16⟩ env h x13x ⟨b14, rfl, nd, hs⟩ hX hR13
    refine TK.subH hs ?_
    unfold X.matrix_Inverse_s13 at hX
    try dsimp only at hX
    refine TK.seq_k fun K39 hK39 => ?_
    refine TK.reg ?_
    refine TL.p (C := cx) (gc := true) (p_lss rfl rfl) rfl rfl ?_
    refine TL.nil ?_
    refine hK39 _ _ ?_
    refine TK.seq_k fun K40 hK40 => ?_
    refine TK.cond (b := (decide (x16 < (r9.length : Int)))) rfl (fun hc => ?_) (fun hc => ?_)
    · have hX := ite_t hc hX
      refine TK.skip ?_
      refine hK40 _ _ ?_
      refine TK.seq_k fun K41 hK41 => ?_
      refine TK.block ?_
      refine TK.seq_k fun K42 hK42 => ?_
      refine TK.reg ?_
      refine TL.p (C := cx) (gc := true) (p_mv rfl) rfl rfl ?_
      refine TL.alO (C := cx) (l := [Enc.v ((0 : Int) : Int)]) nd ty3 ti3_z rfl rfl fun b43 nd => ?_
      refine TL.stV (C := cx) (lu := Enc.cl (x16 : Int)) nd ty3 rfl (j := 0) rfl rfl rfl (Cells_v (x16 : Int)) rfl rfl [Enc.v (x16 : Int)] rfl fun nd => ?_
      refine TL.nil ?_
      refine hK42 _ _ ?_
      refine TK.seq_k fun K44 hK44 => ?_
      refine TK.reg ?_
      refine TL.p (C := cx) (gc := true) (p_mv rfl) rfl rfl ?_
      refine TL.p (C := cx) (gc := true) (p_ldV (v := Enc.v (x16 : Int)) ty3 rfl rfl nd (j := 0) rfl rfl rfl rfl rfl) rfl rfl ?_
      obtain ⟨u45, hu45, hX⟩ := bind_some hX
      refine TL.p (C := cx) (gc := true) (p_sliO (xs := l15) (l := x16) (k := (l15.length : Int)) kd22 ty23 rfl rfl nd (j := 1) rfl rfl rfl (fun e => need_t hu45)) rfl rfl ?_
      refine TL.lay [(5, .vref (ofL [Enc.v (x16 : Int)]) 1 0)] nd (j := 0) rfl ⟨⟨_, rfl, fix_ref nd (j := 0) rfl, rfl⟩, trivial⟩ fun nd => ?_
      refine TL.p (C := cx) (gc := true) (p_mf (l := [.vref (ofL [Enc.v (x16 : Int)]) 1 0]) rfl (fun _ => ⟨rfl, trivial⟩)) rfl rfl ?_
      obtain ⟨r46, hr46, hX⟩ := bind_some hX
      refine TL.lookX [L (slc l15 x16 (l15.length : Int)), .fn 61 1 (ofL [.vref (ofL [Enc.v (x16 : Int)]) 1 0])] rfl rfl rfl (fun _ => ⟨rfl, ⟨rfl, ⟨rfl, trivial⟩⟩⟩) ⟨look_OS nd (j := 0) rfl (need_t hu45).1, look_v (caps_val rfl ⟨(vref_val rfl ⟨v_val _, trivial⟩), trivial⟩), trivial⟩ (fun e => ok_slices_IndexFunc_LLbyte_Lbyte (slc l15 x16 (l15.length : Int)) (fun a1 => X.matrix_Inverse_c1 a1 x16) _ hr46 ⟨61, 1, ofL [.vref (ofL [Enc.v (x16 : Int)]) 1 0], rfl, (caps_val rfl ⟨(vref_val rfl ⟨v_val _, trivial⟩), trivial⟩), fun a1 r hr => ok_matrix_Inverse_c1 a1 x16 r hr⟩) (trivial) ?_
      refine TL.p (C := cx) (gc := true) (p_mv rfl) rfl rfl ?_
      refine TL.nil ?_
      refine hK44 _ _ ?_
      refine TK.seq_k fun K47 hK47 => ?_
      refine TK.seq_k fun K48 hK48 => ?_
      refine TK.reg ?_
      refine TL.p (C := cx) (gc := true) (p_mv rfl) rfl rfl ?_
      refine TL.p (C := cx) (gc := true) (p_lss rfl rfl) rfl rfl ?_
      refine TL.nil ?_
      refine hK48 _ _ ?_
      refine TK.cond (b := (decide (r46 < (0 : Int)))) rfl (fun hc => ?_) (fun hc => ?_)
      · have hX := ite_t hc hX
        refine TK.seq_k fun K49 hK49 => ?_
        refine TK.reg ?_
        refine TL.p (C := cx) (gc := true) (p_mv rfl) rfl rfl ?_
        refine TL.p (C := cx) (gc := true) (p_mv rfl) rfl rfl ?_
        refine TL.nil ?_
        refine hK49 _ _ ?_
        refine TK.wk 2 (L ([] : (List (List UInt8)))) rfl Wk_nil ?_
        refine TK.ret ?_
        obtain rfl := hR13 _ (some_in hX).symm
        replace hX := hA13
        try dsimp only [thenQ]
        exact retN (vs := [Enc.v (([] : (List (List UInt8))) : (List (List UInt8))), Enc.v ((12 : Int) : Int)]) ⟨rfl, rfl, trivial⟩ (by obtain rfl := some_in hX; rfl) (allVal.mem ⟨v_val _, v_val _, trivial⟩)
      · have hX := ite_f hc hX
        refine TK.skip ?_
        refine hK47 _ _ ?_
        refine TK.seq_k fun K50 hK50 => ?_
        have ndS : Nd [] := Nd.pick nd (is := []) (by decide)
        refine TK.endK fun KD hKD => ?_
        refine TK.drwX (h := [(b14, RL (α := (List UInt8)) 23 l15)]) (hS := []) [(0, 0), (0, 1), (0, 2), (0, 3), (0, 4), (0, 5), (0, 6), (0, 7), (0, 8), (0, 9), (1, 10), (1, 11), (0, 12), (0, 13), (1, 14), (1, 15), (1, 16), (2, 17), (1, 18), (2, 19)] mixed (by kernel_rfl) (HSub_app nd) ?_
        refine DR0 (gc := true) rfl (vok_p (C := cx) (p_mv rfl)) rfl rfl ?_
        refine DR0 (gc := true) rfl (vok_p (C := cx) (p_ldR (v := Enc.v (x16 : Int)) ty3 rfl rfl rfl rfl rfl rfl)) rfl rfl ?_
        refine DR0 (gc := true) rfl (vok_p (C := cx) (p_mv rfl)) rfl rfl ?_
        refine DR0 (gc := true) rfl (vok_p (C := cx) (p_ldR (v := Enc.v (x16 : Int)) ty3 rfl rfl rfl rfl rfl rfl)) rfl rfl ?_
        refine DR0 (gc := true) rfl (vok_p (C := cx) (p_mv rfl)) rfl rfl ?_
        refine DR0 (gc := true) rfl (vok_p (C := cx) (p_add rfl rfl)) rfl rfl ?_
        refine DR0 (gc := true) rfl (vok_p (C := cx) (p_mv rfl)) rfl rfl ?_
        refine DR0 (gc := true) rfl (vok_p (C := cx) (p_ldR (v := Enc.v (x16 : Int)) ty3 rfl rfl rfl rfl rfl rfl)) rfl rfl ?_
        refine DR0 (gc := true) rfl (vok_p (C := cx) (p_mv rfl)) rfl rfl ?_
        refine DR0 (gc := true) rfl (vok_p (C := cx) (p_add rfl rfl)) rfl rfl ?_
        obtain ⟨e51, he51, hX⟩ := bind_some hX
        refine DR1 (gc := true) rfl (vok_p (C := cx) (p_iaO (xs := l15) kd22 ty23 rfl rfl rfl nd (j := 0) rfl (fun _ => he51))) rfl rfl ?_
        refine DR1 (gc := true) rfl (vok_p (C := cx) (p_ldO (xs := l15) (a := e51) (e51 : (List UInt8)) ty23 rfl rfl nd (j := 0) rfl (fun _ => he51) rfl rfl rfl)) rfl rfl ?_
        refine DR0 (gc := true) rfl (vok_p (C := cx) (p_mv rfl)) rfl rfl ?_
        refine DR0 (gc := true) rfl (vok_p (C := cx) (p_ldR (v := Enc.v (x16 : Int)) ty3 rfl rfl rfl rfl rfl rfl)) rfl rfl ?_
        obtain ⟨e52, he52, hX⟩ := bind_some hX
        refine DR1 (gc := true) rfl (vok_p (C := cx) (p_iaO (xs := l15) kd22 ty23 rfl rfl rfl nd (j := 0) rfl (fun _ => he52))) rfl rfl ?_
        refine DR1 (gc := true) rfl (vok_p (C := cx) (p_ldO (xs := l15) (a := e52) (e52 : (List UInt8)) ty23 rfl rfl nd (j := 0) rfl (fun _ => he52) rfl rfl rfl)) rfl rfl ?_
        obtain ⟨e53, he53, hX⟩ := bind_some hX
        refine DR1 (gc := true) rfl (vok_p (C := cx) (p_iaO (xs := l15) kd22 ty23 rfl rfl rfl nd (j := 0) rfl (fun _ => he53))) rfl rfl ?_
        refine DR2n rfl ?_
        refine TL.stW (C := cx) (xs := l15) (i := x16) (lu := Enc.cl (e51 : (List UInt8))) (a' := e51) nd ty23 rfl (j := 0) rfl (by simp [Enc.sz]) (inb_of he53 (by simp)) rfl (Cells_v (e51 : (List UInt8))) rfl (WkL_refl _) fun nd => ?_
        refine TL.nil ⟨.nilp, [(b14, RL (α := (List UInt8)) 23 (l15.set x16.toNat e51))], rfl, rfl, HSub_app nd, ?_⟩
        obtain ⟨e54, he54, hX⟩ := bind_some hX
        refine DR1 (gc := true) rfl (vok_p (C := cx) (p_iaO (xs := (l15.set x16.toNat e51)) (gx := true) kd22 ty23 rfl (by rw [OL_len (xs := (l15.set x16.toNat e51)) (ys := l15) (by simp)]; rfl) rfl nd (j := 0) rfl (fun _ => he54))) rfl rfl ?_
        refine DR2n rfl ?_
        refine TL.stW (C := cx) (xs := (l15.set x16.toNat e51)) (i := (wr (x16 + r46))) (lu := Enc.cl (e52 : (List UInt8))) (a' := e52) nd ty23 rfl (j := 0) rfl (by simp [Enc.sz]) (inb_of he54 (by simp)) rfl (Cells_v (e52 : (List UInt8))) rfl (WkL_refl _) fun nd => ?_
        refine TL.nil ⟨.nilp, [(b14, RL (α := (List UInt8)) 23 ((l15.set x16.toNat e51).set (wr (x16 + r46)).toNat e52))], rfl, rfl, HSub_app nd, ?_⟩
        refine DRend ?_
        refine hKD _ _ ?_
        refine TL.cv 4 (OL (α := (List UInt8)) b14 ((l15.set x16.toNat e51).set (wr (x16 + r46)).toNat e52)) rfl (Wk_eq (OL_len (by simp))) ?_
        refine TL.nil ?_
        refine hK50 _ _ ?_
        refine TK.seq_k fun K55 hK55 => ?_
        have ndS : Nd [] := Nd.pick nd (is := []) (by decide)
        refine TK.endK fun KD hKD => ?_
        refine TK.drwX (h := [(b14, RL (α := (List UInt8)) 23 ((l15.set x16.toNat e51).set (wr (x16 + r46)).toNat e52))]) (hS := []) [(0, 0), (0, 1), (0, 2), (0, 3), (1, 4), (1, 5), (0, 6), (0, 7), (1, 8), (1, 9), (0, 10), (0, 11), (0, 12), (0, 13), (0, 14), (1, 15), (2, 16)] mixed (by kernel_rfl) (HSub_app nd) ?_
        refine DR0 (gc := true) rfl (vok_p (C := cx) (p_mv rfl)) rfl rfl ?_
        refine DR0 (gc := true) rfl (vok_p (C := cx) (p_ldR (v := Enc.v (x16 : Int)) ty3 rfl rfl rfl rfl rfl rfl)) rfl rfl ?_
        refine DR0 (gc := true) rfl (vok_p (C := cx) (p_mv rfl)) rfl rfl ?_
        refine DR0 (gc := true) rfl (vok_p (C := cx) (p_ldR (v := Enc.v (x16 : Int)) ty3 rfl rfl rfl rfl rfl rfl)) rfl rfl ?_
        obtain ⟨e56, he56, hX⟩ := bind_some hX
        refine DR1 (gc := true) rfl (vok_p (C := cx) (p_iaO (xs := ((l15.set x16.toNat e51).set (wr (x16 + r46)).toNat e52)) kd22 ty23 rfl rfl rfl nd (j := 0) rfl (fun _ => he56))) rfl rfl ?_
        refine DR1 (gc := true) rfl (vok_p (C := cx) (p_ldO (xs := ((l15.set x16.toNat e51).set (wr (x16 + r46)).toNat e52)) (a := e56) (e56 : (List UInt8)) ty23 rfl rfl nd (j := 0) rfl (fun _ => he56) rfl rfl rfl)) rfl rfl ?_
        refine DR0 (gc := true) rfl (vok_p (C := cx) (p_mv rfl)) rfl rfl ?_
        refine DR0 (gc := true) rfl (vok_p (C := cx) (p_ldR (v := Enc.v (x16 : Int)) ty3 rfl rfl rfl rfl rfl rfl)) rfl rfl ?_
        obtain ⟨e57, he57, hX⟩ := bind_some hX
        refine DR1 (gc := true) rfl (vok_p (C := cx) (p_iaO (xs := ((l15.set x16.toNat e51).set (wr (x16 + r46)).toNat e52)) kd22 ty23 rfl rfl rfl nd (j := 0) rfl (fun _ => he57))) rfl rfl ?_
        refine DR1 (gc := true) rfl (vok_p (C := cx) (p_ldO (xs := ((l15.set x16.toNat e51).set (wr (x16 + r46)).toNat e52)) (a := e57) (e57 : (List UInt8)) ty23 rfl rfl nd (j := 0) rfl (fun _ => he57) rfl rfl rfl)) rfl rfl ?_
        refine DR0 (gc := true) rfl (vok_p (C := cx) (p_ldR (v := Enc.v (x16 : Int)) ty3 rfl rfl rfl rfl rfl rfl)) rfl rfl ?_
        obtain ⟨e58, he58, hX⟩ := bind_some hX
        refine DR0 (gc := true) rfl (vok_p (C := cx) (p_iaL (xs := e57) kd23 ty5 rfl rfl rfl (fun _ => he58))) rfl rfl ?_
        refine DR0 (gc := true) rfl (vok_p (C := cx) (p_ldE (xs := e57) (a := e58) (e58 : UInt8) ty5 rfl rfl (fun _ => he58) rfl rfl rfl)) rfl rfl ?_
        obtain ⟨r59, hr59, hX⟩ := bind_some hX
        refine DR0 (gc := true) rfl (vok_c rfl (fun _ => ⟨rfl, ⟨rfl, trivial⟩⟩) (fun e => ok_gf_Inv e58 _ hr59)) rfl rfl ?_
        obtain ⟨r60, hr60, hX⟩ := bind_some hX
        refine DR0 (gc := true) rfl (vok_c rfl (fun _ => ⟨rfl, ⟨rfl, ⟨rfl, trivial⟩⟩⟩) (fun e => ok_matrix_scaled e56 r59 _ hr60)) rfl rfl ?_
        obtain ⟨e61, he61, hX⟩ := bind_some hX
        refine DR1 (gc := true) rfl (vok_p (C := cx) (p_iaO (xs := ((l15.set x16.toNat e51).set (wr (x16 + r46)).toNat e52)) kd22 ty23 rfl rfl rfl nd (j := 0) rfl (fun _ => he61))) rfl rfl ?_
        refine DR2n rfl ?_
        refine TL.stW (C := cx) (xs := ((l15.set x16.toNat e51).set (wr (x16 + r46)).toNat e52)) (i := x16) (lu := Enc.cl (r60 : (List UInt8))) (a' := r60) nd ty23 rfl (j := 0) rfl (by simp [Enc.sz]) (inb_of he61 (by simp)) rfl (Cells_v (r60 : (List UInt8))) rfl (WkL_refl _) fun nd => ?_
        refine TL.nil ⟨.nilp, [(b14, RL (α := (List UInt8)) 23 (((l15.set x16.toNat e51).set (wr (x16 + r46)).toNat e52).set x16.toNat r60))], rfl, rfl, HSub_app nd, ?_⟩
        refine DRend ?_
        refine hKD _ _ ?_
        refine TL.cv 4 (OL (α := (List UInt8)) b14 (((l15.set x16.toNat e51).set (wr (x16 + r46)).toNat e52).set x16.toNat r60)) rfl (Wk_eq (OL_len (by simp))) ?_
        refine TL.nil ?_
        refine hK55 _ _ ?_
        refine TK.seq_k fun K62 hK62 => ?_
        refine TK.reg ?_
        refine TL.p (C := cx) (gc := true) (p_mv rfl) rfl rfl ?_
        refine TL.p (C := cx) (gc := true) (p_lenR kd22 rfl (fun _ => refOK_of nd (j := 0) rfl rfl)) rfl rfl ?_
        refine TL.p (C := cx) (gc := true) (p_mv rfl) rfl rfl ?_
        refine TL.nil ?_
        refine hK62 _ _ ?_
        refine TK.block ?_
        obtain ⟨o63, hO63, hA63⟩ := bind_some hX
        have E63 : ∀ (l68 : List (List UInt8)) (env : Env) (h : Hp), (∃ b67, keepE [0, 4, 26, 27] env = [(0, true, Enc.v (m1 : (List (List UInt8)))), (4, true, OL (α := (List UInt8)) b67 l68), (26, true, Enc.v ((r9.length : Int) : Int)), (27, true, Enc.v (x16 : Int))] ∧ Nd [(b67, RL (α := (List UInt8)) 23 l68)] ∧ HSub [(b67, RL (α := (List UInt8)) 23 l68)] h) → X.matrix_Inverse_e63 x16 l68 = some x13x → K41 env h := by
          intro l68 env h hE hX
          obtain ⟨b67, henv, nd, hs⟩ := hE
          unfold X.matrix_Inverse_e63 at hX
          refine hK41 _ _ (TK.keep [0, 4, 26, 27] ?_)
          rw [henv]
          refine TK.subH hs ?_
          refine TK.reg ?_
          refine TL.p (C := cx) (gc := true) (p_add rfl rfl) rfl rfl ?_
          refine TL.p (C := cx) (gc := true) (p_mv rfl) rfl rfl ?_
          refine TL.nil ?_
          exact ⟨_, (some_in hX).symm, b67, rfl, (Nd.pick nd (is := [0]) (by decide)), (HSub.pick nd (is := [0]) (by decide))⟩
        refine TK.iter [0, 4, 5, 26, 27, 72, 73] (fun s env h => match s with | (l65, x66) => ∃ b64, env = [(0, true, Enc.v (m1 : (List (List UInt8)))), (4, true, OL (α := (List UInt8)) b64 l65), (5, true, .vref (ofL [Enc.v (x16 : Int)]) 1 0), (26, true, Enc.v ((r9.length : Int) : Int)), (27, true, Enc.v (x16 : Int)), (72, true, Enc.v (((((l15.set x16.toNat e51).set (wr (x16 + r46)).toNat e52).set x16.toNat r60).length : Int) : Int)), (73, true, Enc.v (x66 : Int))] ∧ Nd [(b64, RL (α := (List UInt8)) 23 l65)] ∧ HSub [(b64, RL (α := (List UInt8)) 23 l65)] h) hO63 ⟨b14, rfl, (Nd.pick nd (is := [0]) (by decide)), (HSub.pick nd (is := [0]) (by decide))⟩ ?_
        rintro ⟨l65, x66⟩ env h x63x ⟨b64, rfl, nd, hs⟩ hX hR63
        refine TK.subH hs ?_
        unfold X.matrix_Inverse_s63 at hX
        try dsimp only at hX
        refine TK.seq_k fun K69 hK69 => ?_
        refine TK.reg ?_
        refine TL.p (C := cx) (gc := true) (p_lss rfl rfl) rfl rfl ?_
        refine TL.nil ?_
        refine hK69 _ _ ?_
        refine TK.seq_k fun K70 hK70 => ?_
        refine TK.cond (b := (decide (x66 < ((((l15.set x16.toNat e51).set (wr (x16 + r46)).toNat e52).set x16.toNat r60).length : Int)))) rfl (fun hc => ?_) (fun hc => ?_)
        · have hX := ite_t hc hX
          refine TK.skip ?_
          refine hK70 _ _ ?_
          refine TK.seq_k fun K71 hK71 => ?_
          refine TK.block ?_
          refine TK.seq_k fun K72 hK72 => ?_
          refine TK.reg ?_
          refine TL.p (C := cx) (gc := true) (p_mv rfl) rfl rfl ?_
          refine TL.p (C := cx) (gc := true) (p_mv rfl) rfl rfl ?_
          refine TL.nil ?_
          refine hK72 _ _ ?_
          refine TK.seq_k fun K73 hK73 => ?_
          have ndS : Nd [(b64, RL (α := (List UInt8)) 23 l65)] := Nd.pick nd (is := [0]) (by decide)
          refine TK.drwX (h := []) (hS := [(b64, RL (α := (List UInt8)) 23 l65)]) [(0, 0), (0, 1), (0, 2), (0, 3), (0, 4), (0, 5), (0, 6), (0, 7), (0, 8), (0, 9), (0, 10), (0, 11), (0, 12)] mixed (by kernel_rfl) (HSub_app nd) ?_
          refine DR0 (gc := true) rfl (vok_p (C := cx) (p_mv rfl)) rfl rfl ?_
          refine DR0 (gc := true) rfl (vok_p (C := cx) (p_ldR (v := Enc.v (x16 : Int)) ty3 rfl rfl rfl rfl rfl rfl)) rfl rfl ?_
          refine DR0 (gc := true) rfl (vok_p (C := cx) (p_neq rfl rfl)) rfl rfl ?_
          refine DR0 (gc := true) rfl (vok_p (C := cx) (p_mv rfl)) rfl rfl ?_
          refine DR0 (gc := ((x66 != x16))) rfl (vok_p (C := cx) (p_mv rfl (hg := fun e => rfl))) (gcT1 rfl) rfl ?_
          refine DR0 (gc := ((x66 != x16))) rfl (vok_p (C := cx) (p_mv rfl (hg := fun e => rfl))) (gcT1 rfl) rfl ?_
          obtain ⟨e74, he74, hX⟩ := bind_some hX
          refine DR0 (gc := ((x66 != x16))) rfl (vok_p (C := cx) (p_iaO (xs := l65) kd22 ty23 rfl rfl rfl ndS (j := 0) rfl (fun e => optG_t he74 e) (hg := fun e => ⟨e, e⟩))) (gcT1 rfl) rfl ?_
          refine DR0 (gc := ((x66 != x16))) rfl (vok_p (C := cx) (p_ldO (xs := l65) (a := e74) (e74 : (List UInt8)) ty23 rfl rfl ndS (j := 0) rfl (fun e => optG_t he74 e) rfl rfl rfl (hg := fun e => e))) (gcT1 rfl) rfl ?_
          refine DR0 (gc := ((x66 != x16))) rfl (vok_p (C := cx) (p_ldR (v := Enc.v (x16 : Int)) ty3 rfl rfl rfl rfl rfl rfl (hg := fun e => rfl))) (gcT1 rfl) rfl ?_
          obtain ⟨e75, he75, hX⟩ := bind_some hX
          refine DR0 (gc := ((x66 != x16))) rfl (vok_p (C := cx) (p_iaL (xs := e74) kd23 ty5 rfl rfl rfl (fun e => optG_t he75 e) (hg := fun e => ⟨e, e⟩))) (gcT1 rfl) rfl ?_
          refine DR0 (gc := ((x66 != x16))) rfl (vok_p (C := cx) (p_ldE (xs := e74) (a := e75) (e75 : UInt8) ty5 rfl rfl (fun e => optG_t he75 e) rfl rfl rfl (hg := fun e => e))) (gcT1 rfl) rfl ?_
          refine DR0 (gc := ((x66 != x16))) rfl (vok_p (C := cx) (p8_neq (a := e75) (b := (0 : UInt8)) rfl rfl (hg := fun e => ⟨e, rfl⟩))) (gcT1 rfl) rfl ?_
          refine DR0 (gc := true) rfl (vok_p (C := cx) (p_and rfl rfl (fun e => ⟨rfl, fun h => h⟩))) rfl rfl ?_
          refine DRend ?_
          refine hK73 _ _ ?_
          refine TK.cond (b := ((x66 != x16) && (e75 != (0 : UInt8)))) rfl (fun hc => ?_) (fun hc => ?_)
          · have hX := ite_t hc hX
            have ndS : Nd [] := Nd.pick nd (is := []) (by decide)
            refine TK.endK fun KD hKD => ?_
            refine TK.drwX (h := [(b64, RL (α := (List UInt8)) 23 l65)]) (hS := []) [(0, 0), (0, 1), (0, 2), (0, 3), (1, 4), (1, 5), (0, 6), (0, 7), (1, 8), (1, 9), (0, 10), (0, 11), (1, 12), (1, 13), (0, 14), (0, 15), (0, 16), (0, 17), (0, 18), (1, 19), (2, 20)] mixed (by kernel_rfl) (HSub_app nd) ?_
            refine DR0 (gc := true) rfl (vok_p (C := cx) (p_mv rfl)) rfl rfl ?_
            refine DR0 (gc := true) rfl (vok_p (C := cx) (p_mv rfl)) rfl rfl ?_
            refine DR0 (gc := true) rfl (vok_p (C := cx) (p_mv rfl)) rfl rfl ?_
            refine DR0 (gc := true) rfl (vok_p (C := cx) (p_mv rfl)) rfl rfl ?_
            obtain ⟨e76, he76, hX⟩ := bind_some hX
            refine DR1 (gc := true) rfl (vok_p (C := cx) (p_iaO (xs := l65) kd22 ty23 rfl rfl rfl nd (j := 0) rfl (fun _ => he76))) rfl rfl ?_
            refine DR1 (gc := true) rfl (vok_p (C := cx) (p_ldO (xs := l65) (a := e76) (e76 : (List UInt8)) ty23 rfl rfl nd (j := 0) rfl (fun _ => he76) rfl rfl rfl)) rfl rfl ?_
            refine DR0 (gc := true) rfl (vok_p (C := cx) (p_mv rfl)) rfl rfl ?_
            refine DR0 (gc := true) rfl (vok_p (C := cx) (p_ldR (v := Enc.v (x16 : Int)) ty3 rfl rfl rfl rfl rfl rfl)) rfl rfl ?_
            obtain ⟨e77, he77, hX⟩ := bind_some hX
            refine DR1 (gc := true) rfl (vok_p (C := cx) (p_iaO (xs := l65) kd22 ty23 rfl rfl rfl nd (j := 0) rfl (fun _ => he77))) rfl rfl ?_
            refine DR1 (gc := true) rfl (vok_p (C := cx) (p_ldO (xs := l65) (a := e77) (e77 : (List UInt8)) ty23 rfl rfl nd (j := 0) rfl (fun _ => he77) rfl rfl rfl)) rfl rfl ?_
            refine DR0 (gc := true) rfl (vok_p (C := cx) (p_mv rfl)) rfl rfl ?_
            refine DR0 (gc := true) rfl (vok_p (C := cx) (p_mv rfl)) rfl rfl ?_
            obtain ⟨e78, he78, hX⟩ := bind_some hX
            refine DR1 (gc := true) rfl (vok_p (C := cx) (p_iaO (xs := l65) kd22 ty23 rfl rfl rfl nd (j := 0) rfl (fun _ => he78))) rfl rfl ?_
            refine DR1 (gc := true) rfl (vok_p (C := cx) (p_ldO (xs := l65) (a := e78) (e78 : (List UInt8)) ty23 rfl rfl nd (j := 0) rfl (fun _ => he78) rfl rfl rfl)) rfl rfl ?_
            refine DR0 (gc := true) rfl (vok_p (C := cx) (p_ldR (v := Enc.v (x16 : Int)) ty3 rfl rfl rfl rfl rfl rfl)) rfl rfl ?_
            obtain ⟨e79, he79, hX⟩ := bind_some hX
            refine DR0 (gc := true) rfl (vok_p (C := cx) (p_iaL (xs := e78) kd23 ty5 rfl rfl rfl (fun _ => he79))) rfl rfl ?_
            refine DR0 (gc := true) rfl (vok_p (C := cx) (p_ldE (xs := e78) (a := e79) (e79 : UInt8) ty5 rfl rfl (fun _ => he79) rfl rfl rfl)) rfl rfl ?_
            obtain ⟨r80, hr80, hX⟩ := bind_some hX
            refine DR0 (gc := true) rfl (vok_c rfl (fun _ => ⟨rfl, ⟨rfl, ⟨rfl, trivial⟩⟩⟩) (fun e => ok_matrix_scaled e77 e79 _ hr80)) rfl rfl ?_
            obtain ⟨r81, hr81, hX⟩ := bind_some hX
            refine DR0 (gc := true) rfl (vok_c rfl (fun _ => ⟨rfl, ⟨rfl, ⟨rfl, trivial⟩⟩⟩) (fun e => ok_matrix_sum e76 r80 _ hr81)) rfl rfl ?_
            obtain ⟨e82, he82, hX⟩ := bind_some hX
            refine DR1 (gc := true) rfl (vok_p (C := cx) (p_iaO (xs := l65) kd22 ty23 rfl rfl rfl nd (j := 0) rfl (fun _ => he82))) rfl rfl ?_
            refine DR2n rfl ?_
            refine TL.stW (C := cx) (xs := l65) (i := x66) (lu := Enc.cl (r81 : (List UInt8))) (a' := r81) nd ty23 rfl (j := 0) rfl (by simp [Enc.sz]) (inb_of he82 (by simp)) rfl (Cells_v (r81 : (List UInt8))) rfl (WkL_refl _) fun nd => ?_
            refine TL.nil ⟨.nilp, [(b64, RL (α := (List UInt8)) 23 (l65.set x66.toNat r81))], rfl, rfl, HSub_app nd, ?_⟩
            refine DRend ?_
            refine hKD _ _ ?_
            refine TL.cv 4 (OL (α := (List UInt8)) b64 (l65.set x66.toNat r81)) rfl (Wk_eq (OL_len (by simp))) ?_
            refine TL.nil ?_
            refine hK71 _ _ ?_
            refine TK.reg ?_
            refine TL.p (C := cx) (gc := true) (p_add rfl rfl) rfl rfl ?_
            refine TL.p (C := cx) (gc := true) (p_mv rfl) rfl rfl ?_
            refine TL.nil ?_
            exact ⟨_, (some_in hX).symm, b64, rfl, (Nd.pick nd (is := [0]) (by decide)), (HSub.pick nd (is := [0]) (by decide))⟩
          · have hX := ite_f hc hX
            refine TK.skip ?_
            refine hK71 _ _ ?_
            refine TK.reg ?_
            refine TL.p (C := cx) (gc := true) (p_add rfl rfl) rfl rfl ?_
            refine TL.p (C := cx) (gc := true) (p_mv rfl) rfl rfl ?_
            refine TL.nil ?_
            exact ⟨_, (some_in hX).symm, b64, rfl, (Nd.pick nd (is := [0]) (by decide)), (HSub.pick nd (is := [0]) (by decide))⟩
        · have hX := ite_f hc hX
          refine TK.exit ?_
          obtain rfl := hR63 _ (some_in hX).symm
          exact E63 l65 _ _ ⟨b64, rfl, (Nd.pick nd (is := [0]) (by decide)), (HSub.pick nd (is := [0]) (by decide))⟩ hA63
    · have hX := ite_f hc hX
      refine TK.exit ?_
      obtain rfl := hR13 _ (some_in hX).symm
      exact E13 l15 _ _ ⟨b14, rfl, (Nd.pick nd (is := [0]) (by decide)), (HSub.pick nd (is := [0]) (by decide))⟩ hA13

/-- cartridge/erasure.Decode -/
theorem ok_erasure_Decode (have1 : (List (List UInt8))) (data2 : Int) (r : ((List (List UInt8)) × Int)) (hX : X.erasure_Decode have1 data2 = some r) : Fun Try.prog 57 [Enc.v (have1 : (List (List UInt8))), Enc.v (data2 : Int)] (· = .tup 2 (ofL [Enc.v r.1, Enc.v r.2])) := by
  refine Fun.of b57 (Nat.le_of_ble_eq_true rfl) (allVal.mem ⟨(by exact (v_val _)), (by exact (v_val _)), trivial⟩) ?_
  unfold k57
  have nd : Nd [] := Nd_nil
  unfold X.erasure_Decode at hX
  refine TK.seq_k fun K3 hK3 => ?_
  refine TK.reg ?_
  refine TL.p (C := cx) (gc := true) (p_mv rfl) rfl rfl ?_
  refine TL.p (C := cx) (gc := true) (p_mv rfl) rfl rfl ?_
  refine TL.nil ?_
  refine hK3 _ _ ?_
  refine TK.seq_k fun K4 hK4 => ?_
  refine TK.reg ?_
  refine TL.p (C := cx) (gc := true) (p_mv rfl) rfl rfl ?_
  refine TL.nil ?_
  refine hK4 _ _ ?_
  refine TK.ownL (α := (List UInt8)) 6 23 nd rfl (.inl rfl) fun b5 nd => ?_
  refine TK.seq_k fun K6 hK6 => ?_
  refine TK.seq_k fun K7 hK7 => ?_
  refine TK.reg ?_
  refine TL.p (C := cx) (gc := true) (p_mv rfl) rfl rfl ?_
  refine TL.p (C := cx) (gc := true) (p_lenL (xs := have1) kd22 rfl) rfl rfl ?_
  refine TL.p (C := cx) (gc := true) (p_mv rfl) rfl rfl ?_
  refine TL.nil ?_
  refine hK7 _ _ ?_
  refine TK.block ?_
  obtain ⟨o8, hO8, hA8⟩ := bind_some hX
  have E8 : ∀ (l13 : List (List UInt8)) (env : Env) (h : Hp), (∃ b12, keepE [0, 1, 6] env = [(0, true, Enc.v (have1 : (List (List UInt8)))), (1, true, Enc.v (data2 : Int)), (6, true, OL (α := (List UInt8)) b12 l13)] ∧ Nd [(b12, RL (α := (List UInt8)) 23 l13)] ∧ HSub [(b12, RL (α := (List UInt8)) 23 l13)] h) → X.erasure_Decode_e8 data2 have1 l13 = some r → K6 env h := by
    intro l13 env h hE hX
    obtain ⟨b12, henv, nd, hs⟩ := hE
    unfold X.erasure_Decode_e8 at hX
    refine hK6 _ _ (TK.keep [0, 1, 6] ?_)
    rw [henv]
    refine TK.subH hs ?_
    refine TK.seq_k fun K14 hK14 => ?_
    refine TK.block ?_
    refine TK.seq_k fun K15 hK15 => ?_
    refine TK.reg ?_
    refine TL.p (C := cx) (gc := true) (p_mv rfl) rfl rfl ?_
    refine TL.p (C := cx) (gc := true) (p_lss rfl rfl) rfl rfl ?_
    refine TL.p (C := cx) (gc := true) (p_mv rfl) rfl rfl ?_
    refine TL.p (C := cx) (gc := (!((decide (data2 < (1 : Int)))))) (p_mv rfl (hg := fun e => rfl)) (gcF1 rfl) rfl ?_
    refine TL.p (C := cx) (gc := (!((decide (data2 < (1 : Int)))))) (p_mv rfl (hg := fun e => rfl)) (gcF1 rfl) rfl ?_
    refine TL.p (C := cx) (gc := (!((decide (data2 < (1 : Int)))))) (p_lenL (xs := have1) kd22 rfl (hg := fun e => e)) (gcF1 rfl) rfl ?_
    refine TL.p (C := cx) (gc := (!((decide (data2 < (1 : Int)))))) (p_gtr rfl rfl (hg := fun e => ⟨e, e⟩)) (gcF1 rfl) rfl ?_
    refine TL.p (C := cx) (gc := true) (p_or rfl rfl (fun e => ⟨rfl, fun h => (not_t h)⟩)) rfl rfl ?_
    refine TL.p (C := cx) (gc := true) (p_mv rfl) rfl rfl ?_
    refine TL.p (C := cx) (gc := (!(((decide (data2 < (1 : Int))) || (decide (data2 > (have1.length : Int))))))) (p_mv rfl (hg := fun e => rfl)) (gcF1 rfl) rfl ?_
    refine TL.p (C := cx) (gc := (!(((decide (data2 < (1 : Int))) || (decide (data2 > (have1.length : Int))))))) (p_lenL (xs := have1) kd22 rfl (hg := fun e => e)) (gcF1 rfl) rfl ?_
    refine TL.p (C := cx) (gc := (!(((decide (data2 < (1 : Int))) || (decide (data2 > (have1.length : Int))))))) (p_gtr rfl rfl (hg := fun e => ⟨e, rfl⟩)) (gcF1 rfl) rfl ?_
    refine TL.p (C := cx) (gc := true) (p_or rfl rfl (fun e => ⟨rfl, fun h => (not_t h)⟩)) rfl rfl ?_
    refine TL.p (C := cx) (gc := true) (p_mv rfl) rfl rfl ?_
    refine TL.p (C := cx) (gc := (!((((decide (data2 < (1 : Int))) || (decide (data2 > (have1.length : Int)))) || (decide ((have1.length : Int) > (255 : Int))))))) (p_mv rfl (hg := fun e => rfl)) (gcF1 rfl) rfl ?_
    refine TL.p (C := cx) (gc := (!((((decide (data2 < (1 : Int))) || (decide (data2 > (have1.length : Int)))) || (decide ((have1.length : Int) > (255 : Int))))))) (p_lenR kd22 rfl (fun _ => refOK_of nd (j := 0) rfl rfl) (hg := fun e => e)) (gcF1 rfl) rfl ?_
    refine TL.p (C := cx) (gc := (!((((decide (data2 < (1 : Int))) || (decide (data2 > (have1.length : Int)))) || (decide ((have1.length : Int) > (255 : Int))))))) (p_eql rfl rfl (hg := fun e => ⟨e, rfl⟩)) (gcF1 rfl) rfl ?_
    refine TL.p (C := cx) (gc := true) (p_or rfl rfl (fun e => ⟨rfl, fun h => (not_t h)⟩)) rfl rfl ?_
    refine TL.p (C := cx) (gc := true) (p_mv rfl) rfl rfl ?_
    refine TL.p (C := cx) (gc := (!(((((decide (data2 < (1 : Int))) || (decide (data2 > (have1.length : Int)))) || (decide ((have1.length : Int) > (255 : Int)))) || ((l13.length : Int) == (0 : Int)))))) (p_mv rfl (hg := fun e => rfl)) (gcF1 rfl) rfl ?_
    obtain ⟨r16, hr16, hX⟩ := bind_some hX
    refine TL.lookX [L l13] (gcF1 rfl) rfl rfl (fun e => ⟨rfl, ⟨e, trivial⟩⟩) ⟨look_OL nd (j := 0) rfl, trivial⟩ (fun e => ok_erasure_alike l13 _ (optG_t hr16 e)) (trivial) ?_
    refine TL.p (C := cx) (gc := (!(((((decide (data2 < (1 : Int))) || (decide (data2 > (have1.length : Int)))) || (decide ((have1.length : Int) > (255 : Int)))) || ((l13.length : Int) == (0 : Int)))))) (p_not rfl (hg := fun e => e)) (gcF1 rfl) rfl ?_
    refine TL.p (C := cx) (gc := true) (p_or rfl rfl (fun e => ⟨rfl, fun h => (not_t h)⟩)) rfl rfl ?_
    refine TL.p (C := cx) (gc := true) (p_mv rfl) rfl rfl ?_
    refine TL.nil ?_
    refine hK15 _ _ ?_
    refine TK.cond (b := (((((decide (data2 < (1 : Int))) || (decide (data2 > (have1.length : Int)))) || (decide ((have1.length : Int) > (255 : Int)))) || ((l13.length : Int) == (0 : Int))) || (!r16))) rfl (fun hc => ?_) (fun hc => ?_)
    · have hX := ite_t hc hX
      refine TK.seq_k fun K17 hK17 => ?_
      refine TK.reg ?_
      refine TL.p (C := cx) (gc := true) (p_mv rfl) rfl rfl ?_
      refine TL.p (C := cx) (gc := true) (p_mv rfl) rfl rfl ?_
      refine TL.nil ?_
      refine hK17 _ _ ?_
      refine TK.wk 4 (L ([] : (List (List UInt8)))) rfl Wk_nil ?_
      refine TK.ret ?_
      try dsimp only [thenQ]
      exact retN (vs := [Enc.v (([] : (List (List UInt8))) : (List (List UInt8))), Enc.v ((1 : Int) : Int)]) ⟨rfl, rfl, trivial⟩ (by obtain rfl := some_in hX; rfl) (allVal.mem ⟨v_val _, v_val _, trivial⟩)
    · have hX := ite_f hc hX
      refine TK.seq_k fun K18 hK18 => ?_
      refine TK.reg ?_
      refine TL.p (C := cx) (gc := true) (p_mv rfl) rfl rfl ?_
      refine TL.p (C := cx) (gc := true) (p_lenR kd22 rfl (fun _ => refOK_of nd (j := 0) rfl rfl)) rfl rfl ?_
      refine TL.p (C := cx) (gc := true) (p_mv rfl) rfl rfl ?_
      refine TL.p (C := cx) (gc := true) (p_lss rfl rfl) rfl rfl ?_
      refine TL.p (C := cx) (gc := true) (p_mv rfl) rfl rfl ?_
      refine TL.nil ?_
      refine hK18 _ _ ?_
      refine TK.cond (b := (decide ((l13.length : Int) < data2))) rfl (fun hc => ?_) (fun hc => ?_)
      · have hX := ite_t hc hX
        refine TK.seq_k fun K19 hK19 => ?_
        refine TK.reg ?_
        refine TL.p (C := cx) (gc := true) (p_mv rfl) rfl rfl ?_
        refine TL.p (C := cx) (gc := true) (p_mv rfl) rfl rfl ?_
        refine TL.nil ?_
        refine hK19 _ _ ?_
        refine TK.wk 4 (L ([] : (List (List UInt8)))) rfl Wk_nil ?_
        refine TK.ret ?_
        try dsimp only [thenQ]
        exact retN (vs := [Enc.v (([] : (List (List UInt8))) : (List (List UInt8))), Enc.v ((10 : Int) : Int)]) ⟨rfl, rfl, trivial⟩ (by obtain rfl := some_in hX; rfl) (allVal.mem ⟨v_val _, v_val _, trivial⟩)
      · have hX := ite_f hc hX
        refine TK.skip ?_
        refine hK14 _ _ ?_
        refine TK.seq_k fun K20 hK20 => ?_
        refine TK.reg ?_
        refine TL.p (C := cx) (gc := true) (p_mv rfl) rfl rfl ?_
        refine TL.nil ?_
        refine hK20 _ _ ?_
        refine TK.ownL (α := (List UInt8)) 9 23 nd rfl (.inl rfl) fun b21 nd => ?_
        refine TK.seq_k fun K22 hK22 => ?_
        refine TK.seq_k fun K23 hK23 => ?_
        refine TK.reg ?_
        refine TL.p (C := cx) (gc := true) (p_mv rfl) rfl rfl ?_
        refine TL.p (C := cx) (gc := true) (p_mv rfl) rfl rfl ?_
        refine TL.p (C := cx) (gc := true) (p_lenL (xs := have1) kd22 rfl) rfl rfl ?_
        obtain ⟨r24, hr24, hX⟩ := bind_some hX
        refine TL.cvX rfl rfl rfl (fun _ => ⟨rfl, ⟨rfl, ⟨rfl, trivial⟩⟩⟩) (fun e => ok_erasure_rows data2 (have1.length : Int) _ hr24) ?_
        refine TL.p (C := cx) (gc := true) (p_lenL (xs := r24) kd22 rfl) rfl rfl ?_
        refine TL.p (C := cx) (gc := true) (p_mv rfl) rfl rfl ?_
        refine TL.nil ?_
        refine hK23 _ _ ?_
        refine TK.block ?_
        obtain ⟨o25, hO25, hA25⟩ := bind_some hX
        have E25 : ∀ (l32 : List (List UInt8)) (env : Env) (h : Hp), (∃ b30 b31, keepE [1, 6, 9] env = [(1, true, Enc.v (data2 : Int)), (6, true, OL (α := (List UInt8)) b30 l13), (9, true, OL (α := (List UInt8)) b31 l32)] ∧ Nd [(b30, RL (α := (List UInt8)) 23 l13), (b31, RL (α := (List UInt8)) 23 l32)] ∧ HSub [(b30, RL (α := (List UInt8)) 23 l13), (b31, RL (α := (List UInt8)) 23 l32)] h) → X.erasure_Decode_e25 data2 l13 l32 = some r → K22 env h := by
          intro l32 env h hE hX
          obtain ⟨b30, b31, henv, nd, hs⟩ := hE
          unfold X.erasure_Decode_e25 at hX
          refine hK22 _ _ (TK.keep [1, 6, 9] ?_)
          rw [henv]
          refine TK.subH hs ?_
          refine TK.seq_k fun K33 hK33 => ?_
          refine TK.reg ?_
          refine TL.p (C := cx) (gc := true) (p_mv rfl) rfl rfl ?_
          refine TL.lay [(85, L l32)] nd (j := 1) rfl ⟨⟨_, rfl, fix_OL nd (j := 1) rfl, rfl⟩, trivial⟩ fun nd => ?_
          obtain ⟨r34, hr34, hX⟩ := bind_some hX
          refine TL.cvX rfl rfl rfl (fun _ => ⟨rfl, ⟨rfl, trivial⟩⟩) (fun e => ok_matrix_Inverse l32 _ hr34) ?_
          refine TL.p (C := cx) (gc := true) (p_mv rfl) rfl rfl ?_
          refine TL.p (C := cx) (gc := true) (p_ex rfl rfl (by decide)) rfl rfl ?_
          refine TL.p (C := cx) (gc := true) (p_ex rfl rfl (by decide)) rfl rfl ?_
          refine TL.p (C := cx) (gc := true) (p_mv rfl) rfl rfl ?_
          refine TL.p (C := cx) (gc := true) (p_mv rfl) rfl rfl ?_
          refine TL.nil ?_
          refine hK33 _ _ ?_
          refine TK.seq_k fun K35 hK35 => ?_
          refine TK.seq_k fun K36 hK36 => ?_
          refine TK.reg ?_
          refine TL.p (C := cx) (gc := true) (p_mv rfl) rfl rfl ?_
          refine TL.p (C := cx) (gc := true) (p_neq rfl rfl) rfl rfl ?_
          refine TL.nil ?_
          refine hK36 _ _ ?_
          refine TK.cond (b := (r34.2 != (0 : Int))) rfl (fun hc => ?_) (fun hc => ?_)
          · have hX := ite_t hc hX
            refine TK.seq_k fun K37 hK37 => ?_
            refine TK.reg ?_
            refine TL.p (C := cx) (gc := true) (p_mv rfl) rfl rfl ?_
            refine TL.p (C := cx) (gc := true) (p_mv rfl) rfl rfl ?_
            refine TL.p (C := cx) (gc := true) (p_mv rfl) rfl rfl ?_
            refine TL.nil ?_
            refine hK37 _ _ ?_
            refine TK.wk 4 (L ([] : (List (List UInt8)))) rfl Wk_nil ?_
            refine TK.ret ?_
            try dsimp only [thenQ]
            exact retN (vs := [Enc.v (([] : (List (List UInt8))) : (List (List UInt8))), Enc.v (r34.2 : Int)]) ⟨rfl, rfl, trivial⟩ (by obtain rfl := some_in hX; rfl) (allVal.mem ⟨v_val _, v_val _, trivial⟩)
          · have hX := ite_f hc hX
            refine TK.skip ?_
            refine hK35 _ _ ?_
            refine TK.seq_k fun K38 hK38 => ?_
            refine TK.reg ?_
            refine TL.p (C := cx) (gc := true) (p_mv rfl) rfl rfl ?_
            refine TL.p (C := cx) (gc := true) (p_mv rfl) rfl rfl ?_
            refine TL.p (C := cx) (gc := true) (p_mv rfl) rfl rfl ?_
            obtain ⟨u39, hu39, hX⟩ := bind_some hX
            refine TL.p (C := cx) (gc := true) (p_sliO (xs := l13) (l := (0 : Int)) (k := data2) kd22 ty23 rfl rfl nd (j := 0) rfl rfl rfl (fun e => need_t hu39)) rfl rfl ?_
            refine TL.lay [(95, L (slc l13 (0 : Int) data2))] nd (j := 0) rfl ⟨⟨_, rfl, fix_OS nd (j := 0) rfl (need_t hu39).1, rfl⟩, trivial⟩ fun nd => ?_
            obtain ⟨r40, hr40, hX⟩ := bind_some hX
            refine TL.cvX rfl rfl rfl (fun _ => ⟨rfl, ⟨rfl, ⟨rfl, trivial⟩⟩⟩) (fun e => ok_erasure_reckon r34.1 (slc l13 (0 : Int) data2) _ hr40) ?_
            refine TL.p (C := cx) (gc := true) (p_mv rfl) rfl rfl ?_
            refine TL.p (C := cx) (gc := true) (p_mv rfl) rfl rfl ?_
            refine TL.nil ?_
            refine hK38 _ _ ?_
            refine TK.ret ?_
            try dsimp only [thenQ]
            exact retN (vs := [Enc.v (r40 : (List (List UInt8))), Enc.v ((0 : Int) : Int)]) ⟨rfl, rfl, trivial⟩ (by obtain rfl := some_in hX; rfl) (allVal.mem ⟨v_val _, v_val _, trivial⟩)
        refine TK.iter [0, 1, 6, 9, 60, 61, 62] (fun s env h => match s with | (m28, x29) => ∃ b26 b27, env = [(0, true, Enc.v (have1 : (List (List UInt8)))), (1, true, Enc.v (data2 : Int)), (6, true, OL (α := (List UInt8)) b26 l13), (9, true, OL (α := (List UInt8)) b27 m28), (60, true, Enc.v (r24 : (List (List UInt8)))), (61, true, Enc.v ((r24.length : Int) : Int)), (62, true, Enc.v (x29 : Int))] ∧ Nd [(b26, RL (α := (List UInt8)) 23 l13), (b27, RL (α := (List UInt8)) 23 m28)] ∧ HSub [(b26, RL (α := (List UInt8)) 23 l13), (b27, RL (α := (List UInt8)) 23 m28)] h) hO25 ⟨b12, b21, rfl, (Nd.pick nd (is := [1, 0]) (by decide)), (HSub.pick nd (is := [1, 0]) (by decide))⟩ ?_
        rintro ⟨m28, x29⟩ env h x25x ⟨b26, b27, rfl, nd, hs⟩ hX hR25
        refine TK.subH hs ?_
        unfold X.erasure_Decode_s25 at hX
        try dsimp only at hX
        refine TK.seq_k fun K41 hK41 => ?_
        refine TK.reg ?_
        refine TL.p (C := cx) (gc := true) (p_lss rfl rfl) rfl rfl ?_
        refine TL.nil ?_
        refine hK41 _ _ ?_
        refine TK.seq_k fun K42 hK42 => ?_
        refine TK.cond (b := (decide (x29 < (r24.length : Int)))) rfl (fun hc => ?_) (fun hc => ?_)
        · have hX := ite_t hc hX
          refine TK.skip ?_
          refine hK42 _ _ ?_
          refine TK.seq_k fun K43 hK43 => ?_
          refine TK.block ?_
          refine TK.seq_k fun K44 hK44 => ?_
          refine TK.reg ?_
          refine TL.p (C := cx) (gc := true) (p_mv rfl) rfl rfl ?_
          obtain ⟨e45, he45, hX⟩ := bind_some hX
          refine TL.p (C := cx) (gc := true) (p_iaL (xs := r24) kd22 ty23 rfl rfl rfl (fun _ => he45)) rfl rfl ?_
          refine TL.p (C := cx) (gc := true) (p_ldE (xs := r24) (a := e45) (e45 : (List UInt8)) ty23 rfl rfl (fun _ => he45) rfl rfl rfl) rfl rfl ?_
          refine TL.p (C := cx) (gc := true) (p_mv rfl) rfl rfl ?_
          refine TL.p (C := cx) (gc := true) (p_mv rfl) rfl rfl ?_
          refine TL.nil ?_
          refine hK44 _ _ ?_
          refine TK.seq_k fun K46 hK46 => ?_
          refine TK.reg ?_
          refine TL.p (C := cx) (gc := true) (p_mv rfl) rfl rfl ?_
          refine TL.p (C := cx) (gc := true) (p_mv rfl) rfl rfl ?_
          obtain ⟨e47, he47, hX⟩ := bind_some hX
          refine TL.p (C := cx) (gc := true) (p_iaL (xs := have1) kd22 ty23 rfl rfl rfl (fun _ => he47)) rfl rfl ?_
          refine TL.p (C := cx) (gc := true) (p_ldE (xs := have1) (a := e47) (e47 : (List UInt8)) ty23 rfl rfl (fun _ => he47) rfl rfl rfl) rfl rfl ?_
          refine TL.p (C := cx) (gc := true) (p_lenL (xs := e47) kd23 rfl) rfl rfl ?_
          refine TL.p (C := cx) (gc := true) (p_gtr rfl rfl) rfl rfl ?_
          refine TL.p (C := cx) (gc := true) (p_mv rfl) rfl rfl ?_
          refine TL.p (C := cx) (gc := ((decide ((e47.length : Int) > (0 : Int))))) (p_mv rfl (hg := fun e => rfl)) (gcT1 rfl) rfl ?_
          refine TL.p (C := cx) (gc := ((decide ((e47.length : Int) > (0 : Int))))) (p_lenR kd22 rfl (fun _ => refOK_of nd (j := 1) rfl rfl) (hg := fun e => e)) (gcT1 rfl) rfl ?_
          refine TL.p (C := cx) (gc := ((decide ((e47.length : Int) > (0 : Int))))) (p_mv rfl (hg := fun e => rfl)) (gcT1 rfl) rfl ?_
          refine TL.p (C := cx) (gc := ((decide ((e47.length : Int) > (0 : Int))))) (p_lss rfl rfl (hg := fun e => ⟨e, e⟩)) (gcT1 rfl) rfl ?_
          refine TL.p (C := cx) (gc := true) (p_and rfl rfl (fun e => ⟨rfl, fun h => h⟩)) rfl rfl ?_
          refine TL.nil ?_
          refine hK46 _ _ ?_
          refine TK.cond (b := ((decide ((e47.length : Int) > (0 : Int))) && (decide ((m28.length : Int) < data2)))) rfl (fun hc => ?_) (fun hc => ?_)
          · have hX := ite_t hc hX
            refine TK.reg ?_
            refine TL.p (C := cx) (gc := true) (p_mv rfl) rfl rfl ?_
            refine TL.p (C := cx) (gc := true) (p_mv rfl) rfl rfl ?_
            refine TL.lit (C := cx) ([e45] : List (List UInt8)) kd22 ty23 rfl ⟨⟨rfl, rfl⟩, trivial⟩ rfl rfl rfl ?_
            obtain ⟨u48, hu48, hX⟩ := bind_some hX
            refine TL.appO (C := cx) nd kd22 bo22 ty23 rfl rfl (j := 1) rfl rfl (Src_L _) (by decide) (need_t hu48) rfl fun nd => ?_
            refine TL.p (C := cx) (gc := true) (p_mv rfl) rfl rfl ?_
            refine TL.nil ?_
            refine hK43 _ _ ?_
            refine TK.reg ?_
            refine TL.p (C := cx) (gc := true) (p_add rfl rfl) rfl rfl ?_
            refine TL.p (C := cx) (gc := true) (p_mv rfl) rfl rfl ?_
            refine TL.nil ?_
            exact ⟨_, (some_in hX).symm, b26, b27, rfl, (Nd.pick nd (is := [0, 1]) (by decide)), (HSub.pick nd (is := [0, 1]) (by decide))⟩
          · have hX := ite_f hc hX
            refine TK.skip ?_
            refine hK43 _ _ ?_
            refine TK.reg ?_
            refine TL.p (C := cx) (gc := true) (p_add rfl rfl) rfl rfl ?_
            refine TL.p (C := cx) (gc := true) (p_mv rfl) rfl rfl ?_
            refine TL.nil ?_
            exact ⟨_, (some_in hX).symm, b26, b27, rfl, (Nd.pick nd (is := [0, 1]) (by decide)), (HSub.pick nd (is := [0, 1]) (by decide))⟩
        · have hX := ite_f hc hX
          refine TK.exit ?_
          obtain rfl := hR25 _ (some_in hX).symm
          exact E25 m28 _ _ ⟨b26, b27, rfl, (Nd.pick nd (is := [0, 1]) (by decide)), (HSub.pick nd (is := [0, 1]) (by decide))⟩ hA25
  refine TK.iter [0, 1, 6, 14, 15, 16] (fun s env h => match s with | (there10, x11) => ∃ b9, env = [(0, true, Enc.v (have1 : (List (List UInt8)))), (1, true, Enc.v (data2 : Int)), (6, true, OL (α := (List UInt8)) b9 there10), (14, true, Enc.v (have1 : (List (List UInt8)))), (15, true, Enc.v ((have1.length : Int) : Int)), (16, true, Enc.v (x11 : Int))] ∧ Nd [(b9, RL (α := (List UInt8)) 23 there10)] ∧ HSub [(b9, RL (α := (List UInt8)) 23 there10)] h) hO8 ⟨b5, rfl, (Nd.pick nd (is := [0]) (by decide)), (HSub.pick nd (is := [0]) (by decide))⟩ ?_
  rintro ⟨there10, x11⟩ env h x8x ⟨b9, rfl, nd, hs⟩ hX hR8
  refine TK.subH hs ?_
  unfold X.erasure_Decode_s8 at hX
  try dsimp only at hX
  refine TK.seq_k fun K49 hK49 => ?_
  refine TK.reg ?_
  refine TL.p (C := cx) (gc := true) (p_lss rfl rfl) rfl rfl ?_
  refine TL.nil ?_
  refine hK49 _ _ ?_
  refine TK.seq_k fun K50 hK50 => ?_
  refine TK.cond (b := (decide (x11 < (have1.length : Int)))) rfl (fun hc => ?_) (fun hc => ?_)
  · have hX := ite_t hc hX
    refine TK.skip ?_
    refine hK50 _ _ ?_
    refine TK.seq_k fun K51 hK51 => ?_
    refine TK.block ?_
    refine TK.seq_k fun K52 hK52 => ?_
    refine TK.reg ?_
    obtain ⟨e53, he53, hX⟩ := bind_some hX
    refine TL.p (C := cx) (gc := true) (p_iaL (xs := have1) kd22 ty23 rfl rfl rfl (fun _ => he53)) rfl rfl ?_
    refine TL.p (C := cx) (gc := true) (p_ldE (xs := have1) (a := e53) (e53 : (List UInt8)) ty23 rfl rfl (fun _ => he53) rfl rfl rfl) rfl rfl ?_
    refine TL.p (C := cx) (gc := true) (p_mv rfl) rfl rfl ?_
    refine TL.nil ?_
    refine hK52 _ _ ?_
    refine TK.seq_k fun K54 hK54 => ?_
    refine TK.reg ?_
    refine TL.p (C := cx) (gc := true) (p_mv rfl) rfl rfl ?_
    refine TL.p (C := cx) (gc := true) (p_lenL (xs := e53) kd23 rfl) rfl rfl ?_
    refine TL.p (C := cx) (gc := true) (p_gtr rfl rfl) rfl rfl ?_
    refine TL.nil ?_
    refine hK54 _ _ ?_
    refine TK.cond (b := (decide ((e53.length : Int) > (0 : Int)))) rfl (fun hc => ?_) (fun hc => ?_)
    · have hX := ite_t hc hX
      refine TK.reg ?_
      refine TL.p (C := cx) (gc := true) (p_mv rfl) rfl rfl ?_
      refine TL.p (C := cx) (gc := true) (p_mv rfl) rfl rfl ?_
      refine TL.lit (C := cx) ([e53] : List (List UInt8)) kd22 ty23 rfl ⟨⟨rfl, rfl⟩, trivial⟩ rfl rfl rfl ?_
      obtain ⟨u55, hu55, hX⟩ := bind_some hX
      refine TL.appO (C := cx) nd kd22 bo22 ty23 rfl rfl (j := 0) rfl rfl (Src_L _) (by decide) (need_t hu55) rfl fun nd => ?_
      refine TL.p (C := cx) (gc := true) (p_mv rfl) rfl rfl ?_
      refine TL.nil ?_
      refine hK51 _ _ ?_
      refine TK.reg ?_
      refine TL.p (C := cx) (gc := true) (p_add rfl rfl) rfl rfl ?_
      refine TL.p (C := cx) (gc := true) (p_mv rfl) rfl rfl ?_
      refine TL.nil ?_
      exact ⟨_, (some_in hX).symm, b9, rfl, (Nd.pick nd (is := [0]) (by decide)), (HSub.pick nd (is := [0]) (by decide))⟩
    · have hX := ite_f hc hX
      refine TK.skip ?_
      refine hK51 _ _ ?_
      refine TK.reg ?_
      refine TL.p (C := cx) (gc := true) (p_add rfl rfl) rfl rfl ?_
      refine TL.p (C := cx) (gc := true) (p_mv rfl) rfl rfl ?_
      refine TL.nil ?_
      exact ⟨_, (some_in hX).symm, b9, rfl, (Nd.pick nd (is := [0]) (by decide)), (HSub.pick nd (is := [0]) (by decide))⟩
  · have hX := ite_f hc hX
    refine TK.exit ?_
    obtain rfl := hR8 _ (some_in hX).symm
    exact E8 there10 _ _ ⟨b9, rfl, (Nd.pick nd (is := [0]) (by decide)), (HSub.pick nd (is := [0]) (by decide))⟩ hA8

/-- cartridge/cartridgelaw3.alive -/
theorem ok_cartridgelaw3_alive  (r : Bool) (hX : X.cartridgelaw3_alive = some r) : Fun Try.prog 54 [] (· = Enc.v (r : Bool)) := by
  refine Fun.of b54 (Nat.le_of_ble_eq_true rfl) (fun x hx => by cases hx) ?_
  unfold k54
  have nd : Nd [] := Nd_nil
  unfold X.cartridgelaw3_alive at hX
  refine TK.seq_k fun K1 hK1 => ?_
  refine TK.reg ?_
  refine TL.p (C := cx) (gc := true) (p_mv rfl) rfl rfl ?_
  refine TL.nil ?_
  refine hK1 _ _ ?_
  refine TK.seq_k fun K2 hK2 => ?_
  refine TK.reg ?_
  refine TL.litO (C := cx) nd ([(97 : UInt8), (98 : UInt8)] : List UInt8) kd23 ty5 rfl ⟨⟨rfl, rfl⟩, ⟨rfl, rfl⟩, trivial⟩ rfl rfl rfl fun b3 nd => ?_
  refine TL.cvtF (C := cx) (xs := ([(97 : UInt8), (98 : UInt8)] : List UInt8)) nd kd23 kd5 rfl (j := 0) rfl (by simp) rfl fun nd => ?_
  refine TL.lit (C := cx) ([([(97 : UInt8), (98 : UInt8)] : List UInt8)] : List (List UInt8)) kd22 ty23 rfl ⟨⟨rfl, rfl⟩, trivial⟩ rfl rfl rfl ?_
  obtain ⟨r4, hr4, hX⟩ := bind_some hX
  refine TL.cvX rfl rfl rfl (fun _ => ⟨rfl, ⟨rfl, ⟨rfl, trivial⟩⟩⟩) (fun e => ok_erasure_Encode ([([(97 : UInt8), (98 : UInt8)] : List UInt8)] : List (List UInt8)) (1 : Int) _ hr4) ?_
  refine TL.p (C := cx) (gc := true) (p_mv rfl) rfl rfl ?_
  refine TL.p (C := cx) (gc := true) (p_ex rfl rfl (by decide)) rfl rfl ?_
  refine TL.p (C := cx) (gc := true) (p_ex rfl rfl (by decide)) rfl rfl ?_
  refine TL.p (C := cx) (gc := true) (p_mv rfl) rfl rfl ?_
  refine TL.p (C := cx) (gc := true) (p_mv rfl) rfl rfl ?_
  refine TL.nil ?_
  refine hK2 _ _ ?_
  refine TK.seq_k fun K5 hK5 => ?_
  refine TK.seq_k fun K6 hK6 => ?_
  refine TK.reg ?_
  refine TL.p (C := cx) (gc := true) (p_mv rfl) rfl rfl ?_
  obtain ⟨r7, hr7, hX⟩ := bind_some hX
  refine TL.cvX rfl rfl rfl (fun _ => ⟨rfl, ⟨rfl, trivial⟩⟩) (fun e => ok_cartridgelaw3_num r4.2 _ hr7) ?_
  refine TL.p (C := cx) (gc := true) (p_neq rfl rfl) rfl rfl ?_
  refine TL.p (C := cx) (gc := true) (p_mv rfl) rfl rfl ?_
  refine TL.p (C := cx) (gc := (!((r7 != (0 : Int))))) (p_mv rfl (hg := fun e => rfl)) (gcF1 rfl) rfl ?_
  refine TL.p (C := cx) (gc := (!((r7 != (0 : Int))))) (p_lenL (xs := r4.1) kd22 rfl (hg := fun e => e)) (gcF1 rfl) rfl ?_
  refine TL.p (C := cx) (gc := (!((r7 != (0 : Int))))) (p_neq rfl rfl (hg := fun e => ⟨e, rfl⟩)) (gcF1 rfl) rfl ?_
  refine TL.p (C := cx) (gc := true) (p_or rfl rfl (fun e => ⟨rfl, fun h => (not_t h)⟩)) rfl rfl ?_
  refine TL.nil ?_
  refine hK6 _ _ ?_
  refine TK.cond (b := ((r7 != (0 : Int)) || ((r4.1.length : Int) != (1 : Int)))) rfl (fun hc => ?_) (fun hc => ?_)
  · have hX := ite_t hc hX
    refine TK.seq_k fun K8 hK8 => ?_
    refine TK.reg ?_
    refine TL.p (C := cx) (gc := true) (p_mv rfl) rfl rfl ?_
    refine TL.nil ?_
    refine hK8 _ _ ?_
    refine TK.ret ?_
    try dsimp only [thenQ]
    exact ret1 (v := Enc.v (false : Bool)) rfl (by obtain rfl := some_in hX; rfl) (v_val _)
  · have hX := ite_f hc hX
    refine TK.skip ?_
    refine hK5 _ _ ?_
    refine TK.seq_k fun K9 hK9 => ?_
    refine TK.reg ?_
    refine TL.p (C := cx) (gc := true) (p_mv rfl) rfl rfl ?_
    obtain ⟨e10, he10, hX⟩ := bind_some hX
    refine TL.p (C := cx) (gc := true) (p_iaL (xs := r4.1) kd22 ty23 rfl rfl rfl (fun _ => he10)) rfl rfl ?_
    refine TL.p (C := cx) (gc := true) (p_ldE (xs := r4.1) (a := e10) (e10 : (List UInt8)) ty23 rfl rfl (fun _ => he10) rfl rfl rfl) rfl rfl ?_
    refine TL.litN (C := cx) ([([] : (List UInt8)), e10] : List (List UInt8)) kd22 ty23 rfl ⟨⟨rfl, _, rfl, .inr ⟨rfl, rfl⟩⟩, ⟨rfl, _, rfl, .inl rfl⟩, trivial⟩ rfl rfl rfl ?_
    obtain ⟨r11, hr11, hX⟩ := bind_some hX
    refine TL.cvX rfl rfl rfl (fun _ => ⟨rfl, ⟨rfl, ⟨rfl, trivial⟩⟩⟩) (fun e => ok_erasure_Decode ([([] : (List UInt8)), e10] : List (List UInt8)) (1 : Int) _ hr11) ?_
    refine TL.p (C := cx) (gc := true) (p_mv rfl) rfl rfl ?_
    refine TL.p (C := cx) (gc := true) (p_ex rfl rfl (by decide)) rfl rfl ?_
    refine TL.p (C := cx) (gc := true) (p_ex rfl rfl (by decide)) rfl rfl ?_
    refine TL.p (C := cx) (gc := true) (p_mv rfl) rfl rfl ?_
    refine TL.p (C := cx) (gc := true) (p_mv rfl) rfl rfl ?_
    refine TL.nil ?_
    refine hK9 _ _ ?_
    refine TK.seq_k fun K12 hK12 => ?_
    refine TK.reg ?_
    refine TL.p (C := cx) (gc := true) (p_mv rfl) rfl rfl ?_
    obtain ⟨r13, hr13, hX⟩ := bind_some hX
    refine TL.cvX rfl rfl rfl (fun _ => ⟨rfl, ⟨rfl, trivial⟩⟩) (fun e => ok_cartridgelaw3_num r11.2 _ hr13) ?_
    refine TL.p (C := cx) (gc := true) (p_eql rfl rfl) rfl rfl ?_
    refine TL.p (C := cx) (gc := true) (p_mv rfl) rfl rfl ?_
    refine TL.p (C := cx) (gc := ((r13 == (0 : Int)))) (p_mv rfl (hg := fun e => rfl)) (gcT1 rfl) rfl ?_
    refine TL.p (C := cx) (gc := ((r13 == (0 : Int)))) (p_lenL (xs := r11.1) kd22 rfl (hg := fun e => e)) (gcT1 rfl) rfl ?_
    refine TL.p (C := cx) (gc := ((r13 == (0 : Int)))) (p_eql rfl rfl (hg := fun e => ⟨e, rfl⟩)) (gcT1 rfl) rfl ?_
    refine TL.p (C := cx) (gc := true) (p_and rfl rfl (fun e => ⟨rfl, fun h => h⟩)) rfl rfl ?_
    refine TL.p (C := cx) (gc := true) (p_mv rfl) rfl rfl ?_
    refine TL.p (C := cx) (gc := (((r13 == (0 : Int)) && ((r11.1.length : Int) == (1 : Int))))) (p_mv rfl (hg := fun e => rfl)) (gcT1 rfl) rfl ?_
    obtain ⟨e14, he14, hX⟩ := bind_some hX
    refine TL.p (C := cx) (gc := (((r13 == (0 : Int)) && ((r11.1.length : Int) == (1 : Int))))) (p_iaL (xs := r11.1) kd22 ty23 rfl rfl rfl (fun e => optG_t he14 e) (hg := fun e => ⟨e, rfl⟩)) (gcT1 rfl) rfl ?_
    refine TL.p (C := cx) (gc := (((r13 == (0 : Int)) && ((r11.1.length : Int) == (1 : Int))))) (p_ldE (xs := r11.1) (a := e14) (e14 : (List UInt8)) ty23 rfl rfl (fun e => optG_t he14 e) rfl rfl rfl (hg := fun e => e)) (gcT1 rfl) rfl ?_
    refine TL.ofV (gc := (((r13 == (0 : Int)) && ((r11.1.length : Int) == (1 : Int))))) (vok_cvtBS (C := cx) (gc := (((r13 == (0 : Int)) && ((r11.1.length : Int) == (1 : Int))))) (xs := e14) kd23 kd5 kd9 rfl (look_v (v := Enc.v (e14 : (List UInt8))) (v_val _)) (hg := fun e => e)) (gcT1 rfl) rfl ?_
    refine TL.p (C := cx) (gc := (((r13 == (0 : Int)) && ((r11.1.length : Int) == (1 : Int))))) (ps_eql (s := (Str.mk e14)) (r := (Str.mk [97, 98])) rfl rfl (hg := fun e => ⟨e, rfl⟩)) (gcT1 rfl) rfl ?_
    refine TL.p (C := cx) (gc := true) (p_and rfl rfl (fun e => ⟨rfl, fun h => h⟩)) rfl rfl ?_
    refine TL.p (C := cx) (gc := true) (p_mv rfl) rfl rfl ?_
    refine TL.nil ?_
    refine hK12 _ _ ?_
    refine TK.ret ?_
    try dsimp only [thenQ]
    exact ret1 (v := Enc.v ((((r13 == (0 : Int)) && ((r11.1.length : Int) == (1 : Int))) && ((Str.mk e14).l == (Str.mk [97, 98]).l)) : Bool)) rfl (by obtain rfl := some_in hX; rfl) (v_val _)

/-- cartridge/cartridgelaw2.Few -/
theorem ok_cartridgelaw2_Few (m1 : (List (List UInt8))) (r : Bool) (hX : X.cartridgelaw2_Few m1 = some r) : Fun Try.prog 15 [Enc.v (m1 : (List (List UInt8)))] (· = Enc.v (r : Bool)) := by
  refine Fun.of b15 (Nat.le_of_ble_eq_true rfl) (allVal.mem ⟨(by exact (v_val _)), trivial⟩) ?_
  unfold k15
  have nd : Nd [] := Nd_nil
  unfold X.cartridgelaw2_Few at hX
  refine TK.seq_k fun K2 hK2 => ?_
  refine TK.reg ?_
  refine TL.p (C := cx) (gc := true) (p_mv rfl) rfl rfl ?_
  refine TL.nil ?_
  refine hK2 _ _ ?_
  refine TK.seq_k fun K3 hK3 => ?_
  refine TK.reg ?_
  refine TL.p (C := cx) (gc := true) (p_mv rfl) rfl rfl ?_
  refine TL.nil ?_
  refine hK3 _ _ ?_
  refine TK.seq_k fun K4 hK4 => ?_
  refine TK.seq_k fun K5 hK5 => ?_
  refine TK.reg ?_
  refine TL.p (C := cx) (gc := true) (p_mv rfl) rfl rfl ?_
  refine TL.nil ?_
  refine hK5 _ _ ?_
  refine TK.block ?_
  obtain ⟨o6, hO6, hA6⟩ := bind_some hX
  have E6 : ∀ (n9 : Int) (env : Env) (h : Hp), (∃ _u : Unit, keepE [3] env = [(3, true, Enc.v (n9 : Int))] ∧ Nd [] ∧ HSub [] h) → X.cartridgelaw2_Few_e6 n9 = some r → K4 env h := by
    intro n9 env h hE hX
    obtain ⟨_u, henv, nd, hs⟩ := hE
    unfold X.cartridgelaw2_Few_e6 at hX
    refine hK4 _ _ (TK.keep [3] ?_)
    rw [henv]
    refine TK.subH hs ?_
    refine TK.seq_k fun K10 hK10 => ?_
    refine TK.reg ?_
    refine TL.p (C := cx) (gc := true) (p_mv rfl) rfl rfl ?_
    refine TL.p (C := cx) (gc := true) (p_leq rfl rfl) rfl rfl ?_
    refine TL.p (C := cx) (gc := true) (p_mv rfl) rfl rfl ?_
    refine TL.nil ?_
    refine hK10 _ _ ?_
    refine TK.ret ?_
    try dsimp only [thenQ]
    exact ret1 (v := Enc.v ((decide (n9 ≤ (2000 : Int))) : Bool)) rfl (by obtain rfl := some_in hX; rfl) (v_val _)
  refine TK.iter [0, 3, 4] (fun s env h => match s with | (n7, i8) => ∃ _u : Unit, env = [(0, true, Enc.v (m1 : (List (List UInt8)))), (3, true, Enc.v (n7 : Int)), (4, true, Enc.v (i8 : Int))] ∧ Nd [] ∧ HSub [] h) hO6 ⟨(), rfl, Nd_nil, HSub.refl _⟩ ?_
  rintro ⟨n7, i8⟩ env h x6x ⟨_u, rfl, nd, hs⟩ hX hR6
  refine TK.subH hs ?_
  unfold X.cartridgelaw2_Few_s6 at hX
  try dsimp only at hX
  refine TK.seq_k fun K11 hK11 => ?_
  refine TK.seq_k fun K12 hK12 => ?_
  refine TK.reg ?_
  refine TL.p (C := cx) (gc := true) (p_mv rfl) rfl rfl ?_
  refine TL.p (C := cx) (gc := true) (p_mv rfl) rfl rfl ?_
  refine TL.p (C := cx) (gc := true) (p_lenL (xs := m1) kd22 rfl) rfl rfl ?_
  refine TL.p (C := cx) (gc := true) (p_lss rfl rfl) rfl rfl ?_
  refine TL.p (C := cx) (gc := true) (p_mv rfl) rfl rfl ?_
  refine TL.p (C := cx) (gc := ((decide (i8 < (m1.length : Int))))) (p_mv rfl (hg := fun e => rfl)) (gcT1 rfl) rfl ?_
  refine TL.p (C := cx) (gc := ((decide (i8 < (m1.length : Int))))) (p_leq rfl rfl (hg := fun e => ⟨e, rfl⟩)) (gcT1 rfl) rfl ?_
  refine TL.p (C := cx) (gc := true) (p_and rfl rfl (fun e => ⟨rfl, fun h => h⟩)) rfl rfl ?_
  refine TL.nil ?_
  refine hK12 _ _ ?_
  refine TK.cond (b := ((decide (i8 < (m1.length : Int))) && (decide (n7 ≤ (2000 : Int))))) rfl (fun hc => ?_) (fun hc => ?_)
  · have hX := ite_t hc hX
    refine TK.skip ?_
    refine hK11 _ _ ?_
    refine TK.seq_k fun K13 hK13 => ?_
    refine TK.block ?_
    refine TK.reg ?_
    refine TL.p (C := cx) (gc := true) (p_mv rfl) rfl rfl ?_
    refine TL.p (C := cx) (gc := true) (p_add rfl rfl) rfl rfl ?_
    refine TL.p (C := cx) (gc := true) (p_mv rfl) rfl rfl ?_
    refine TL.p (C := cx) (gc := true) (p_mv rfl) rfl rfl ?_
    obtain ⟨e14, he14, hX⟩ := bind_some hX
    refine TL.p (C := cx) (gc := true) (p_iaL (xs := m1) kd22 ty23 rfl rfl rfl (fun _ => he14)) rfl rfl ?_
    refine TL.p (C := cx) (gc := true) (p_ldE (xs := m1) (a := e14) (e14 : (List UInt8)) ty23 rfl rfl (fun _ => he14) rfl rfl rfl) rfl rfl ?_
    refine TL.p (C := cx) (gc := true) (p_lenL (xs := e14) kd23 rfl) rfl rfl ?_
    refine TL.p (C := cx) (gc := true) (p_add rfl rfl) rfl rfl ?_
    refine TL.p (C := cx) (gc := true) (p_mv rfl) rfl rfl ?_
    refine TL.nil ?_
    refine hK13 _ _ ?_
    refine TK.reg ?_
    refine TL.p (C := cx) (gc := true) (p_mv rfl) rfl rfl ?_
    refine TL.p (C := cx) (gc := true) (p_add rfl rfl) rfl rfl ?_
    refine TL.p (C := cx) (gc := true) (p_mv rfl) rfl rfl ?_
    refine TL.nil ?_
    exact ⟨_, (some_in hX).symm, (), rfl, Nd_nil, HSub.refl _⟩
  · have hX := ite_f hc hX
    refine TK.exit ?_
    obtain rfl := hR6 _ (some_in hX).symm
    exact E6 n7 _ _ ⟨(), rfl, Nd_nil, HSub.refl _⟩ hA6

/-- cartridge/cartridgeref1.Mul -/
theorem ok_cartridgeref1_Mul (a1 : UInt8) (b2 : UInt8) (r : UInt8) (hX : X.cartridgeref1_Mul a1 b2 = some r) : Fun Try.prog 20 [Enc.v (a1 : UInt8), Enc.v (b2 : UInt8)] (· = Enc.v (r : UInt8)) := by
  refine Fun.of b20 (Nat.le_of_ble_eq_true rfl) (allVal.mem ⟨(by exact (v_val _)), (by exact (v_val _)), trivial⟩) ?_
  unfold k20
  have nd : Nd [] := Nd_nil
  unfold X.cartridgeref1_Mul at hX
  refine TK.seq_k fun K3 hK3 => ?_
  refine TK.reg ?_
  refine TL.p (C := cx) (gc := true) (p_mv rfl) rfl rfl ?_
  refine TL.nil ?_
  refine hK3 _ _ ?_
  refine TK.seq_k fun K4 hK4 => ?_
  refine TK.reg ?_
  refine TL.p (C := cx) (gc := true) (p_mv rfl) rfl rfl ?_
  refine TL.nil ?_
  refine hK4 _ _ ?_
  refine TK.seq_k fun K5 hK5 => ?_
  refine TK.seq_k fun K6 hK6 => ?_
  refine TK.reg ?_
  refine TL.p (C := cx) (gc := true) (p_mv rfl) rfl rfl ?_
  refine TL.nil ?_
  refine hK6 _ _ ?_
  refine TK.block ?_
  obtain ⟨o7, hO7, hA7⟩ := bind_some hX
  have E7 : ∀ (x10 : Int) (env : Env) (h : Hp), (∃ _u : Unit, keepE [5] env = [(5, true, Enc.v (x10 : Int))] ∧ Nd [] ∧ HSub [] h) → X.cartridgeref1_Mul_e7 x10 = some r → K5 env h := by
    intro x10 env h hE hX
    obtain ⟨_u, henv, nd, hs⟩ := hE
    unfold X.cartridgeref1_Mul_e7 at hX
    refine hK5 _ _ (TK.keep [5] ?_)
    rw [henv]
    refine TK.subH hs ?_
    refine TK.seq_k fun K11 hK11 => ?_
    refine TK.seq_k fun K12 hK12 => ?_
    refine TK.reg ?_
    refine TL.p (C := cx) (gc := true) (p_mv rfl) rfl rfl ?_
    refine TL.nil ?_
    refine hK12 _ _ ?_
    refine TK.block ?_
    obtain ⟨o13, hO13, hA13⟩ := bind_some hX
    have E13 : ∀ (x16 : Int) (env : Env) (h : Hp), (∃ _u : Unit, keepE [5] env = [(5, true, Enc.v (x16 : Int))] ∧ Nd [] ∧ HSub [] h) → X.cartridgeref1_Mul_e13 x16 = some r → K11 env h := by
      intro x16 env h hE hX
      obtain ⟨_u, henv, nd, hs⟩ := hE
      unfold X.cartridgeref1_Mul_e13 at hX
      refine hK11 _ _ (TK.keep [5] ?_)
      rw [henv]
      refine TK.subH hs ?_
      refine TK.seq_k fun K17 hK17 => ?_
      refine TK.reg ?_
      refine TL.p (C := cx) (gc := true) (p_mv rfl) rfl rfl ?_
      refine TL.p (C := cx) (gc := true) (p_cvt src3 kd5 rfl (cv_u8 _)) rfl rfl ?_
      refine TL.p (C := cx) (gc := true) (p_mv rfl) rfl rfl ?_
      refine TL.nil ?_
      refine hK17 _ _ ?_
      refine TK.ret ?_
      try dsimp only [thenQ]
      exact ret1 (v := Enc.v ((u8 x16) : UInt8)) rfl (by obtain rfl := some_in hX; rfl) (v_val _)
    refine TK.iter [5, 7] (fun s env h => match s with | (x14, i15) => ∃ _u : Unit, env = [(5, true, Enc.v (x14 : Int)), (7, true, Enc.v (i15 : Int))] ∧ Nd [] ∧ HSub [] h) hO13 ⟨(), rfl, Nd_nil, HSub.refl _⟩ ?_
    rintro ⟨x14, i15⟩ env h x13x ⟨_u, rfl, nd, hs⟩ hX hR13
    refine TK.subH hs ?_
    unfold X.cartridgeref1_Mul_s13 at hX
    try dsimp only at hX
    refine TK.seq_k fun K18 hK18 => ?_
    refine TK.seq_k fun K19 hK19 => ?_
    refine TK.reg ?_
    refine TL.p (C := cx) (gc := true) (p_mv rfl) rfl rfl ?_
    refine TL.p (C := cx) (gc := true) (p_geq rfl rfl) rfl rfl ?_
    refine TL.nil ?_
    refine hK19 _ _ ?_
    refine TK.cond (b := (decide (i15 ≥ (8 : Int)))) rfl (fun hc => ?_) (fun hc => ?_)
    · have hX := ite_t hc hX
      refine TK.skip ?_
      refine hK18 _ _ ?_
      refine TK.seq_k fun K20 hK20 => ?_
      have J20 : ∀ (x21 : Int) (env : Env) (h : Hp), (∃ _u : Unit, keepE [5, 7] env = [(5, true, Enc.v (x21 : Int)), (7, true, Enc.v (i15 : Int))] ∧ Nd [] ∧ HSub [] h) → X.cartridgeref1_Mul_j20 i15 x21 = some x13x → K20 env h := by
        intro x21 env h hE hX
        obtain ⟨_u, henv, nd, hs⟩ := hE
        unfold X.cartridgeref1_Mul_j20 at hX
        refine hK20 _ _ (TK.keep [5, 7] ?_)
        rw [henv]
        refine TK.subH hs ?_
        refine TK.reg ?_
        refine TL.p (C := cx) (gc := true) (p_mv rfl) rfl rfl ?_
        refine TL.p (C := cx) (gc := true) (p_sub rfl rfl) rfl rfl ?_
        refine TL.p (C := cx) (gc := true) (p_mv rfl) rfl rfl ?_
        refine TL.nil ?_
        exact ⟨_, (some_in hX).symm, (), rfl, Nd_nil, HSub.refl _⟩
      refine TK.block ?_
      refine TK.seq_k fun K22 hK22 => ?_
      refine TK.reg ?_
      refine TL.p (C := cx) (gc := true) (p_mv rfl) rfl rfl ?_
      refine TL.p (C := cx) (gc := true) (p_mv rfl) rfl rfl ?_
      refine TL.p (C := cx) (gc := true) (p_cvt src3 kd97 rfl (cv_u64 _)) rfl rfl ?_
      refine TL.p (C := cx) (gc := true) (p_shr rfl rfl (fun _ => by omega)) rfl rfl ?_
      refine TL.p (C := cx) (gc := true) (p_and64 rfl rfl) rfl rfl ?_
      refine TL.p (C := cx) (gc := true) (p_eql rfl rfl) rfl rfl ?_
      refine TL.nil ?_
      refine hK22 _ _ ?_
      refine TK.cond (b := ((and64 (shr64 x14 ((u64 i15).toNat : Int)) (1 : Int)) == (1 : Int))) rfl (fun hc => ?_) (fun hc => ?_)
      · have hX := ite_t hc hX
        refine TK.reg ?_
        refine TL.p (C := cx) (gc := true) (p_mv rfl) rfl rfl ?_
        refine TL.p (C := cx) (gc := true) (p_mv rfl) rfl rfl ?_
        refine TL.p (C := cx) (gc := true) (p_sub rfl rfl) rfl rfl ?_
        refine TL.p (C := cx) (gc := true) (p_cvt src3 kd97 rfl (cv_u64 _)) rfl rfl ?_
        refine TL.p (C := cx) (gc := true) (p_shl rfl rfl (fun _ => by omega)) rfl rfl ?_
        refine TL.p (C := cx) (gc := true) (p_xor64 rfl rfl) rfl rfl ?_
        refine TL.p (C := cx) (gc := true) (p_mv rfl) rfl rfl ?_
        refine TL.nil ?_
        exact J20 (xor64 x14 (shl64 (285 : Int) ((u64 (wr (i15 - (8 : Int)))).toNat : Int))) _ _ ⟨(), rfl, Nd_nil, HSub.refl _⟩ hX
      · have hX := ite_f hc hX
        refine TK.skip ?_
        exact J20 x14 _ _ ⟨(), rfl, Nd_nil, HSub.refl _⟩ hX
    · have hX := ite_f hc hX
      refine TK.exit ?_
      obtain rfl := hR13 _ (some_in hX).symm
      exact E13 x14 _ _ ⟨(), rfl, Nd_nil, HSub.refl _⟩ hA13
  refine TK.iter [0, 1, 5, 6] (fun s env h => match s with | (x8, i9) => ∃ _u : Unit, env = [(0, true, Enc.v (a1 : UInt8)), (1, true, Enc.v (b2 : UInt8)), (5, true, Enc.v (x8 : Int)), (6, true, Enc.v (i9 : Int))] ∧ Nd [] ∧ HSub [] h) hO7 ⟨(), rfl, Nd_nil, HSub.refl _⟩ ?_
  rintro ⟨x8, i9⟩ env h x7x ⟨_u, rfl, nd, hs⟩ hX hR7
  refine TK.subH hs ?_
  unfold X.cartridgeref1_Mul_s7 at hX
  try dsimp only at hX
  refine TK.seq_k fun K23 hK23 => ?_
  refine TK.seq_k fun K24 hK24 => ?_
  refine TK.reg ?_
  refine TL.p (C := cx) (gc := true) (p_mv rfl) rfl rfl ?_
  refine TL.p (C := cx) (gc := true) (p_lss rfl rfl) rfl rfl ?_
  refine TL.nil ?_
  refine hK24 _ _ ?_
  refine TK.cond (b := (decide (i9 < (8 : Int)))) rfl (fun hc => ?_) (fun hc => ?_)
  · have hX := ite_t hc hX
    refine TK.skip ?_
    refine hK23 _ _ ?_
    refine TK.seq_k fun K25 hK25 => ?_
    have J25 : ∀ (x26 : Int) (env : Env) (h : Hp), (∃ _u : Unit, keepE [0, 1, 5, 6] env = [(0, true, Enc.v (a1 : UInt8)), (1, true, Enc.v (b2 : UInt8)), (5, true, Enc.v (x26 : Int)), (6, true, Enc.v (i9 : Int))] ∧ Nd [] ∧ HSub [] h) → X.cartridgeref1_Mul_j25 i9 x26 = some x7x → K25 env h := by
      intro x26 env h hE hX
      obtain ⟨_u, henv, nd, hs⟩ := hE
      unfold X.cartridgeref1_Mul_j25 at hX
      refine hK25 _ _ (TK.keep [0, 1, 5, 6] ?_)
      rw [henv]
      refine TK.subH hs ?_
      refine TK.reg ?_
      refine TL.p (C := cx) (gc := true) (p_mv rfl) rfl rfl ?_
      refine TL.p (C := cx) (gc := true) (p_add rfl rfl) rfl rfl ?_
      refine TL.p (C := cx) (gc := true) (p_mv rfl) rfl rfl ?_
      refine TL.nil ?_
      exact ⟨_, (some_in hX).symm, (), rfl, Nd_nil, HSub.refl _⟩
    refine TK.block ?_
    refine TK.seq_k fun K27 hK27 => ?_
    refine TK.reg ?_
    refine TL.p (C := cx) (gc := true) (p_mv rfl) rfl rfl ?_
    refine TL.p (C := cx) (gc := true) (p_mv rfl) rfl rfl ?_
    refine TL.p (C := cx) (gc := true) (p_cvt src3 kd97 rfl (cv_u64 _)) rfl rfl ?_
    refine TL.p (C := cx) (gc := true) (p8_shr (a := b2) (b := (u64 i9).toNat) rfl rfl) rfl rfl ?_
    refine TL.p (C := cx) (gc := true) (p8_and (a := (shr8 b2 (u64 i9).toNat)) (b := (1 : UInt8)) rfl rfl) rfl rfl ?_
    refine TL.p (C := cx) (gc := true) (p8_eql (a := ((shr8 b2 (u64 i9).toNat) &&& (1 : UInt8))) (b := (1 : UInt8)) rfl rfl) rfl rfl ?_
    refine TL.nil ?_
    refine hK27 _ _ ?_
    refine TK.cond (b := (((shr8 b2 (u64 i9).toNat) &&& (1 : UInt8)) == (1 : UInt8))) rfl (fun hc => ?_) (fun hc => ?_)
    · have hX := ite_t hc hX
      refine TK.reg ?_
      refine TL.p (C := cx) (gc := true) (p_mv rfl) rfl rfl ?_
      refine TL.p (C := cx) (gc := true) (p_mv rfl) rfl rfl ?_
      refine TL.p (C := cx) (gc := true) (p_cvt src5 kd3 rfl (cv_8 a1)) rfl rfl ?_
      refine TL.p (C := cx) (gc := true) (p_mv rfl) rfl rfl ?_
      refine TL.p (C := cx) (gc := true) (p_cvt src3 kd97 rfl (cv_u64 _)) rfl rfl ?_
      refine TL.p (C := cx) (gc := true) (p_shl rfl rfl (fun _ => by omega)) rfl rfl ?_
      refine TL.p (C := cx) (gc := true) (p_xor64 rfl rfl) rfl rfl ?_
      refine TL.p (C := cx) (gc := true) (p_mv rfl) rfl rfl ?_
      refine TL.nil ?_
      exact J25 (xor64 x8 (shl64 (a1.toNat : Int) ((u64 i9).toNat : Int))) _ _ ⟨(), rfl, Nd_nil, HSub.refl _⟩ hX
    · have hX := ite_f hc hX
      refine TK.skip ?_
      exact J25 x8 _ _ ⟨(), rfl, Nd_nil, HSub.refl _⟩ hX
  · have hX := ite_f hc hX
    refine TK.exit ?_
    obtain rfl := hR7 _ (some_in hX).symm
    exact E7 x8 _ _ ⟨(), rfl, Nd_nil, HSub.refl _⟩ hA7

/-- cartridge/cartridgeref1.Inv -/
theorem ok_cartridgeref1_Inv (a1 : UInt8) (r : UInt8) (hX : X.cartridgeref1_Inv a1 = some r) : Fun Try.prog 72 [Enc.v (a1 : UInt8)] (· = Enc.v (r : UInt8)) := by
  refine Fun.of b72 (Nat.le_of_ble_eq_true rfl) (allVal.mem ⟨(by exact (v_val _)), trivial⟩) ?_
  unfold k72
  have nd : Nd [] := Nd_nil
  unfold X.cartridgeref1_Inv at hX
  refine TK.seq_k fun K2 hK2 => ?_
  refine TK.reg ?_
  refine TL.p (C := cx) (gc := true) (p_mv rfl) rfl rfl ?_
  refine TL.nil ?_
  refine hK2 _ _ ?_
  refine TK.seq_k fun K3 hK3 => ?_
  refine TK.reg ?_
  refine TL.p (C := cx) (gc := true) (p_mv rfl) rfl rfl ?_
  refine TL.nil ?_
  refine hK3 _ _ ?_
  refine TK.seq_k fun K4 hK4 => ?_
  refine TK.seq_k fun K5 hK5 => ?_
  refine TK.reg ?_
  refine TL.p (C := cx) (gc := true) (p_mv rfl) rfl rfl ?_
  refine TL.nil ?_
  refine hK5 _ _ ?_
  refine TK.block ?_
  obtain ⟨o6, hO6, hA6⟩ := bind_some hX
  have E6 : ∀ (x9 : UInt8) (env : Env) (h : Hp), (∃ _u : Unit, keepE [3] env = [(3, true, Enc.v (x9 : UInt8))] ∧ Nd [] ∧ HSub [] h) → X.cartridgeref1_Inv_e6 x9 = some r → K4 env h := by
    intro x9 env h hE hX
    obtain ⟨_u, henv, nd, hs⟩ := hE
    unfold X.cartridgeref1_Inv_e6 at hX
    refine hK4 _ _ (TK.keep [3] ?_)
    rw [henv]
    refine TK.subH hs ?_
    refine TK.seq_k fun K10 hK10 => ?_
    refine TK.reg ?_
    refine TL.p (C := cx) (gc := true) (p_mv rfl) rfl rfl ?_
    refine TL.p (C := cx) (gc := true) (p_mv rfl) rfl rfl ?_
    refine TL.nil ?_
    refine hK10 _ _ ?_
    refine TK.ret ?_
    try dsimp only [thenQ]
    exact ret1 (v := Enc.v (x9 : UInt8)) rfl (by obtain rfl := some_in hX; rfl) (v_val _)
  refine TK.iter [0, 3, 4] (fun s env h => match s with | (x7, i8) => ∃ _u : Unit, env = [(0, true, Enc.v (a1 : UInt8)), (3, true, Enc.v (x7 : UInt8)), (4, true, Enc.v (i8 : Int))] ∧ Nd [] ∧ HSub [] h) hO6 ⟨(), rfl, Nd_nil, HSub.refl _⟩ ?_
  rintro ⟨x7, i8⟩ env h x6x ⟨_u, rfl, nd, hs⟩ hX hR6
  refine TK.subH hs ?_
  unfold X.cartridgeref1_Inv_s6 at hX
  try dsimp only at hX
  refine TK.seq_k fun K11 hK11 => ?_
  refine TK.seq_k fun K12 hK12 => ?_
  refine TK.reg ?_
  refine TL.p (C := cx) (gc := true) (p_mv rfl) rfl rfl ?_
  refine TL.p (C := cx) (gc := true) (p_lss rfl rfl) rfl rfl ?_
  refine TL.nil ?_
  refine hK12 _ _ ?_
  refine TK.cond (b := (decide (i8 < (254 : Int)))) rfl (fun hc => ?_) (fun hc => ?_)
  · have hX := ite_t hc hX
    refine TK.skip ?_
    refine hK11 _ _ ?_
    refine TK.seq_k fun K13 hK13 => ?_
    refine TK.block ?_
    refine TK.reg ?_
    refine TL.p (C := cx) (gc := true) (p_mv rfl) rfl rfl ?_
    refine TL.p (C := cx) (gc := true) (p_mv rfl) rfl rfl ?_
    obtain ⟨r14, hr14, hX⟩ := bind_some hX
    refine TL.cvX rfl rfl rfl (fun _ => ⟨rfl, ⟨rfl, ⟨rfl, trivial⟩⟩⟩) (fun e => ok_cartridgeref1_Mul x7 a1 _ hr14) ?_
    refine TL.p (C := cx) (gc := true) (p_mv rfl) rfl rfl ?_
    refine TL.nil ?_
    refine hK13 _ _ ?_
    refine TK.reg ?_
    refine TL.p (C := cx) (gc := true) (p_mv rfl) rfl rfl ?_
    refine TL.p (C := cx) (gc := true) (p_add rfl rfl) rfl rfl ?_
    refine TL.p (C := cx) (gc := true) (p_mv rfl) rfl rfl ?_
    refine TL.nil ?_
    exact ⟨_, (some_in hX).symm, (), rfl, Nd_nil, HSub.refl _⟩
  · have hX := ite_f hc hX
    refine TK.exit ?_
    obtain rfl := hR6 _ (some_in hX).symm
    exact E6 x7 _ _ ⟨(), rfl, Nd_nil, HSub.refl _⟩ hA6

/-- cartridge/cartridgeref1.Cauchy -/
theorem ok_cartridgeref1_Cauchy (data1 : Int) (parity2 : Int) (r : ((List (List UInt8)) × Int)) (hX : X.cartridgeref1_Cauchy data1 parity2 = some r) : Fun Try.prog 38 [Enc.v (data1 : Int), Enc.v (parity2 : Int)] (· = .tup 2 (ofL [Enc.v r.1, Enc.v r.2])) := by
  refine Fun.of b38 (Nat.le_of_ble_eq_true rfl) (allVal.mem ⟨(by exact (v_val _)), (by exact (v_val _)), trivial⟩) ?_
  unfold k38
  have nd : Nd [] := Nd_nil
  unfold X.cartridgeref1_Cauchy at hX
  refine TK.seq_k fun K3 hK3 => ?_
  refine TK.reg ?_
  refine TL.p (C := cx) (gc := true) (p_mv rfl) rfl rfl ?_
  refine TL.p (C := cx) (gc := true) (p_mv rfl) rfl rfl ?_
  refine TL.nil ?_
  refine hK3 _ _ ?_
  refine TK.seq_k fun K4 hK4 => ?_
  refine TK.seq_k fun K5 hK5 => ?_
  refine TK.reg ?_
  refine TL.p (C := cx) (gc := true) (p_mv rfl) rfl rfl ?_
  refine TL.p (C := cx) (gc := true) (p_lss rfl rfl) rfl rfl ?_
  refine TL.p (C := cx) (gc := true) (p_mv rfl) rfl rfl ?_
  refine TL.p (C := cx) (gc := (!((decide (data1 < (1 : Int)))))) (p_mv rfl (hg := fun e => rfl)) (gcF1 rfl) rfl ?_
  refine TL.p (C := cx) (gc := (!((decide (data1 < (1 : Int)))))) (p_lss rfl rfl (hg := fun e => ⟨e, rfl⟩)) (gcF1 rfl) rfl ?_
  refine TL.p (C := cx) (gc := true) (p_or rfl rfl (fun e => ⟨rfl, fun h => (not_t h)⟩)) rfl rfl ?_
  refine TL.p (C := cx) (gc := true) (p_mv rfl) rfl rfl ?_
  refine TL.p (C := cx) (gc := (!(((decide (data1 < (1 : Int))) || (decide (parity2 < (1 : Int))))))) (p_mv rfl (hg := fun e => rfl)) (gcF1 rfl) rfl ?_
  refine TL.p (C := cx) (gc := (!(((decide (data1 < (1 : Int))) || (decide (parity2 < (1 : Int))))))) (p_gtr rfl rfl (hg := fun e => ⟨e, rfl⟩)) (gcF1 rfl) rfl ?_
  refine TL.p (C := cx) (gc := true) (p_or rfl rfl (fun e => ⟨rfl, fun h => (not_t h)⟩)) rfl rfl ?_
  refine TL.p (C := cx) (gc := true) (p_mv rfl) rfl rfl ?_
  refine TL.p (C := cx) (gc := (!((((decide (data1 < (1 : Int))) || (decide (parity2 < (1 : Int)))) || (decide (data1 > (255 : Int))))))) (p_mv rfl (hg := fun e => rfl)) (gcF1 rfl) rfl ?_
  refine TL.p (C := cx) (gc := (!((((decide (data1 < (1 : Int))) || (decide (parity2 < (1 : Int)))) || (decide (data1 > (255 : Int))))))) (p_gtr rfl rfl (hg := fun e => ⟨e, rfl⟩)) (gcF1 rfl) rfl ?_
  refine TL.p (C := cx) (gc := true) (p_or rfl rfl (fun e => ⟨rfl, fun h => (not_t h)⟩)) rfl rfl ?_
  refine TL.p (C := cx) (gc := true) (p_mv rfl) rfl rfl ?_
  refine TL.p (C := cx) (gc := (!(((((decide (data1 < (1 : Int))) || (decide (parity2 < (1 : Int)))) || (decide (data1 > (255 : Int)))) || (decide (parity2 > (255 : Int))))))) (p_mv rfl (hg := fun e => rfl)) (gcF1 rfl) rfl ?_
  refine TL.p (C := cx) (gc := (!(((((decide (data1 < (1 : Int))) || (decide (parity2 < (1 : Int)))) || (decide (data1 > (255 : Int)))) || (decide (parity2 > (255 : Int))))))) (p_mv rfl (hg := fun e => rfl)) (gcF1 rfl) rfl ?_
  refine TL.p (C := cx) (gc := (!(((((decide (data1 < (1 : Int))) || (decide (parity2 < (1 : Int)))) || (decide (data1 > (255 : Int)))) || (decide (parity2 > (255 : Int))))))) (p_add rfl rfl (hg := fun e => ⟨e, e⟩)) (gcF1 rfl) rfl ?_
  refine TL.p (C := cx) (gc := (!(((((decide (data1 < (1 : Int))) || (decide (parity2 < (1 : Int)))) || (decide (data1 > (255 : Int)))) || (decide (parity2 > (255 : Int))))))) (p_gtr rfl rfl (hg := fun e => ⟨e, rfl⟩)) (gcF1 rfl) rfl ?_
  refine TL.p (C := cx) (gc := true) (p_or rfl rfl (fun e => ⟨rfl, fun h => (not_t h)⟩)) rfl rfl ?_
  refine TL.nil ?_
  refine hK5 _ _ ?_
  refine TK.cond (b := (((((decide (data1 < (1 : Int))) || (decide (parity2 < (1 : Int)))) || (decide (data1 > (255 : Int)))) || (decide (parity2 > (255 : Int)))) || (decide ((wr (data1 + parity2)) > (255 : Int))))) rfl (fun hc => ?_) (fun hc => ?_)
  · have hX := ite_t hc hX
    refine TK.seq_k fun K6 hK6 => ?_
    refine TK.reg ?_
    refine TL.p (C := cx) (gc := true) (p_mv rfl) rfl rfl ?_
    refine TL.p (C := cx) (gc := true) (p_mv rfl) rfl rfl ?_
    refine TL.nil ?_
    refine hK6 _ _ ?_
    refine TK.wk 4 (L ([] : (List (List UInt8)))) rfl Wk_nil ?_
    refine TK.ret ?_
    try dsimp only [thenQ]
    exact retN (vs := [Enc.v (([] : (List (List UInt8))) : (List (List UInt8))), Enc.v ((1 : Int) : Int)]) ⟨rfl, rfl, trivial⟩ (by obtain rfl := some_in hX; rfl) (allVal.mem ⟨v_val _, v_val _, trivial⟩)
  · have hX := ite_f hc hX
    refine TK.skip ?_
    refine hK4 _ _ ?_
    refine TK.seq_k fun K7 hK7 => ?_
    refine TK.reg ?_
    refine TL.p (C := cx) (gc := true) (p_mv rfl) rfl rfl ?_
    refine TL.nil ?_
    refine hK7 _ _ ?_
    refine TK.ownL (α := (List UInt8)) 6 23 nd rfl (.inl rfl) fun b8 nd => ?_
    refine TK.seq_k fun K9 hK9 => ?_
    refine TK.seq_k fun K10 hK10 => ?_
    refine TK.reg ?_
    refine TL.p (C := cx) (gc := true) (p_mv rfl) rfl rfl ?_
    refine TL.nil ?_
    refine hK10 _ _ ?_
    refine TK.block ?_
    obtain ⟨o11, hO11, hA11⟩ := bind_some hX
    have E11 : ∀ (l16 : List (List UInt8)) (env : Env) (h : Hp), (∃ b15, keepE [6] env = [(6, true, OL (α := (List UInt8)) b15 l16)] ∧ Nd [(b15, RL (α := (List UInt8)) 23 l16)] ∧ HSub [(b15, RL (α := (List UInt8)) 23 l16)] h) → X.cartridgeref1_Cauchy_e11 l16 = some r → K9 env h := by
      intro l16 env h hE hX
      obtain ⟨b15, henv, nd, hs⟩ := hE
      unfold X.cartridgeref1_Cauchy_e11 at hX
      refine hK9 _ _ (TK.keep [6] ?_)
      rw [henv]
      refine TK.subH hs ?_
      refine TK.seq_k fun K17 hK17 => ?_
      refine TK.reg ?_
      refine TL.p (C := cx) (gc := true) (p_mv rfl) rfl rfl ?_
      refine TL.p (C := cx) (gc := true) (p_mv rfl) rfl rfl ?_
      refine TL.p (C := cx) (gc := true) (p_mv rfl) rfl rfl ?_
      refine TL.nil ?_
      refine hK17 _ _ ?_
      refine TK.lay [(4, L l16)] nd (j := 0) rfl ⟨⟨_, rfl, fix_OL nd (j := 0) rfl, rfl⟩, trivial⟩ fun nd => ?_
      refine TK.ret ?_
      try dsimp only [thenQ]
      exact retN (vs := [Enc.v (l16 : (List (List UInt8))), Enc.v ((0 : Int) : Int)]) ⟨rfl, rfl, trivial⟩ (by obtain rfl := some_in hX; rfl) (allVal.mem ⟨v_val _, v_val _, trivial⟩)
    refine TK.iter [0, 1, 6, 7] (fun s env h => match s with | (out13, i14) => ∃ b12, env = [(0, true, Enc.v (data1 : Int)), (1, true, Enc.v (parity2 : Int)), (6, true, OL (α := (List UInt8)) b12 out13), (7, true, Enc.v (i14 : Int))] ∧ Nd [(b12, RL (α := (List UInt8)) 23 out13)] ∧ HSub [(b12, RL (α := (List UInt8)) 23 out13)] h) hO11 ⟨b8, rfl, (Nd.pick nd (is := [0]) (by decide)), (HSub.pick nd (is := [0]) (by decide))⟩ ?_
    rintro ⟨out13, i14⟩ env h x11x ⟨b12, rfl, nd, hs⟩ hX hR11
    refine TK.subH hs ?_
    unfold X.cartridgeref1_Cauchy_s11 at hX
    try dsimp only at hX
    refine TK.seq_k fun K18 hK18 => ?_
    refine TK.seq_k fun K19 hK19 => ?_
    refine TK.reg ?_
    refine TL.p (C := cx) (gc := true) (p_mv rfl) rfl rfl ?_
    refine TL.p (C := cx) (gc := true) (p_mv rfl) rfl rfl ?_
    refine TL.p (C := cx) (gc := true) (p_lss rfl rfl) rfl rfl ?_
    refine TL.nil ?_
    refine hK19 _ _ ?_
    refine TK.cond (b := (decide (i14 < parity2))) rfl (fun hc => ?_) (fun hc => ?_)
    · have hX := ite_t hc hX
      refine TK.skip ?_
      refine hK18 _ _ ?_
      refine TK.seq_k fun K20 hK20 => ?_
      refine TK.block ?_
      refine TK.seq_k fun K21 hK21 => ?_
      refine TK.reg ?_
      refine TL.p (C := cx) (gc := true) (p_mv rfl) rfl rfl ?_
      refine TL.nil ?_
      refine hK21 _ _ ?_
      refine TK.ownL (α := UInt8) 8 5 nd rfl (.inl rfl) fun b22 nd => ?_
      refine TK.seq_k fun K23 hK23 => ?_
      refine TK.seq_k fun K24 hK24 => ?_
      refine TK.reg ?_
      refine TL.p (C := cx) (gc := true) (p_mv rfl) rfl rfl ?_
      refine TL.nil ?_
      refine hK24 _ _ ?_
      refine TK.block ?_
      obtain ⟨o25, hO25, hA25⟩ := bind_some hX
      have E25 : ∀ (l32 : List UInt8) (env : Env) (h : Hp), (∃ b30 b31, keepE [0, 1, 6, 7, 8] env = [(0, true, Enc.v (data1 : Int)), (1, true, Enc.v (parity2 : Int)), (6, true, OL (α := (List UInt8)) b30 out13), (7, true, Enc.v (i14 : Int)), (8, true, OL (α := UInt8) b31 l32)] ∧ Nd [(b30, RL (α := (List UInt8)) 23 out13), (b31, RL (α := UInt8) 5 l32)] ∧ HSub [(b30, RL (α := (List UInt8)) 23 out13), (b31, RL (α := UInt8) 5 l32)] h) → X.cartridgeref1_Cauchy_e25 out13 i14 l32 = some x11x → K23 env h := by
        intro l32 env h hE hX
        obtain ⟨b30, b31, henv, nd, hs⟩ := hE
        unfold X.cartridgeref1_Cauchy_e25 at hX
        refine hK23 _ _ (TK.keep [0, 1, 6, 7, 8] ?_)
        rw [henv]
        refine TK.subH hs ?_
        refine TK.reg ?_
        refine TL.p (C := cx) (gc := true) (p_mv rfl) rfl rfl ?_
        refine TL.p (C := cx) (gc := true) (p_mv rfl) rfl rfl ?_
        refine TL.lay [(52, L l32)] nd (j := 1) rfl ⟨⟨_, rfl, fix_OL nd (j := 1) rfl, rfl⟩, trivial⟩ fun nd => ?_
        refine TL.lit (C := cx) ([l32] : List (List UInt8)) kd22 ty23 rfl ⟨⟨rfl, rfl⟩, trivial⟩ rfl rfl rfl ?_
        obtain ⟨u33, hu33, hX⟩ := bind_some hX
        refine TL.appO (C := cx) nd kd22 bo22 ty23 rfl rfl (j := 0) rfl rfl (Src_L _) (by decide) (need_t hu33) rfl fun nd => ?_
        refine TL.p (C := cx) (gc := true) (p_mv rfl) rfl rfl ?_
        refine TL.nil ?_
        refine hK20 _ _ ?_
        refine TK.reg ?_
        refine TL.p (C := cx) (gc := true) (p_mv rfl) rfl rfl ?_
        refine TL.p (C := cx) (gc := true) (p_add rfl rfl) rfl rfl ?_
        refine TL.p (C := cx) (gc := true) (p_mv rfl) rfl rfl ?_
        refine TL.nil ?_
        exact ⟨_, (some_in hX).symm, b30, rfl, (Nd.pick nd (is := [0]) (by decide)), (HSub.pick nd (is := [0]) (by decide))⟩
      refine TK.iter [0, 1, 6, 7, 8, 9] (fun s env h => match s with | (row28, j29) => ∃ b26 b27, env = [(0, true, Enc.v (data1 : Int)), (1, true, Enc.v (parity2 : Int)), (6, true, OL (α := (List UInt8)) b26 out13), (7, true, Enc.v (i14 : Int)), (8, true, OL (α := UInt8) b27 row28), (9, true, Enc.v (j29 : Int))] ∧ Nd [(b26, RL (α := (List UInt8)) 23 out13), (b27, RL (α := UInt8) 5 row28)] ∧ HSub [(b26, RL (α := (List UInt8)) 23 out13), (b27, RL (α := UInt8) 5 row28)] h) hO25 ⟨b12, b22, rfl, (Nd.pick nd (is := [1, 0]) (by decide)), (HSub.pick nd (is := [1, 0]) (by decide))⟩ ?_
      rintro ⟨row28, j29⟩ env h x25x ⟨b26, b27, rfl, nd, hs⟩ hX hR25
      refine TK.subH hs ?_
      unfold X.cartridgeref1_Cauchy_s25 at hX
      try dsimp only at hX
      refine TK.seq_k fun K34 hK34 => ?_
      refine TK.seq_k fun K35 hK35 => ?_
      refine TK.reg ?_
      refine TL.p (C := cx) (gc := true) (p_mv rfl) rfl rfl ?_
      refine TL.p (C := cx) (gc := true) (p_mv rfl) rfl rfl ?_
      refine TL.p (C := cx) (gc := true) (p_lss rfl rfl) rfl rfl ?_
      refine TL.nil ?_
      refine hK35 _ _ ?_
      refine TK.cond (b := (decide (j29 < data1))) rfl (fun hc => ?_) (fun hc => ?_)
      · have hX := ite_t hc hX
        refine TK.skip ?_
        refine hK34 _ _ ?_
        refine TK.seq_k fun K36 hK36 => ?_
        refine TK.block ?_
        refine TK.reg ?_
        refine TL.p (C := cx) (gc := true) (p_mv rfl) rfl rfl ?_
        refine TL.p (C := cx) (gc := true) (p_mv rfl) rfl rfl ?_
        refine TL.p (C := cx) (gc := true) (p_cvt src3 kd5 rfl (cv_u8 _)) rfl rfl ?_
        refine TL.p (C := cx) (gc := true) (p_mv rfl) rfl rfl ?_
        refine TL.p (C := cx) (gc := true) (p_mv rfl) rfl rfl ?_
        refine TL.p (C := cx) (gc := true) (p_add rfl rfl) rfl rfl ?_
        refine TL.p (C := cx) (gc := true) (p_cvt src3 kd5 rfl (cv_u8 _)) rfl rfl ?_
        refine TL.p (C := cx) (gc := true) (p8_xor (a := (u8 i14)) (b := (u8 (wr (parity2 + j29)))) rfl rfl) rfl rfl ?_
        obtain ⟨r37, hr37, hX⟩ := bind_some hX
        refine TL.cvX rfl rfl rfl (fun _ => ⟨rfl, ⟨rfl, trivial⟩⟩) (fun e => ok_cartridgeref1_Inv ((u8 i14) ^^^ (u8 (wr (parity2 + j29)))) _ hr37) ?_
        refine TL.lit (C := cx) ([r37] : List UInt8) kd23 ty5 rfl ⟨⟨rfl, rfl⟩, trivial⟩ rfl rfl rfl ?_
        obtain ⟨u38, hu38, hX⟩ := bind_some hX
        refine TL.appO (C := cx) nd kd23 bo23 ty5 rfl rfl (j := 1) rfl rfl (Src_L _) (by decide) (need_t hu38) rfl fun nd => ?_
        refine TL.p (C := cx) (gc := true) (p_mv rfl) rfl rfl ?_
        refine TL.nil ?_
        refine hK36 _ _ ?_
        refine TK.reg ?_
        refine TL.p (C := cx) (gc := true) (p_mv rfl) rfl rfl ?_
        refine TL.p (C := cx) (gc := true) (p_add rfl rfl) rfl rfl ?_
        refine TL.p (C := cx) (gc := true) (p_mv rfl) rfl rfl ?_
        refine TL.nil ?_
        exact ⟨_, (some_in hX).symm, b26, b27, rfl, (Nd.pick nd (is := [0, 1]) (by decide)), (HSub.pick nd (is := [0, 1]) (by decide))⟩
      · have hX := ite_f hc hX
        refine TK.exit ?_
        obtain rfl := hR25 _ (some_in hX).symm
        exact E25 row28 _ _ ⟨b26, b27, rfl, (Nd.pick nd (is := [0, 1]) (by decide)), (HSub.pick nd (is := [0, 1]) (by decide))⟩ hA25
    · have hX := ite_f hc hX
      refine TK.exit ?_
      obtain rfl := hR11 _ (some_in hX).symm
      exact E11 out13 _ _ ⟨b12, rfl, (Nd.pick nd (is := [0]) (by decide)), (HSub.pick nd (is := [0]) (by decide))⟩ hA11

/-- cartridge/cartridgeref1.Encode -/
theorem ok_cartridgeref1_Encode (data1 : (List (List UInt8))) (parity2 : Int) (r : ((List (List UInt8)) × Int)) (hX : X.cartridgeref1_Encode data1 parity2 = some r) : Fun Try.prog 56 [Enc.v (data1 : (List (List UInt8))), Enc.v (parity2 : Int)] (· = .tup 2 (ofL [Enc.v r.1, Enc.v r.2])) := by
  refine Fun.of b56 (Nat.le_of_ble_eq_true rfl) (allVal.mem ⟨(by exact (v_val _)), (by exact (v_val _)), trivial⟩) ?_
  unfold k56
  have nd : Nd [] := Nd_nil
  unfold X.cartridgeref1_Encode at hX
  refine TK.seq_k fun K3 hK3 => ?_
  refine TK.reg ?_
  refine TL.p (C := cx) (gc := true) (p_mv rfl) rfl rfl ?_
  refine TL.p (C := cx) (gc := true) (p_mv rfl) rfl rfl ?_
  refine TL.nil ?_
  refine hK3 _ _ ?_
  refine TK.seq_k fun K4 hK4 => ?_
  refine TK.seq_k fun K5 hK5 => ?_
  refine TK.reg ?_
  refine TL.p (C := cx) (gc := true) (p_mv rfl) rfl rfl ?_
  refine TL.p (C := cx) (gc := true) (p_lenL (xs := data1) kd22 rfl) rfl rfl ?_
  refine TL.p (C := cx) (gc := true) (p_lss rfl rfl) rfl rfl ?_
  refine TL.p (C := cx) (gc := true) (p_mv rfl) rfl rfl ?_
  refine TL.p (C := cx) (gc := (!((decide ((data1.length : Int) < (1 : Int)))))) (p_mv rfl (hg := fun e => rfl)) (gcF1 rfl) rfl ?_
  refine TL.p (C := cx) (gc := (!((decide ((data1.length : Int) < (1 : Int)))))) (p_lss rfl rfl (hg := fun e => ⟨e, rfl⟩)) (gcF1 rfl) rfl ?_
  refine TL.p (C := cx) (gc := true) (p_or rfl rfl (fun e => ⟨rfl, fun h => (not_t h)⟩)) rfl rfl ?_
  refine TL.p (C := cx) (gc := true) (p_mv rfl) rfl rfl ?_
  refine TL.p (C := cx) (gc := (!(((decide ((data1.length : Int) < (1 : Int))) || (decide (parity2 < (0 : Int))))))) (p_mv rfl (hg := fun e => rfl)) (gcF1 rfl) rfl ?_
  refine TL.p (C := cx) (gc := (!(((decide ((data1.length : Int) < (1 : Int))) || (decide (parity2 < (0 : Int))))))) (p_gtr rfl rfl (hg := fun e => ⟨e, rfl⟩)) (gcF1 rfl) rfl ?_
  refine TL.p (C := cx) (gc := true) (p_or rfl rfl (fun e => ⟨rfl, fun h => (not_t h)⟩)) rfl rfl ?_
  refine TL.p (C := cx) (gc := true) (p_mv rfl) rfl rfl ?_
  refine TL.p (C := cx) (gc := (!((((decide ((data1.length : Int) < (1 : Int))) || (decide (parity2 < (0 : Int)))) || (decide (parity2 > (255 : Int))))))) (p_mv rfl (hg := fun e => rfl)) (gcF1 rfl) rfl ?_
  refine TL.p (C := cx) (gc := (!((((decide ((data1.length : Int) < (1 : Int))) || (decide (parity2 < (0 : Int)))) || (decide (parity2 > (255 : Int))))))) (p_lenL (xs := data1) kd22 rfl (hg := fun e => e)) (gcF1 rfl) rfl ?_
  refine TL.p (C := cx) (gc := (!((((decide ((data1.length : Int) < (1 : Int))) || (decide (parity2 < (0 : Int)))) || (decide (parity2 > (255 : Int))))))) (p_mv rfl (hg := fun e => rfl)) (gcF1 rfl) rfl ?_
  refine TL.p (C := cx) (gc := (!((((decide ((data1.length : Int) < (1 : Int))) || (decide (parity2 < (0 : Int)))) || (decide (parity2 > (255 : Int))))))) (p_add rfl rfl (hg := fun e => ⟨e, e⟩)) (gcF1 rfl) rfl ?_
  refine TL.p (C := cx) (gc := (!((((decide ((data1.length : Int) < (1 : Int))) || (decide (parity2 < (0 : Int)))) || (decide (parity2 > (255 : Int))))))) (p_gtr rfl rfl (hg := fun e => ⟨e, rfl⟩)) (gcF1 rfl) rfl ?_
  refine TL.p (C := cx) (gc := true) (p_or rfl rfl (fun e => ⟨rfl, fun h => (not_t h)⟩)) rfl rfl ?_
  refine TL.nil ?_
  refine hK5 _ _ ?_
  refine TK.cond (b := ((((decide ((data1.length : Int) < (1 : Int))) || (decide (parity2 < (0 : Int)))) || (decide (parity2 > (255 : Int)))) || (decide ((wr ((data1.length : Int) + parity2)) > (255 : Int))))) rfl (fun hc => ?_) (fun hc => ?_)
  · have hX := ite_t hc hX
    refine TK.seq_k fun K6 hK6 => ?_
    refine TK.reg ?_
    refine TL.p (C := cx) (gc := true) (p_mv rfl) rfl rfl ?_
    refine TL.p (C := cx) (gc := true) (p_mv rfl) rfl rfl ?_
    refine TL.nil ?_
    refine hK6 _ _ ?_
    refine TK.wk 4 (L ([] : (List (List UInt8)))) rfl Wk_nil ?_
    refine TK.ret ?_
    try dsimp only [thenQ]
    exact retN (vs := [Enc.v (([] : (List (List UInt8))) : (List (List UInt8))), Enc.v ((1 : Int) : Int)]) ⟨rfl, rfl, trivial⟩ (by obtain rfl := some_in hX; rfl) (allVal.mem ⟨v_val _, v_val _, trivial⟩)
  · have hX := ite_f hc hX
    refine TK.skip ?_
    refine hK4 _ _ ?_
    refine TK.seq_k fun K7 hK7 => ?_
    refine TK.seq_k fun K8 hK8 => ?_
    refine TK.reg ?_
    refine TL.p (C := cx) (gc := true) (p_mv rfl) rfl rfl ?_
    refine TL.nil ?_
    refine hK8 _ _ ?_
    refine TK.block ?_
    obtain ⟨o9, hO9, hA9⟩ := bind_some hX
    have E9 : ∀ (env : Env) (h : Hp), (∃ _u : Unit, keepE [0, 1] env = [(0, true, Enc.v (data1 : (List (List UInt8)))), (1, true, Enc.v (parity2 : Int))] ∧ Nd [] ∧ HSub [] h) → X.cartridgeref1_Encode_e9 parity2 data1 = some r → K7 env h := by
      intro  env h hE hX
      obtain ⟨_u, henv, nd, hs⟩ := hE
      unfold X.cartridgeref1_Encode_e9 at hX
      refine hK7 _ _ (TK.keep [0, 1] ?_)
      rw [henv]
      refine TK.subH hs ?_
      refine TK.seq_k fun K11 hK11 => ?_
      refine TK.seq_k fun K12 hK12 => ?_
      refine TK.reg ?_
      refine TL.p (C := cx) (gc := true) (p_mv rfl) rfl rfl ?_
      refine TL.p (C := cx) (gc := true) (p_eql rfl rfl) rfl rfl ?_
      refine TL.nil ?_
      refine hK12 _ _ ?_
      refine TK.cond (b := (parity2 == (0 : Int))) rfl (fun hc => ?_) (fun hc => ?_)
      · have hX := ite_t hc hX
        refine TK.seq_k fun K13 hK13 => ?_
        refine TK.reg ?_
        refine TL.p (C := cx) (gc := true) (p_mv rfl) rfl rfl ?_
        refine TL.p (C := cx) (gc := true) (p_mv rfl) rfl rfl ?_
        refine TL.nil ?_
        refine hK13 _ _ ?_
        refine TK.wk 4 (L ([] : (List (List UInt8)))) rfl Wk_nil ?_
        refine TK.ret ?_
        try dsimp only [thenQ]
        exact retN (vs := [Enc.v (([] : (List (List UInt8))) : (List (List UInt8))), Enc.v ((0 : Int) : Int)]) ⟨rfl, rfl, trivial⟩ (by obtain rfl := some_in hX; rfl) (allVal.mem ⟨v_val _, v_val _, trivial⟩)
      · have hX := ite_f hc hX
        refine TK.skip ?_
        refine hK11 _ _ ?_
        refine TK.seq_k fun K14 hK14 => ?_
        refine TK.reg ?_
        refine TL.p (C := cx) (gc := true) (p_mv rfl) rfl rfl ?_
        refine TL.p (C := cx) (gc := true) (p_lenL (xs := data1) kd22 rfl) rfl rfl ?_
        refine TL.p (C := cx) (gc := true) (p_mv rfl) rfl rfl ?_
        obtain ⟨r15, hr15, hX⟩ := bind_some hX
        refine TL.cvX rfl rfl rfl (fun _ => ⟨rfl, ⟨rfl, ⟨rfl, trivial⟩⟩⟩) (fun e => ok_cartridgeref1_Cauchy (data1.length : Int) parity2 _ hr15) ?_
        refine TL.p (C := cx) (gc := true) (p_mv rfl) rfl rfl ?_
        refine TL.p (C := cx) (gc := true) (p_ex rfl rfl (by decide)) rfl rfl ?_
        refine TL.p (C := cx) (gc := true) (p_ex rfl rfl (by decide)) rfl rfl ?_
        refine TL.p (C := cx) (gc := true) (p_mv rfl) rfl rfl ?_
        refine TL.p (C := cx) (gc := true) (p_mv rfl) rfl rfl ?_
        refine TL.nil ?_
        refine hK14 _ _ ?_
        refine TK.seq_k fun K16 hK16 => ?_
        refine TK.reg ?_
        refine TL.p (C := cx) (gc := true) (p_mv rfl) rfl rfl ?_
        refine TL.nil ?_
        refine hK16 _ _ ?_
        refine TK.ownL (α := (List UInt8)) 9 23 nd rfl (.inl rfl) fun b17 nd => ?_
        refine TK.seq_k fun K18 hK18 => ?_
        refine TK.seq_k fun K19 hK19 => ?_
        refine TK.reg ?_
        refine TL.p (C := cx) (gc := true) (p_mv rfl) rfl rfl ?_
        refine TL.nil ?_
        refine hK19 _ _ ?_
        refine TK.block ?_
        obtain ⟨o20, hO20, hA20⟩ := bind_some hX
        have E20 : ∀ (l25 : List (List UInt8)) (env : Env) (h : Hp), (∃ b24, keepE [9] env = [(9, true, OL (α := (List UInt8)) b24 l25)] ∧ Nd [(b24, RL (α := (List UInt8)) 23 l25)] ∧ HSub [(b24, RL (α := (List UInt8)) 23 l25)] h) → X.cartridgeref1_Encode_e20 l25 = some r → K18 env h := by
          intro l25 env h hE hX
          obtain ⟨b24, henv, nd, hs⟩ := hE
          unfold X.cartridgeref1_Encode_e20 at hX
          refine hK18 _ _ (TK.keep [9] ?_)
          rw [henv]
          refine TK.subH hs ?_
          refine TK.seq_k fun K26 hK26 => ?_
          refine TK.reg ?_
          refine TL.p (C := cx) (gc := true) (p_mv rfl) rfl rfl ?_
          refine TL.p (C := cx) (gc := true) (p_mv rfl) rfl rfl ?_
          refine TL.p (C := cx) (gc := true) (p_mv rfl) rfl rfl ?_
          refine TL.nil ?_
          refine hK26 _ _ ?_
          refine TK.lay [(4, L l25)] nd (j := 0) rfl ⟨⟨_, rfl, fix_OL nd (j := 0) rfl, rfl⟩, trivial⟩ fun nd => ?_
          refine TK.ret ?_
          try dsimp only [thenQ]
          exact retN (vs := [Enc.v (l25 : (List (List UInt8))), Enc.v ((0 : Int) : Int)]) ⟨rfl, rfl, trivial⟩ (by obtain rfl := some_in hX; rfl) (allVal.mem ⟨v_val _, v_val _, trivial⟩)
        refine TK.iter [0, 1, 7, 9, 10] (fun s env h => match s with | (out22, i23) => ∃ b21, env = [(0, true, Enc.v (data1 : (List (List UInt8)))), (1, true, Enc.v (parity2 : Int)), (7, true, Enc.v (r15.1 : (List (List UInt8)))), (9, true, OL (α := (List UInt8)) b21 out22), (10, true, Enc.v (i23 : Int))] ∧ Nd [(b21, RL (α := (List UInt8)) 23 out22)] ∧ HSub [(b21, RL (α := (List UInt8)) 23 out22)] h) hO20 ⟨b17, rfl, (Nd.pick nd (is := [0]) (by decide)), (HSub.pick nd (is := [0]) (by decide))⟩ ?_
        rintro ⟨out22, i23⟩ env h x20x ⟨b21, rfl, nd, hs⟩ hX hR20
        refine TK.subH hs ?_
        unfold X.cartridgeref1_Encode_s20 at hX
        try dsimp only at hX
        refine TK.seq_k fun K27 hK27 => ?_
        refine TK.seq_k fun K28 hK28 => ?_
        refine TK.reg ?_
        refine TL.p (C := cx) (gc := true) (p_mv rfl) rfl rfl ?_
        refine TL.p (C := cx) (gc := true) (p_mv rfl) rfl rfl ?_
        refine TL.p (C := cx) (gc := true) (p_lss rfl rfl) rfl rfl ?_
        refine TL.nil ?_
        refine hK28 _ _ ?_
        refine TK.cond (b := (decide (i23 < parity2))) rfl (fun hc => ?_) (fun hc => ?_)
        · have hX := ite_t hc hX
          refine TK.skip ?_
          refine hK27 _ _ ?_
          refine TK.seq_k fun K29 hK29 => ?_
          refine TK.block ?_
          refine TK.seq_k fun K30 hK30 => ?_
          refine TK.reg ?_
          refine TL.p (C := cx) (gc := true) (p_mv rfl) rfl rfl ?_
          obtain ⟨e31, he31, hX⟩ := bind_some hX
          refine TL.p (C := cx) (gc := true) (p_iaL (xs := data1) kd22 ty23 rfl rfl rfl (fun _ => he31)) rfl rfl ?_
          refine TL.p (C := cx) (gc := true) (p_ldE (xs := data1) (a := e31) (e31 : (List UInt8)) ty23 rfl rfl (fun _ => he31) rfl rfl rfl) rfl rfl ?_
          refine TL.p (C := cx) (gc := true) (p_lenL (xs := e31) kd23 rfl) rfl rfl ?_
          obtain ⟨u32, hu32, hX⟩ := bind_some hX
          refine TL.mkO (C := cx) nd (0 : UInt8) kd23 ty5 rfl (fun j hj => by (have : j = 0 := by simpa [Enc.sz] using hj); subst this; rfl) rfl rfl (by decide) (need_t hu32) rfl fun b33 nd => ?_
          refine TL.p (C := cx) (gc := true) (p_mv rfl) rfl rfl ?_
          refine TL.nil ?_
          refine hK30 _ _ ?_
          refine TK.seq_k fun K34 hK34 => ?_
          refine TK.seq_k fun K35 hK35 => ?_
          refine TK.reg ?_
          refine TL.p (C := cx) (gc := true) (p_mv rfl) rfl rfl ?_
          refine TL.nil ?_
          refine hK35 _ _ ?_
          refine TK.block ?_
          obtain ⟨o36, hO36, hA36⟩ := bind_some hX
          have E36 : ∀ (l43 : List UInt8) (env : Env) (h : Hp), (∃ b41 b42, keepE [0, 1, 7, 9, 10, 11] env = [(0, true, Enc.v (data1 : (List (List UInt8)))), (1, true, Enc.v (parity2 : Int)), (7, true, Enc.v (r15.1 : (List (List UInt8)))), (9, true, OL (α := (List UInt8)) b41 out22), (10, true, Enc.v (i23 : Int)), (11, true, OL (α := UInt8) b42 l43)] ∧ Nd [(b41, RL (α := (List UInt8)) 23 out22), (b42, RL (α := UInt8) 5 l43)] ∧ HSub [(b41, RL (α := (List UInt8)) 23 out22), (b42, RL (α := UInt8) 5 l43)] h) → X.cartridgeref1_Encode_e36 out22 i23 l43 = some x20x → K34 env h := by
            intro l43 env h hE hX
            obtain ⟨b41, b42, henv, nd, hs⟩ := hE
            unfold X.cartridgeref1_Encode_e36 at hX
            refine hK34 _ _ (TK.keep [0, 1, 7, 9, 10, 11] ?_)
            rw [henv]
            refine TK.subH hs ?_
            refine TK.reg ?_
            refine TL.p (C := cx) (gc := true) (p_mv rfl) rfl rfl ?_
            refine TL.p (C := cx) (gc := true) (p_mv rfl) rfl rfl ?_
            refine TL.lay [(103, L l43)] nd (j := 1) rfl ⟨⟨_, rfl, fix_OL nd (j := 1) rfl, rfl⟩, trivial⟩ fun nd => ?_
            refine TL.lit (C := cx) ([l43] : List (List UInt8)) kd22 ty23 rfl ⟨⟨rfl, rfl⟩, trivial⟩ rfl rfl rfl ?_
            obtain ⟨u44, hu44, hX⟩ := bind_some hX
            refine TL.appO (C := cx) nd kd22 bo22 ty23 rfl rfl (j := 0) rfl rfl (Src_L _) (by decide) (need_t hu44) rfl fun nd => ?_
            refine TL.p (C := cx) (gc := true) (p_mv rfl) rfl rfl ?_
            refine TL.nil ?_
            refine hK29 _ _ ?_
            refine TK.reg ?_
            refine TL.p (C := cx) (gc := true) (p_mv rfl) rfl rfl ?_
            refine TL.p (C := cx) (gc := true) (p_add rfl rfl) rfl rfl ?_
            refine TL.p (C := cx) (gc := true) (p_mv rfl) rfl rfl ?_
            refine TL.nil ?_
            exact ⟨_, (some_in hX).symm, b41, rfl, (Nd.pick nd (is := [0]) (by decide)), (HSub.pick nd (is := [0]) (by decide))⟩
          refine TK.iter [0, 1, 7, 9, 10, 11, 12] (fun s env h => match s with | (row39, k40) => ∃ b37 b38, env = [(0, true, Enc.v (data1 : (List (List UInt8)))), (1, true, Enc.v (parity2 : Int)), (7, true, Enc.v (r15.1 : (List (List UInt8)))), (9, true, OL (α := (List UInt8)) b37 out22), (10, true, Enc.v (i23 : Int)), (11, true, OL (α := UInt8) b38 row39), (12, true, Enc.v (k40 : Int))] ∧ Nd [(b37, RL (α := (List UInt8)) 23 out22), (b38, RL (α := UInt8) 5 row39)] ∧ HSub [(b37, RL (α := (List UInt8)) 23 out22), (b38, RL (α := UInt8) 5 row39)] h) hO36 ⟨b21, b33, rfl, (Nd.pick nd (is := [1, 0]) (by decide)), (HSub.pick nd (is := [1, 0]) (by decide))⟩ ?_
          rintro ⟨row39, k40⟩ env h x36x ⟨b37, b38, rfl, nd, hs⟩ hX hR36
          refine TK.subH hs ?_
          unfold X.cartridgeref1_Encode_s36 at hX
          try dsimp only at hX
          refine TK.seq_k fun K45 hK45 => ?_
          refine TK.seq_k fun K46 hK46 => ?_
          refine TK.reg ?_
          refine TL.p (C := cx) (gc := true) (p_mv rfl) rfl rfl ?_
          refine TL.p (C := cx) (gc := true) (p_mv rfl) rfl rfl ?_
          refine TL.p (C := cx) (gc := true) (p_lenR kd23 rfl (fun _ => refOK_of nd (j := 1) rfl rfl)) rfl rfl ?_
          refine TL.p (C := cx) (gc := true) (p_lss rfl rfl) rfl rfl ?_
          refine TL.nil ?_
          refine hK46 _ _ ?_
          refine TK.cond (b := (decide (k40 < (row39.length : Int)))) rfl (fun hc => ?_) (fun hc => ?_)
          · have hX := ite_t hc hX
            refine TK.skip ?_
            refine hK45 _ _ ?_
            refine TK.seq_k fun K47 hK47 => ?_
            refine TK.block ?_
            refine TK.seq_k fun K48 hK48 => ?_
            refine TK.reg ?_
            refine TL.p (C := cx) (gc := true) (p_mv rfl) rfl rfl ?_
            refine TL.nil ?_
            refine hK48 _ _ ?_
            refine TK.block ?_
            obtain ⟨o49, hO49, hA49⟩ := bind_some hX
            have E49 : ∀ (l56 : List UInt8) (env : Env) (h : Hp), (∃ b54 b55, keepE [0, 1, 7, 9, 10, 11, 12] env = [(0, true, Enc.v (data1 : (List (List UInt8)))), (1, true, Enc.v (parity2 : Int)), (7, true, Enc.v (r15.1 : (List (List UInt8)))), (9, true, OL (α := (List UInt8)) b54 out22), (10, true, Enc.v (i23 : Int)), (11, true, OL (α := UInt8) b55 l56), (12, true, Enc.v (k40 : Int))] ∧ Nd [(b54, RL (α := (List UInt8)) 23 out22), (b55, RL (α := UInt8) 5 l56)] ∧ HSub [(b54, RL (α := (List UInt8)) 23 out22), (b55, RL (α := UInt8) 5 l56)] h) → X.cartridgeref1_Encode_e49 k40 l56 = some x36x → K47 env h := by
              intro l56 env h hE hX
              obtain ⟨b54, b55, henv, nd, hs⟩ := hE
              unfold X.cartridgeref1_Encode_e49 at hX
              refine hK47 _ _ (TK.keep [0, 1, 7, 9, 10, 11, 12] ?_)
              rw [henv]
              refine TK.subH hs ?_
              refine TK.reg ?_
              refine TL.p (C := cx) (gc := true) (p_mv rfl) rfl rfl ?_
              refine TL.p (C := cx) (gc := true) (p_add rfl rfl) rfl rfl ?_
              refine TL.p (C := cx) (gc := true) (p_mv rfl) rfl rfl ?_
              refine TL.nil ?_
              exact ⟨_, (some_in hX).symm, b54, b55, rfl, (Nd.pick nd (is := [0, 1]) (by decide)), (HSub.pick nd (is := [0, 1]) (by decide))⟩
            refine TK.iter [0, 1, 7, 9, 10, 11, 12, 13] (fun s env h => match s with | (row52, j53) => ∃ b50 b51, env = [(0, true, Enc.v (data1 : (List (List UInt8)))), (1, true, Enc.v (parity2 : Int)), (7, true, Enc.v (r15.1 : (List (List UInt8)))), (9, true, OL (α := (List UInt8)) b50 out22), (10, true, Enc.v (i23 : Int)), (11, true, OL (α := UInt8) b51 row52), (12, true, Enc.v (k40 : Int)), (13, true, Enc.v (j53 : Int))] ∧ Nd [(b50, RL (α := (List UInt8)) 23 out22), (b51, RL (α := UInt8) 5 row52)] ∧ HSub [(b50, RL (α := (List UInt8)) 23 out22), (b51, RL (α := UInt8) 5 row52)] h) hO49 ⟨b37, b38, rfl, (Nd.pick nd (is := [0, 1]) (by decide)), (HSub.pick nd (is := [0, 1]) (by decide))⟩ ?_
            rintro ⟨row52, j53⟩ env h x49x ⟨b50, b51, rfl, nd, hs⟩ hX hR49
            refine TK.subH hs ?_
            unfold X.cartridgeref1_Encode_s49 at hX
            try dsimp only at hX
            refine TK.seq_k fun K57 hK57 => ?_
            refine TK.seq_k fun K58 hK58 => ?_
            refine TK.reg ?_
            refine TL.p (C := cx) (gc := true) (p_mv rfl) rfl rfl ?_
            refine TL.p (C := cx) (gc := true) (p_mv rfl) rfl rfl ?_
            refine TL.p (C := cx) (gc := true) (p_lenL (xs := data1) kd22 rfl) rfl rfl ?_
            refine TL.p (C := cx) (gc := true) (p_lss rfl rfl) rfl rfl ?_
            refine TL.nil ?_
            refine hK58 _ _ ?_
            refine TK.cond (b := (decide (j53 < (data1.length : Int)))) rfl (fun hc => ?_) (fun hc => ?_)
            · have hX := ite_t hc hX
              refine TK.skip ?_
              refine hK57 _ _ ?_
              refine TK.seq_k fun K59 hK59 => ?_
              refine TK.block ?_
              refine TK.pick [1, 0] nd (by decide) fun nd => ?_
              have ndS : Nd [(b50, RL (α := (List UInt8)) 23 out22)] := Nd.pick nd (is := [1]) (by decide)
              refine TK.endK fun KD hKD => ?_
              refine TK.drwX (h := [(b51, RL (α := UInt8) 5 row52)]) (hS := [(b50, RL (α := (List UInt8)) 23 out22)]) [(0, 0), (0, 1), (0, 2), (0, 3), (1, 4), (1, 5), (0, 6), (0, 7), (0, 8), (0, 9), (0, 10), (0, 11), (0, 12), (0, 13), (0, 14), (0, 15), (0, 16), (0, 17), (0, 18), (0, 19), (0, 20), (0, 21), (1, 22), (2, 23)] mixed (by kernel_rfl) (HSub_app nd) ?_
              refine DR0 (gc := true) rfl (vok_p (C := cx) (p_mv rfl)) rfl rfl ?_
              refine DR0 (gc := true) rfl (vok_p (C := cx) (p_mv rfl)) rfl rfl ?_
              refine DR0 (gc := true) rfl (vok_p (C := cx) (p_mv rfl)) rfl rfl ?_
              refine DR0 (gc := true) rfl (vok_p (C := cx) (p_mv rfl)) rfl rfl ?_
              obtain ⟨e60, he60, hX⟩ := bind_some hX
              refine DR1 (gc := true) rfl (vok_p (C := cx) (p_iaO (xs := row52) kd23 ty5 rfl rfl rfl nd (j := 0) rfl (fun _ => he60))) rfl rfl ?_
              refine DR1 (gc := true) rfl (vok_p (C := cx) (p_ldO (xs := row52) (a := e60) (e60 : UInt8) ty5 rfl rfl nd (j := 0) rfl (fun _ => he60) rfl rfl rfl)) rfl rfl ?_
              refine DR0 (gc := true) rfl (vok_p (C := cx) (p_mv rfl)) rfl rfl ?_
              refine DR0 (gc := true) rfl (vok_p (C := cx) (p_mv rfl)) rfl rfl ?_
              obtain ⟨e61, he61, hX⟩ := bind_some hX
              refine DR0 (gc := true) rfl (vok_p (C := cx) (p_iaL (xs := r15.1) kd22 ty23 rfl rfl rfl (fun _ => he61))) rfl rfl ?_
              refine DR0 (gc := true) rfl (vok_p (C := cx) (p_ldE (xs := r15.1) (a := e61) (e61 : (List UInt8)) ty23 rfl rfl (fun _ => he61) rfl rfl rfl)) rfl rfl ?_
              refine DR0 (gc := true) rfl (vok_p (C := cx) (p_mv rfl)) rfl rfl ?_
              obtain ⟨e62, he62, hX⟩ := bind_some hX
              refine DR0 (gc := true) rfl (vok_p (C := cx) (p_iaL (xs := e61) kd23 ty5 rfl rfl rfl (fun _ => he62))) rfl rfl ?_
              refine DR0 (gc := true) rfl (vok_p (C := cx) (p_ldE (xs := e61) (a := e62) (e62 : UInt8) ty5 rfl rfl (fun _ => he62) rfl rfl rfl)) rfl rfl ?_
              refine DR0 (gc := true) rfl (vok_p (C := cx) (p_mv rfl)) rfl rfl ?_
              refine DR0 (gc := true) rfl (vok_p (C := cx) (p_mv rfl)) rfl rfl ?_
              obtain ⟨e63, he63, hX⟩ := bind_some hX
              refine DR0 (gc := true) rfl (vok_p (C := cx) (p_iaL (xs := data1) kd22 ty23 rfl rfl rfl (fun _ => he63))) rfl rfl ?_
              refine DR0 (gc := true) rfl (vok_p (C := cx) (p_ldE (xs := data1) (a := e63) (e63 : (List UInt8)) ty23 rfl rfl (fun _ => he63) rfl rfl rfl)) rfl rfl ?_
              refine DR0 (gc := true) rfl (vok_p (C := cx) (p_mv rfl)) rfl rfl ?_
              obtain ⟨e64, he64, hX⟩ := bind_some hX
              refine DR0 (gc := true) rfl (vok_p (C := cx) (p_iaL (xs := e63) kd23 ty5 rfl rfl rfl (fun _ => he64))) rfl rfl ?_
              refine DR0 (gc := true) rfl (vok_p (C := cx) (p_ldE (xs := e63) (a := e64) (e64 : UInt8) ty5 rfl rfl (fun _ => he64) rfl rfl rfl)) rfl rfl ?_
              obtain ⟨r65, hr65, hX⟩ := bind_some hX
              refine DR0 (gc := true) rfl (vok_c rfl (fun _ => ⟨rfl, ⟨rfl, ⟨rfl, trivial⟩⟩⟩) (fun e => ok_cartridgeref1_Mul e62 e64 _ hr65)) rfl rfl ?_
              refine DR0 (gc := true) rfl (vok_p (C := cx) (p8_xor (a := e60) (b := r65) rfl rfl)) rfl rfl ?_
              obtain ⟨e66, he66, hX⟩ := bind_some hX
              refine DR1 (gc := true) rfl (vok_p (C := cx) (p_iaO (xs := row52) kd23 ty5 rfl rfl rfl nd (j := 0) rfl (fun _ => he66))) rfl rfl ?_
              refine DR2n rfl ?_
              refine TL.stW (C := cx) (xs := row52) (i := k40) (lu := Enc.cl ((e60 ^^^ r65) : UInt8)) (a' := (e60 ^^^ r65)) nd ty5 rfl (j := 0) rfl (by simp [Enc.sz]) (inb_of he66 (by simp)) rfl (Cells_v ((e60 ^^^ r65) : UInt8)) rfl (WkL_refl _) fun nd => ?_
              refine TL.nil ⟨.nilp, [(b51, RL (α := UInt8) 5 (row52.set k40.toNat (e60 ^^^ r65)))], rfl, rfl, HSub_app nd, ?_⟩
              refine DRend ?_
              refine hKD _ _ ?_
              refine TL.cv 11 (OL (α := UInt8) b51 (row52.set k40.toNat (e60 ^^^ r65))) rfl (Wk_eq (OL_len (by simp))) ?_
              refine TL.nil ?_
              refine hK59 _ _ ?_
              refine TK.reg ?_
              refine TL.p (C := cx) (gc := true) (p_mv rfl) rfl rfl ?_
              refine TL.p (C := cx) (gc := true) (p_add rfl rfl) rfl rfl ?_
              refine TL.p (C := cx) (gc := true) (p_mv rfl) rfl rfl ?_
              refine TL.nil ?_
              exact ⟨_, (some_in hX).symm, b50, b51, rfl, (Nd.pick nd (is := [1, 0]) (by decide)), (HSub.pick nd (is := [1, 0]) (by decide))⟩
            · have hX := ite_f hc hX
              refine TK.exit ?_
              obtain rfl := hR49 _ (some_in hX).symm
              exact E49 row52 _ _ ⟨b50, b51, rfl, (Nd.pick nd (is := [0, 1]) (by decide)), (HSub.pick nd (is := [0, 1]) (by decide))⟩ hA49
          · have hX := ite_f hc hX
            refine TK.exit ?_
            obtain rfl := hR36 _ (some_in hX).symm
            exact E36 row39 _ _ ⟨b37, b38, rfl, (Nd.pick nd (is := [0, 1]) (by decide)), (HSub.pick nd (is := [0, 1]) (by decide))⟩ hA36
        · have hX := ite_f hc hX
          refine TK.exit ?_
          obtain rfl := hR20 _ (some_in hX).symm
          exact E20 out22 _ _ ⟨b21, rfl, (Nd.pick nd (is := [0]) (by decide)), (HSub.pick nd (is := [0]) (by decide))⟩ hA20
    refine TK.iter [0, 1, 6] (fun s env h => match s with | i10 => ∃ _u : Unit, env = [(0, true, Enc.v (data1 : (List (List UInt8)))), (1, true, Enc.v (parity2 : Int)), (6, true, Enc.v (i10 : Int))] ∧ Nd [] ∧ HSub [] h) hO9 ⟨(), rfl, Nd_nil, HSub.refl _⟩ ?_
    rintro i10 env h x9x ⟨_u, rfl, nd, hs⟩ hX hR9
    refine TK.subH hs ?_
    unfold X.cartridgeref1_Encode_s9 at hX
    try dsimp only at hX
    refine TK.seq_k fun K67 hK67 => ?_
    refine TK.seq_k fun K68 hK68 => ?_
    refine TK.reg ?_
    refine TL.p (C := cx) (gc := true) (p_mv rfl) rfl rfl ?_
    refine TL.p (C := cx) (gc := true) (p_mv rfl) rfl rfl ?_
    refine TL.p (C := cx) (gc := true) (p_lenL (xs := data1) kd22 rfl) rfl rfl ?_
    refine TL.p (C := cx) (gc := true) (p_lss rfl rfl) rfl rfl ?_
    refine TL.nil ?_
    refine hK68 _ _ ?_
    refine TK.cond (b := (decide (i10 < (data1.length : Int)))) rfl (fun hc => ?_) (fun hc => ?_)
    · have hX := ite_t hc hX
      refine TK.skip ?_
      refine hK67 _ _ ?_
      refine TK.seq_k fun K69 hK69 => ?_
      refine TK.block ?_
      refine TK.seq_k fun K70 hK70 => ?_
      have ndS : Nd [] := Nd.pick nd (is := []) (by decide)
      refine TK.drwX (h := []) (hS := []) [(0, 0), (0, 1), (0, 2), (0, 3), (0, 4), (0, 5), (0, 6), (0, 7), (0, 8), (0, 9)] mixed (by kernel_rfl) (HSub_app nd) ?_
      refine DR0 (gc := true) rfl (vok_p (C := cx) (p_mv rfl)) rfl rfl ?_
      refine DR0 (gc := true) rfl (vok_p (C := cx) (p_mv rfl)) rfl rfl ?_
      obtain ⟨e71, he71, hX⟩ := bind_some hX
      refine DR0 (gc := true) rfl (vok_p (C := cx) (p_iaL (xs := data1) kd22 ty23 rfl rfl rfl (fun _ => he71))) rfl rfl ?_
      refine DR0 (gc := true) rfl (vok_p (C := cx) (p_ldE (xs := data1) (a := e71) (e71 : (List UInt8)) ty23 rfl rfl (fun _ => he71) rfl rfl rfl)) rfl rfl ?_
      refine DR0 (gc := true) rfl (vok_p (C := cx) (p_lenL (xs := e71) kd23 rfl)) rfl rfl ?_
      refine DR0 (gc := true) rfl (vok_p (C := cx) (p_mv rfl)) rfl rfl ?_
      obtain ⟨e72, he72, hX⟩ := bind_some hX
      refine DR0 (gc := true) rfl (vok_p (C := cx) (p_iaL (xs := data1) kd22 ty23 rfl rfl rfl (fun _ => he72))) rfl rfl ?_
      refine DR0 (gc := true) rfl (vok_p (C := cx) (p_ldE (xs := data1) (a := e72) (e72 : (List UInt8)) ty23 rfl rfl (fun _ => he72) rfl rfl rfl)) rfl rfl ?_
      refine DR0 (gc := true) rfl (vok_p (C := cx) (p_lenL (xs := e72) kd23 rfl)) rfl rfl ?_
      refine DR0 (gc := true) rfl (vok_p (C := cx) (p_neq rfl rfl)) rfl rfl ?_
      refine DRend ?_
      refine hK70 _ _ ?_
      refine TK.cond (b := ((e71.length : Int) != (e72.length : Int))) rfl (fun hc => ?_) (fun hc => ?_)
      · have hX := ite_t hc hX
        refine TK.seq_k fun K73 hK73 => ?_
        refine TK.reg ?_
        refine TL.p (C := cx) (gc := true) (p_mv rfl) rfl rfl ?_
        refine TL.p (C := cx) (gc := true) (p_mv rfl) rfl rfl ?_
        refine TL.nil ?_
        refine hK73 _ _ ?_
        refine TK.wk 4 (L ([] : (List (List UInt8)))) rfl Wk_nil ?_
        refine TK.ret ?_
        obtain rfl := hR9 _ (some_in hX).symm
        replace hX := hA9
        try dsimp only [thenQ]
        exact retN (vs := [Enc.v (([] : (List (List UInt8))) : (List (List UInt8))), Enc.v ((1 : Int) : Int)]) ⟨rfl, rfl, trivial⟩ (by obtain rfl := some_in hX; rfl) (allVal.mem ⟨v_val _, v_val _, trivial⟩)
      · have hX := ite_f hc hX
        refine TK.skip ?_
        refine hK69 _ _ ?_
        refine TK.reg ?_
        refine TL.p (C := cx) (gc := true) (p_mv rfl) rfl rfl ?_
        refine TL.p (C := cx) (gc := true) (p_add rfl rfl) rfl rfl ?_
        refine TL.p (C := cx) (gc := true) (p_mv rfl) rfl rfl ?_
        refine TL.nil ?_
        exact ⟨_, (some_in hX).symm, (), rfl, Nd_nil, HSub.refl _⟩
    · have hX := ite_f hc hX
      refine TK.exit ?_
      obtain rfl := hR9 _ (some_in hX).symm
      exact E9 _ _ ⟨(), rfl, Nd_nil, HSub.refl _⟩ hA9

/-- cartridge/cartridgeref1.RightMatrix -/
theorem ok_cartridgeref1_RightMatrix (m1 : (List (List UInt8))) (r : Bool) (hX : X.cartridgeref1_RightMatrix m1 = some r) : Fun Try.prog 16 [Enc.v (m1 : (List (List UInt8)))] (· = Enc.v (r : Bool)) := by
  refine Fun.of b16 (Nat.le_of_ble_eq_true rfl) (allVal.mem ⟨(by exact (v_val _)), trivial⟩) ?_
  unfold k16
  have nd : Nd [] := Nd_nil
  unfold X.cartridgeref1_RightMatrix at hX
  refine TK.seq_k fun K2 hK2 => ?_
  refine TK.reg ?_
  refine TL.p (C := cx) (gc := true) (p_mv rfl) rfl rfl ?_
  refine TL.nil ?_
  refine hK2 _ _ ?_
  refine TK.seq_k fun K3 hK3 => ?_
  refine TK.seq_k fun K4 hK4 => ?_
  refine TK.reg ?_
  refine TL.p (C := cx) (gc := true) (p_mv rfl) rfl rfl ?_
  refine TL.p (C := cx) (gc := true) (p_lenL (xs := m1) kd22 rfl) rfl rfl ?_
  refine TL.p (C := cx) (gc := true) (p_lss rfl rfl) rfl rfl ?_
  refine TL.p (C := cx) (gc := true) (p_mv rfl) rfl rfl ?_
  refine TL.p (C := cx) (gc := (!((decide ((m1.length : Int) < (1 : Int)))))) (p_mv rfl (hg := fun e => rfl)) (gcF1 rfl) rfl ?_
  refine TL.p (C := cx) (gc := (!((decide ((m1.length : Int) < (1 : Int)))))) (p_lenL (xs := m1) kd22 rfl (hg := fun e => e)) (gcF1 rfl) rfl ?_
  refine TL.p (C := cx) (gc := (!((decide ((m1.length : Int) < (1 : Int)))))) (p_gtr rfl rfl (hg := fun e => ⟨e, rfl⟩)) (gcF1 rfl) rfl ?_
  refine TL.p (C := cx) (gc := true) (p_or rfl rfl (fun e => ⟨rfl, fun h => (not_t h)⟩)) rfl rfl ?_
  refine TL.p (C := cx) (gc := true) (p_mv rfl) rfl rfl ?_
  refine TL.p (C := cx) (gc := (!(((decide ((m1.length : Int) < (1 : Int))) || (decide ((m1.length : Int) > (255 : Int))))))) (p_mv rfl (hg := fun e => rfl)) (gcF1 rfl) rfl ?_
  obtain ⟨e5, he5, hX⟩ := bind_some hX
  refine TL.p (C := cx) (gc := (!(((decide ((m1.length : Int) < (1 : Int))) || (decide ((m1.length : Int) > (255 : Int))))))) (p_iaL (xs := m1) kd22 ty23 rfl rfl rfl (fun e => optG_t he5 e) (hg := fun e => ⟨e, rfl⟩)) (gcF1 rfl) rfl ?_
  refine TL.p (C := cx) (gc := (!(((decide ((m1.length : Int) < (1 : Int))) || (decide ((m1.length : Int) > (255 : Int))))))) (p_ldE (xs := m1) (a := e5) (e5 : (List UInt8)) ty23 rfl rfl (fun e => optG_t he5 e) rfl rfl rfl (hg := fun e => e)) (gcF1 rfl) rfl ?_
  refine TL.p (C := cx) (gc := (!(((decide ((m1.length : Int) < (1 : Int))) || (decide ((m1.length : Int) > (255 : Int))))))) (p_lenL (xs := e5) kd23 rfl (hg := fun e => e)) (gcF1 rfl) rfl ?_
  refine TL.p (C := cx) (gc := (!(((decide ((m1.length : Int) < (1 : Int))) || (decide ((m1.length : Int) > (255 : Int))))))) (p_lss rfl rfl (hg := fun e => ⟨e, rfl⟩)) (gcF1 rfl) rfl ?_
  refine TL.p (C := cx) (gc := true) (p_or rfl rfl (fun e => ⟨rfl, fun h => (not_t h)⟩)) rfl rfl ?_
  refine TL.p (C := cx) (gc := true) (p_mv rfl) rfl rfl ?_
  refine TL.p (C := cx) (gc := (!((((decide ((m1.length : Int) < (1 : Int))) || (decide ((m1.length : Int) > (255 : Int)))) || (decide ((e5.length : Int) < (1 : Int))))))) (p_mv rfl (hg := fun e => rfl)) (gcF1 rfl) rfl ?_
  obtain ⟨e6, he6, hX⟩ := bind_some hX
  refine TL.p (C := cx) (gc := (!((((decide ((m1.length : Int) < (1 : Int))) || (decide ((m1.length : Int) > (255 : Int)))) || (decide ((e5.length : Int) < (1 : Int))))))) (p_iaL (xs := m1) kd22 ty23 rfl rfl rfl (fun e => optG_t he6 e) (hg := fun e => ⟨e, rfl⟩)) (gcF1 rfl) rfl ?_
  refine TL.p (C := cx) (gc := (!((((decide ((m1.length : Int) < (1 : Int))) || (decide ((m1.length : Int) > (255 : Int)))) || (decide ((e5.length : Int) < (1 : Int))))))) (p_ldE (xs := m1) (a := e6) (e6 : (List UInt8)) ty23 rfl rfl (fun e => optG_t he6 e) rfl rfl rfl (hg := fun e => e)) (gcF1 rfl) rfl ?_
  refine TL.p (C := cx) (gc := (!((((decide ((m1.length : Int) < (1 : Int))) || (decide ((m1.length : Int) > (255 : Int)))) || (decide ((e5.length : Int) < (1 : Int))))))) (p_lenL (xs := e6) kd23 rfl (hg := fun e => e)) (gcF1 rfl) rfl ?_
  refine TL.p (C := cx) (gc := (!((((decide ((m1.length : Int) < (1 : Int))) || (decide ((m1.length : Int) > (255 : Int)))) || (decide ((e5.length : Int) < (1 : Int))))))) (p_gtr rfl rfl (hg := fun e => ⟨e, rfl⟩)) (gcF1 rfl) rfl ?_
  refine TL.p (C := cx) (gc := true) (p_or rfl rfl (fun e => ⟨rfl, fun h => (not_t h)⟩)) rfl rfl ?_
  refine TL.nil ?_
  refine hK4 _ _ ?_
  refine TK.cond (b := ((((decide ((m1.length : Int) < (1 : Int))) || (decide ((m1.length : Int) > (255 : Int)))) || (decide ((e5.length : Int) < (1 : Int)))) || (decide ((e6.length : Int) > (255 : Int))))) rfl (fun hc => ?_) (fun hc => ?_)
  · have hX := ite_t hc hX
    refine TK.seq_k fun K7 hK7 => ?_
    refine TK.reg ?_
    refine TL.p (C := cx) (gc := true) (p_mv rfl) rfl rfl ?_
    refine TL.nil ?_
    refine hK7 _ _ ?_
    refine TK.ret ?_
    try dsimp only [thenQ]
    exact ret1 (v := Enc.v (false : Bool)) rfl (by obtain rfl := some_in hX; rfl) (v_val _)
  · have hX := ite_f hc hX
    refine TK.skip ?_
    refine hK3 _ _ ?_
    refine TK.seq_k fun K8 hK8 => ?_
    refine TK.seq_k fun K9 hK9 => ?_
    refine TK.reg ?_
    refine TL.p (C := cx) (gc := true) (p_mv rfl) rfl rfl ?_
    refine TL.nil ?_
    refine hK9 _ _ ?_
    refine TK.block ?_
    obtain ⟨o10, hO10, hA10⟩ := bind_some hX
    have E10 : ∀ (env : Env) (h : Hp), (∃ _u : Unit, keepE [] env = [] ∧ Nd [] ∧ HSub [] h) → X.cartridgeref1_RightMatrix_e10 = some r → K8 env h := by
      intro  env h hE hX
      obtain ⟨_u, henv, nd, hs⟩ := hE
      unfold X.cartridgeref1_RightMatrix_e10 at hX
      refine hK8 _ _ (TK.keep [] ?_)
      rw [henv]
      refine TK.subH hs ?_
      refine TK.seq_k fun K12 hK12 => ?_
      refine TK.reg ?_
      refine TL.p (C := cx) (gc := true) (p_mv rfl) rfl rfl ?_
      refine TL.nil ?_
      refine hK12 _ _ ?_
      refine TK.ret ?_
      try dsimp only [thenQ]
      exact ret1 (v := Enc.v (true : Bool)) rfl (by obtain rfl := some_in hX; rfl) (v_val _)
    refine TK.iter [0, 3] (fun s env h => match s with | i11 => ∃ _u : Unit, env = [(0, true, Enc.v (m1 : (List (List UInt8)))), (3, true, Enc.v (i11 : Int))] ∧ Nd [] ∧ HSub [] h) hO10 ⟨(), rfl, Nd_nil, HSub.refl _⟩ ?_
    rintro i11 env h x10x ⟨_u, rfl, nd, hs⟩ hX hR10
    refine TK.subH hs ?_
    unfold X.cartridgeref1_RightMatrix_s10 at hX
    try dsimp only at hX
    refine TK.seq_k fun K13 hK13 => ?_
    refine TK.seq_k fun K14 hK14 => ?_
    refine TK.reg ?_
    refine TL.p (C := cx) (gc := true) (p_mv rfl) rfl rfl ?_
    refine TL.p (C := cx) (gc := true) (p_mv rfl) rfl rfl ?_
    refine TL.p (C := cx) (gc := true) (p_lenL (xs := m1) kd22 rfl) rfl rfl ?_
    refine TL.p (C := cx) (gc := true) (p_lss rfl rfl) rfl rfl ?_
    refine TL.nil ?_
    refine hK14 _ _ ?_
    refine TK.cond (b := (decide (i11 < (m1.length : Int)))) rfl (fun hc => ?_) (fun hc => ?_)
    · have hX := ite_t hc hX
      refine TK.skip ?_
      refine hK13 _ _ ?_
      refine TK.seq_k fun K15 hK15 => ?_
      refine TK.block ?_
      refine TK.seq_k fun K16 hK16 => ?_
      have ndS : Nd [] := Nd.pick nd (is := []) (by decide)
      refine TK.drwX (h := []) (hS := []) [(0, 0), (0, 1), (0, 2), (0, 3), (0, 4), (0, 5), (0, 6), (0, 7), (0, 8), (0, 9)] mixed (by kernel_rfl) (HSub_app nd) ?_
      refine DR0 (gc := true) rfl (vok_p (C := cx) (p_mv rfl)) rfl rfl ?_
      refine DR0 (gc := true) rfl (vok_p (C := cx) (p_mv rfl)) rfl rfl ?_
      obtain ⟨e17, he17, hX⟩ := bind_some hX
      refine DR0 (gc := true) rfl (vok_p (C := cx) (p_iaL (xs := m1) kd22 ty23 rfl rfl rfl (fun _ => he17))) rfl rfl ?_
      refine DR0 (gc := true) rfl (vok_p (C := cx) (p_ldE (xs := m1) (a := e17) (e17 : (List UInt8)) ty23 rfl rfl (fun _ => he17) rfl rfl rfl)) rfl rfl ?_
      refine DR0 (gc := true) rfl (vok_p (C := cx) (p_lenL (xs := e17) kd23 rfl)) rfl rfl ?_
      refine DR0 (gc := true) rfl (vok_p (C := cx) (p_mv rfl)) rfl rfl ?_
      obtain ⟨e18, he18, hX⟩ := bind_some hX
      refine DR0 (gc := true) rfl (vok_p (C := cx) (p_iaL (xs := m1) kd22 ty23 rfl rfl rfl (fun _ => he18))) rfl rfl ?_
      refine DR0 (gc := true) rfl (vok_p (C := cx) (p_ldE (xs := m1) (a := e18) (e18 : (List UInt8)) ty23 rfl rfl (fun _ => he18) rfl rfl rfl)) rfl rfl ?_
      refine DR0 (gc := true) rfl (vok_p (C := cx) (p_lenL (xs := e18) kd23 rfl)) rfl rfl ?_
      refine DR0 (gc := true) rfl (vok_p (C := cx) (p_neq rfl rfl)) rfl rfl ?_
      refine DRend ?_
      refine hK16 _ _ ?_
      refine TK.cond (b := ((e17.length : Int) != (e18.length : Int))) rfl (fun hc => ?_) (fun hc => ?_)
      · have hX := ite_t hc hX
        refine TK.seq_k fun K19 hK19 => ?_
        refine TK.reg ?_
        refine TL.p (C := cx) (gc := true) (p_mv rfl) rfl rfl ?_
        refine TL.nil ?_
        refine hK19 _ _ ?_
        refine TK.ret ?_
        obtain rfl := hR10 _ (some_in hX).symm
        replace hX := hA10
        try dsimp only [thenQ]
        exact ret1 (v := Enc.v (false : Bool)) rfl (by obtain rfl := some_in hX; rfl) (v_val _)
      · have hX := ite_f hc hX
        refine TK.skip ?_
        refine hK15 _ _ ?_
        refine TK.reg ?_
        refine TL.p (C := cx) (gc := true) (p_mv rfl) rfl rfl ?_
        refine TL.p (C := cx) (gc := true) (p_add rfl rfl) rfl rfl ?_
        refine TL.p (C := cx) (gc := true) (p_mv rfl) rfl rfl ?_
        refine TL.nil ?_
        exact ⟨_, (some_in hX).symm, (), rfl, Nd_nil, HSub.refl _⟩
    · have hX := ite_f hc hX
      refine TK.exit ?_
      obtain rfl := hR10 _ (some_in hX).symm
      exact E10 _ _ ⟨(), rfl, Nd_nil, HSub.refl _⟩ hA10

end Go.Proofs.Ytgkbjnhpmlfgdaa
