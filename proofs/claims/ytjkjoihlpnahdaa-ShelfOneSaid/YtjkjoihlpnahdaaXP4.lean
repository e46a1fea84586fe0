import Derived.Test.YtjkjoihlpnahdaaXFn
import Derived.Test.YtjkjoihlpnahdaaXS
import Derived.Test.YtjkjoihlpnahdaaAmK0
import Derived.Test.YtjkjoihlpnahdaaAmK1
import Derived.Test.YtjkjoihlpnahdaaXP3
/- That they do. -/
namespace Go.Proofs.Ytjkjoihlpnahdaa
open Go.AM Go.AX
set_option linter.unusedVariables false
set_option maxRecDepth 20000

/-- cartridge/cartridgelaw22.ShelfPlays -/
theorem ok_cartridgelaw22_ShelfPlays (labels1 : (List Int)) (drives2 : Int) (l3 : (List Act_law22)) (r : Bool) (hX : X.cartridgelaw22_ShelfPlays labels1 drives2 l3 = some r) : Fun Try.prog 6 [Enc.v (labels1 : (List Int)), Enc.v (drives2 : Int), Enc.v (l3 : (List Act_law22))] (· = Enc.v (r : Bool)) := by
  refine Fun.of b6 (Nat.le_of_ble_eq_true rfl) (allVal.mem ⟨(by exact (v_val _)), (by exact (v_val _)), (by exact (v_val _)), trivial⟩) ?_
  unfold k6
  have nd : Nd [] := Nd_nil
  unfold X.cartridgelaw22_ShelfPlays at hX
  refine TK.seq_k fun K4 hK4 => ?_
  refine TK.reg ?_
  refine TL.p (C := cx) (gc := true) (p_mv rfl) rfl rfl ?_
  refine TL.nil ?_
  refine hK4 _ _ ?_
  refine TK.seq_k fun K5 hK5 => ?_
  refine TK.reg ?_
  obtain ⟨r6, hr6, hX⟩ := bind_some hX
  refine TL.cvX rfl rfl rfl (fun _ => ⟨rfl, trivial⟩) (fun e => ok_cartridgelaw22_alive  _ hr6) ?_
  refine TL.p (C := cx) (gc := true) (p_mv rfl) rfl rfl ?_
  refine TL.nil ?_
  refine hK5 _ _ ?_
  refine TK.seq_k fun K7 hK7 => ?_
  refine TK.seq_k fun K8 hK8 => ?_
  refine TK.reg ?_
  refine TL.p (C := cx) (gc := true) (p_mv rfl) rfl rfl ?_
  refine TL.p (C := cx) (gc := true) (p_not rfl) rfl rfl ?_
  refine TL.p (C := cx) (gc := true) (p_mv rfl) rfl rfl ?_
  refine TL.p (C := cx) (gc := (!((!r6)))) (p_mv rfl (hg := fun e => rfl)) (gcF1 rfl) rfl ?_
  refine TL.p (C := cx) (gc := (!((!r6)))) (p_lenL (xs := labels1) kd22 rfl (hg := fun e => e)) (gcF1 rfl) rfl ?_
  refine TL.p (C := cx) (gc := (!((!r6)))) (p_gtr rfl rfl (hg := fun e => ⟨e, rfl⟩)) (gcF1 rfl) rfl ?_
  refine TL.p (C := cx) (gc := true) (p_or rfl rfl (fun e => ⟨rfl, fun h => (not_t h)⟩)) rfl rfl ?_
  refine TL.p (C := cx) (gc := true) (p_mv rfl) rfl rfl ?_
  refine TL.p (C := cx) (gc := (!(((!r6) || (decide ((labels1.length : Int) > (40 : Int))))))) (p_mv rfl (hg := fun e => rfl)) (gcF1 rfl) rfl ?_
  refine TL.p (C := cx) (gc := (!(((!r6) || (decide ((labels1.length : Int) > (40 : Int))))))) (p_lenL (xs := l3) kd47 rfl (hg := fun e => e)) (gcF1 rfl) rfl ?_
  refine TL.p (C := cx) (gc := (!(((!r6) || (decide ((labels1.length : Int) > (40 : Int))))))) (p_gtr rfl rfl (hg := fun e => ⟨e, rfl⟩)) (gcF1 rfl) rfl ?_
  refine TL.p (C := cx) (gc := true) (p_or rfl rfl (fun e => ⟨rfl, fun h => (not_t h)⟩)) rfl rfl ?_
  refine TL.nil ?_
  refine hK8 _ _ ?_
  refine TK.cond (b := (((!r6) || (decide ((labels1.length : Int) > (40 : Int)))) || (decide ((l3.length : Int) > (100 : Int))))) rfl (fun hc => ?_) (fun hc => ?_)
  · have hX := ite_t hc hX
    refine TK.seq_k fun K9 hK9 => ?_
    refine TK.reg ?_
    refine TL.p (C := cx) (gc := true) (p_mv rfl) rfl rfl ?_
    refine TL.p (C := cx) (gc := true) (p_mv rfl) rfl rfl ?_
    refine TL.nil ?_
    refine hK9 _ _ ?_
    refine TK.ret ?_
    try dsimp only [thenQ]
    exact ret1 (v := Enc.v (r6 : Bool)) rfl (by obtain rfl := some_in hX; rfl) (v_val _)
  · have hX := ite_f hc hX
    refine TK.skip ?_
    refine hK7 _ _ ?_
    refine TK.seq_k fun K10 hK10 => ?_
    refine TK.reg ?_
    refine TL.p (C := cx) (gc := true) (p_mv rfl) rfl rfl ?_
    obtain ⟨u11, hu11, hX⟩ := bind_some hX
    refine TL.appN (C := cx) nd kd22 bo22 ty3 rfl rfl (.inl rfl) rfl (Src_L _) (by decide) (need_t hu11) rfl fun b12 nd => ?_
    refine TL.p (C := cx) (gc := true) (p_mv rfl) rfl rfl ?_
    refine TL.lay [(30, L labels1)] nd (j := 0) rfl ⟨⟨_, rfl, fix_OL nd (j := 0) rfl, rfl⟩, trivial⟩ fun nd => ?_
    obtain ⟨r13, hr13, hX⟩ := bind_some hX
    refine TL.tcX [] [] rfl nd (dlt rfl) rfl ⟨rfl, ⟨rfl, ⟨rfl, trivial⟩⟩⟩ (ok_shelf_New labels1 drives2 (Nd.take nd 0 rfl) _ hr13) ?_
    rintro _ _ hQ nd
    cases hqr13 : r13.1 with
    | none =>
      simp only [hqr13] at hQ hX
      obtain ⟨rfl, rfl⟩ := hQ
      refine TL.p (C := cx) (gc := true) (p_mv rfl) rfl rfl ?_
      refine TL.p (C := cx) (gc := true) (p_ex rfl rfl (by decide)) rfl rfl ?_
      refine TL.p (C := cx) (gc := true) (p_ex rfl rfl (by decide)) rfl rfl ?_
      refine TL.p (C := cx) (gc := true) (p_mv rfl) rfl rfl ?_
      refine TL.p (C := cx) (gc := true) (p_mv rfl) rfl rfl ?_
      refine TL.nil ?_
      refine hK10 _ _ ?_
      refine TK.seq_k fun K14 hK14 => ?_
      refine TK.reg ?_
      refine TL.p (C := cx) (gc := true) (p_mv rfl) rfl rfl ?_
      refine TL.p (C := cx) (gc := true) (p_mv rfl) rfl rfl ?_
      obtain ⟨r15, hr15, hX⟩ := bind_some hX
      refine TL.tcX [] [] rfl nd (dlt rfl) rfl ⟨rfl, ⟨rfl, ⟨rfl, trivial⟩⟩⟩ (ok_cartridgeref22_NewShelf labels1 drives2 (Nd.take nd 0 rfl) _ hr15) ?_
      rintro _ _ hQ nd
      cases hqr15 : r15.1 with
      | none =>
        simp only [hqr15] at hQ hX
        obtain ⟨rfl, rfl⟩ := hQ
        refine TL.p (C := cx) (gc := true) (p_mv rfl) rfl rfl ?_
        refine TL.p (C := cx) (gc := true) (p_ex rfl rfl (by decide)) rfl rfl ?_
        refine TL.p (C := cx) (gc := true) (p_ex rfl rfl (by decide)) rfl rfl ?_
        refine TL.p (C := cx) (gc := true) (p_mv rfl) rfl rfl ?_
        refine TL.p (C := cx) (gc := true) (p_mv rfl) rfl rfl ?_
        refine TL.nil ?_
        refine hK14 _ _ ?_
        refine TK.seq_k fun K16 hK16 => ?_
        refine TK.seq_k fun K17 hK17 => ?_
        refine TK.reg ?_
        refine TL.p (C := cx) (gc := true) (p_mv rfl) rfl rfl ?_
        obtain ⟨r18, hr18, hX⟩ := bind_some hX
        refine TL.cvX rfl rfl rfl (fun _ => ⟨rfl, ⟨rfl, trivial⟩⟩) (fun e => ok_cartridgelaw22_num r13.2 _ hr18) ?_
        refine TL.p (C := cx) (gc := true) (p_mv rfl) rfl rfl ?_
        refine TL.p (C := cx) (gc := true) (p_neq rfl rfl) rfl rfl ?_
        refine TL.p (C := cx) (gc := true) (p_mv rfl) rfl rfl ?_
        refine TL.p (C := cx) (gc := (!((r18 != r15.2)))) (p_mv rfl (hg := fun e => rfl)) (gcF1 rfl) rfl ?_
        refine TL.p (C := cx) (gc := (!((r18 != r15.2)))) (p_eqN kd48 rfl rfl (hg := fun e => ⟨e, rfl⟩)) (gcF1 rfl) rfl ?_
        refine TL.p (C := cx) (gc := (!((r18 != r15.2)))) (p_mv rfl (hg := fun e => rfl)) (gcF1 rfl) rfl ?_
        refine TL.p (C := cx) (gc := (!((r18 != r15.2)))) (p_neq rfl rfl (hg := fun e => ⟨e, rfl⟩)) (gcF1 rfl) rfl ?_
        refine TL.p (C := cx) (gc := (!((r18 != r15.2)))) (p_neB kd4 rfl rfl (hg := fun e => ⟨e, e⟩)) (gcF1 rfl) rfl ?_
        refine TL.p (C := cx) (gc := true) (p_or rfl rfl (fun e => ⟨rfl, fun h => (not_t h)⟩)) rfl rfl ?_
        refine TL.nil ?_
        refine hK17 _ _ ?_
        refine TK.cond (b := ((r18 != r15.2) || (true != (r15.2 != (0 : Int))))) rfl (fun hc => ?_) (fun hc => ?_)
        · have hX := ite_t hc hX
          refine TK.seq_k fun K19 hK19 => ?_
          refine TK.reg ?_
          refine TL.p (C := cx) (gc := true) (p_mv rfl) rfl rfl ?_
          refine TL.nil ?_
          refine hK19 _ _ ?_
          refine TK.ret ?_
          try dsimp only [thenQ]
          exact ret1 (v := Enc.v (false : Bool)) rfl (by obtain rfl := some_in hX; rfl) (v_val _)
        · have hX := ite_f hc hX
          refine TK.skip ?_
          refine hK16 _ _ ?_
          refine TK.seq_k fun K20 hK20 => ?_
          refine TK.seq_k fun K21 hK21 => ?_
          refine TK.reg ?_
          refine TL.p (C := cx) (gc := true) (p_mv rfl) rfl rfl ?_
          refine TL.p (C := cx) (gc := true) (p_neq rfl rfl) rfl rfl ?_
          refine TL.nil ?_
          refine hK21 _ _ ?_
          refine TK.cond (b := (r15.2 != (0 : Int))) rfl (fun hc => ?_) (fun hc => ?_)
          · have hX := ite_t hc hX
            refine TK.seq_k fun K22 hK22 => ?_
            refine TK.reg ?_
            refine TL.p (C := cx) (gc := true) (p_mv rfl) rfl rfl ?_
            refine TL.nil ?_
            refine hK22 _ _ ?_
            refine TK.ret ?_
            try dsimp only [thenQ]
            exact ret1 (v := Enc.v (true : Bool)) rfl (by obtain rfl := some_in hX; rfl) (v_val _)
          · have hX := ite_f hc hX
            refine TK.skip ?_
            refine hK20 _ _ ?_
            refine TK.seq_k fun K23 hK23 => ?_
            refine TK.seq_k fun K24 hK24 => ?_
            refine TK.reg ?_
            refine TL.p (C := cx) (gc := true) (p_mv rfl) rfl rfl ?_
            refine TL.nil ?_
            refine hK24 _ _ ?_
            refine TK.block ?_
            obtain ⟨o25, hO25, hA25⟩ := bind_some hX
            have E25 : ∀ (env : Env) (h : Hp), (∃ _u : Unit, keepE [] env = [] ∧ Nd [] ∧ HSub [] h) → X.cartridgelaw22_ShelfPlays_e25 = some r → K23 env h := by
              intro  env h hE hX
              obtain ⟨_u, henv, nd, hs⟩ := hE
              unfold X.cartridgelaw22_ShelfPlays_e25 at hX
              refine hK23 _ _ (TK.keep [] ?_)
              rw [henv]
              refine TK.subH hs ?_
              refine TK.seq_k fun K27 hK27 => ?_
              refine TK.reg ?_
              refine TL.p (C := cx) (gc := true) (p_mv rfl) rfl rfl ?_
              refine TL.nil ?_
              refine hK27 _ _ ?_
              refine TK.ret ?_
              try dsimp only [thenQ]
              exact ret1 (v := Enc.v (true : Bool)) rfl (by obtain rfl := some_in hX; rfl) (v_val _)
            refine TK.iter [2, 8, 10, 12] (fun s env h => match s with | i26 => ∃ _u : Unit, env = [(2, true, Enc.v (l3 : (List Act_law22))), (8, true, .nilp), (10, true, .nilp), (12, true, Enc.v (i26 : Int))] ∧ Nd [] ∧ HSub [] h) hO25 ⟨(), rfl, Nd_nil, HSub.refl _⟩ ?_
            rintro i26 env h x25x ⟨_u, rfl, nd, hs⟩ hX hR25
            refine TK.subH hs ?_
            unfold X.cartridgelaw22_ShelfPlays_s25 at hX
            try dsimp only at hX
            refine TK.seq_k fun K28 hK28 => ?_
            refine TK.seq_k fun K29 hK29 => ?_
            refine TK.reg ?_
            refine TL.p (C := cx) (gc := true) (p_mv rfl) rfl rfl ?_
            refine TL.p (C := cx) (gc := true) (p_mv rfl) rfl rfl ?_
            refine TL.p (C := cx) (gc := true) (p_lenL (xs := l3) kd47 rfl) rfl rfl ?_
            refine TL.p (C := cx) (gc := true) (p_lss rfl rfl) rfl rfl ?_
            refine TL.nil ?_
            refine hK29 _ _ ?_
            refine TK.cond (b := (decide (i26 < (l3.length : Int)))) rfl (fun hc => ?_) (fun hc => ?_)
            · have hX := ite_t hc hX
              refine TK.skip ?_
              refine hK28 _ _ ?_
              refine TK.seq_k fun K30 hK30 => ?_
              refine TK.block ?_
              refine TK.seq_k fun K31 hK31 => ?_
              refine TK.reg ?_
              refine TL.p (C := cx) (gc := true) (p_mv rfl) rfl rfl ?_
              refine TL.p (C := cx) (gc := true) (p_mv rfl) rfl rfl ?_
              obtain ⟨e32, he32, hX⟩ := bind_some hX
              refine TL.p (C := cx) (gc := true) (p_iaL (xs := l3) kd47 ty55 rfl rfl rfl (fun _ => he32)) rfl rfl ?_
              refine TL.p (C := cx) (gc := true) (p_ldE (xs := l3) (a := e32) (e32 : Act_law22) ty55 rfl rfl (fun _ => he32) rfl rfl rfl) rfl rfl ?_
              refine TL.alO (C := cx) (l := [Enc.v ((0 : Int) : Int), Enc.v ((0 : Int) : Int), Enc.v ((0 : Int) : Int)]) nd ty55 ti55_z rfl rfl fun b33 nd => ?_
              refine TL.stV (C := cx) (lu := Enc.cl (e32 : Act_law22)) nd ty55 rfl (j := 0) rfl rfl rfl (Cells_v (e32 : Act_law22)) rfl rfl [Enc.v (e32.Way : Int), Enc.v (e32.Label : Int), Enc.v (e32.Drive : Int)] rfl fun nd => ?_
              refine TL.nil ?_
              refine hK31 _ _ ?_
              refine TK.seq_k fun K34 hK34 => ?_
              have J34 : ∀ (env : Env) (h : Hp), (∃ b35, keepE [2, 8, 10, 12, 13] env = [(2, true, Enc.v (l3 : (List Act_law22))), (8, true, .nilp), (10, true, .nilp), (12, true, Enc.v (i26 : Int)), (13, true, .ref b35 0 3)] ∧ Nd [(b35, RV 55 [Enc.v (e32.Way : Int), Enc.v (e32.Label : Int), Enc.v (e32.Drive : Int)])] ∧ HSub [(b35, RV 55 [Enc.v (e32.Way : Int), Enc.v (e32.Label : Int), Enc.v (e32.Drive : Int)])] h) → X.cartridgelaw22_ShelfPlays_j34 e32 i26 = some x25x → K34 env h := by
                intro  env h hE hX
                obtain ⟨b35, henv, nd, hs⟩ := hE
                unfold X.cartridgelaw22_ShelfPlays_j34 at hX
                refine hK34 _ _ (TK.keep [2, 8, 10, 12, 13] ?_)
                rw [henv]
                refine TK.subH hs ?_
                refine TK.seq_k fun K36 hK36 => ?_
                have ndS : Nd [(b35, RV 55 [Enc.v (e32.Way : Int), Enc.v (e32.Label : Int), Enc.v (e32.Drive : Int)])] := Nd.pick nd (is := [0]) (by decide)
                refine TK.drwX (h := []) (hS := [(b35, RV 55 [Enc.v (e32.Way : Int), Enc.v (e32.Label : Int), Enc.v (e32.Drive : Int)])]) [(0, 0), (0, 1), (0, 2), (0, 3), (0, 4), (0, 5), (0, 6), (0, 7), (0, 8), (0, 9), (0, 10), (0, 11), (0, 12), (0, 13), (0, 14), (0, 15), (0, 16), (0, 17), (0, 18), (0, 19), (0, 20), (0, 21), (0, 22), (0, 23), (0, 24), (0, 25), (0, 26), (0, 27), (0, 28), (0, 29), (0, 30)] mixed (by kernel_rfl) (HSub_app nd) ?_
                refine DR0 (gc := true) rfl (vok_p (C := cx) (p_mv rfl)) rfl rfl ?_
                refine DR0 (gc := true) rfl (vok_p (C := cx) (p_faV fs55_1 (by decide) rfl ndS (j := 0) rfl rfl)) rfl rfl ?_
                refine DR0 (gc := true) rfl (vok_p (C := cx) (p_ldV (v := Enc.v (e32.Label : Int)) ty3 rfl rfl ndS (j := 0) rfl rfl rfl rfl rfl)) rfl rfl ?_
                obtain ⟨r37, hr37, hX⟩ := bind_some hX
                refine DR0 (gc := true) rfl (vok_c rfl (fun _ => ⟨rfl, ⟨rfl, ⟨rfl, trivial⟩⟩⟩) (fun e => ok_shelf_Shelf_Slot_nil e32.Label _ hr37)) rfl rfl ?_
                refine DR0 (gc := true) rfl (vok_p (C := cx) (p_mv rfl)) rfl rfl ?_
                refine DR0 (gc := true) rfl (vok_p (C := cx) (p_faV fs55_1 (by decide) rfl ndS (j := 0) rfl rfl)) rfl rfl ?_
                refine DR0 (gc := true) rfl (vok_p (C := cx) (p_ldV (v := Enc.v (e32.Label : Int)) ty3 rfl rfl ndS (j := 0) rfl rfl rfl rfl rfl)) rfl rfl ?_
                obtain ⟨r38, hr38, hX⟩ := bind_some hX
                refine DR0 (gc := true) rfl (vok_c rfl (fun _ => ⟨rfl, ⟨rfl, ⟨rfl, trivial⟩⟩⟩) (fun e => ok_cartridgeref22_Shelf_Slot_nil e32.Label _ hr38)) rfl rfl ?_
                refine DR0 (gc := true) rfl (vok_p (C := cx) (p_neq rfl rfl)) rfl rfl ?_
                refine DR0 (gc := true) rfl (vok_p (C := cx) (p_mv rfl)) rfl rfl ?_
                refine DR0 (gc := (!((r37 != r38)))) rfl (vok_p (C := cx) (p_mv rfl (hg := fun e => rfl))) (gcF1 rfl) rfl ?_
                refine DR0 (gc := (!((r37 != r38)))) rfl (vok_p (C := cx) (p_faV fs55_1 (by decide) rfl ndS (j := 0) rfl rfl (hg := fun e => rfl))) (gcF1 rfl) rfl ?_
                refine DR0 (gc := (!((r37 != r38)))) rfl (vok_p (C := cx) (p_ldV (v := Enc.v (e32.Label : Int)) ty3 rfl rfl ndS (j := 0) rfl rfl rfl rfl rfl (hg := fun e => e))) (gcF1 rfl) rfl ?_
                obtain ⟨r39, hr39, hX⟩ := bind_some hX
                refine DR0 (gc := (!((r37 != r38)))) rfl (vok_c rfl (fun e => ⟨rfl, ⟨e, ⟨e, trivial⟩⟩⟩) (fun e => ok_shelf_Shelf_Drive_nil e32.Label _ (optG_t hr39 e))) (gcF1 rfl) rfl ?_
                refine DR0 (gc := (!((r37 != r38)))) rfl (vok_p (C := cx) (p_mv rfl (hg := fun e => rfl))) (gcF1 rfl) rfl ?_
                refine DR0 (gc := (!((r37 != r38)))) rfl (vok_p (C := cx) (p_faV fs55_1 (by decide) rfl ndS (j := 0) rfl rfl (hg := fun e => rfl))) (gcF1 rfl) rfl ?_
                refine DR0 (gc := (!((r37 != r38)))) rfl (vok_p (C := cx) (p_ldV (v := Enc.v (e32.Label : Int)) ty3 rfl rfl ndS (j := 0) rfl rfl rfl rfl rfl (hg := fun e => e))) (gcF1 rfl) rfl ?_
                obtain ⟨r40, hr40, hX⟩ := bind_some hX
                refine DR0 (gc := (!((r37 != r38)))) rfl (vok_c rfl (fun e => ⟨rfl, ⟨e, ⟨e, trivial⟩⟩⟩) (fun e => ok_cartridgeref22_Shelf_Drive_nil e32.Label _ (optG_t hr40 e))) (gcF1 rfl) rfl ?_
                refine DR0 (gc := (!((r37 != r38)))) rfl (vok_p (C := cx) (p_neq rfl rfl (hg := fun e => ⟨e, e⟩))) (gcF1 rfl) rfl ?_
                refine DR0 (gc := true) rfl (vok_p (C := cx) (p_or rfl rfl (fun e => ⟨rfl, fun h => (not_t h)⟩))) rfl rfl ?_
                refine DR0 (gc := true) rfl (vok_p (C := cx) (p_mv rfl)) rfl rfl ?_
                refine DR0 (gc := (!(((r37 != r38) || (r39 != r40))))) rfl (vok_p (C := cx) (p_mv rfl (hg := fun e => rfl))) (gcF1 rfl) rfl ?_
                refine DR0 (gc := (!(((r37 != r38) || (r39 != r40))))) rfl (vok_p (C := cx) (p_faV fs55_2 (by decide) rfl ndS (j := 0) rfl rfl (hg := fun e => rfl))) (gcF1 rfl) rfl ?_
                refine DR0 (gc := (!(((r37 != r38) || (r39 != r40))))) rfl (vok_p (C := cx) (p_ldV (v := Enc.v (e32.Drive : Int)) ty3 rfl rfl ndS (j := 0) rfl rfl rfl rfl rfl (hg := fun e => e))) (gcF1 rfl) rfl ?_
                obtain ⟨r41, hr41, hX⟩ := bind_some hX
                refine DR0 (gc := (!(((r37 != r38) || (r39 != r40))))) rfl (vok_c rfl (fun e => ⟨rfl, ⟨e, ⟨e, trivial⟩⟩⟩) (fun e => ok_shelf_Shelf_Mounted_nil e32.Drive _ (optG_t hr41 e))) (gcF1 rfl) rfl ?_
                refine DR0 (gc := (!(((r37 != r38) || (r39 != r40))))) rfl (vok_p (C := cx) (p_mv rfl (hg := fun e => rfl))) (gcF1 rfl) rfl ?_
                refine DR0 (gc := (!(((r37 != r38) || (r39 != r40))))) rfl (vok_p (C := cx) (p_faV fs55_2 (by decide) rfl ndS (j := 0) rfl rfl (hg := fun e => rfl))) (gcF1 rfl) rfl ?_
                refine DR0 (gc := (!(((r37 != r38) || (r39 != r40))))) rfl (vok_p (C := cx) (p_ldV (v := Enc.v (e32.Drive : Int)) ty3 rfl rfl ndS (j := 0) rfl rfl rfl rfl rfl (hg := fun e => e))) (gcF1 rfl) rfl ?_
                obtain ⟨r42, hr42, hX⟩ := bind_some hX
                refine DR0 (gc := (!(((r37 != r38) || (r39 != r40))))) rfl (vok_c rfl (fun e => ⟨rfl, ⟨e, ⟨e, trivial⟩⟩⟩) (fun e => ok_cartridgeref22_Shelf_Mounted_nil e32.Drive _ (optG_t hr42 e))) (gcF1 rfl) rfl ?_
                refine DR0 (gc := (!(((r37 != r38) || (r39 != r40))))) rfl (vok_p (C := cx) (p_neq rfl rfl (hg := fun e => ⟨e, e⟩))) (gcF1 rfl) rfl ?_
                refine DR0 (gc := true) rfl (vok_p (C := cx) (p_or rfl rfl (fun e => ⟨rfl, fun h => (not_t h)⟩))) rfl rfl ?_
                refine DRend ?_
                refine hK36 _ _ ?_
                refine TK.cond (b := (((r37 != r38) || (r39 != r40)) || (r41 != r42))) rfl (fun hc => ?_) (fun hc => ?_)
                · have hX := ite_t hc hX
                  refine TK.seq_k fun K43 hK43 => ?_
                  refine TK.reg ?_
                  refine TL.p (C := cx) (gc := true) (p_mv rfl) rfl rfl ?_
                  refine TL.nil ?_
                  refine hK43 _ _ ?_
                  refine TK.ret ?_
                  obtain rfl := hR25 _ (some_in hX).symm
                  replace hX := hA25
                  try dsimp only [thenQ]
                  exact ret1 (v := Enc.v (false : Bool)) rfl (by obtain rfl := some_in hX; rfl) (v_val _)
                · have hX := ite_f hc hX
                  refine TK.skip ?_
                  refine hK30 _ _ ?_
                  refine TK.reg ?_
                  refine TL.p (C := cx) (gc := true) (p_mv rfl) rfl rfl ?_
                  refine TL.p (C := cx) (gc := true) (p_add rfl rfl) rfl rfl ?_
                  refine TL.p (C := cx) (gc := true) (p_mv rfl) rfl rfl ?_
                  refine TL.nil ?_
                  exact ⟨_, (some_in hX).symm, (), rfl, (Nd.pick nd (is := []) (by decide)), (HSub.pick nd (is := []) (by decide))⟩
              refine TK.seq_k fun K44 hK44 => ?_
              refine TK.reg ?_
              refine TL.p (C := cx) (gc := true) (p_faV fs55_0 (by decide) rfl nd (j := 0) rfl rfl) rfl rfl ?_
              refine TL.p (C := cx) (gc := true) (p_ldV (v := Enc.v (e32.Way : Int)) ty3 rfl rfl nd (j := 0) rfl rfl rfl rfl rfl) rfl rfl ?_
              refine TL.nil ?_
              refine hK44 _ _ ?_
              refine TK.block ?_
              refine TK.seq_k fun K45 hK45 => ?_
              refine TK.reg ?_
              refine TL.p (C := cx) (gc := true) (p_eql rfl rfl) rfl rfl ?_
              refine TL.p (C := cx) (gc := true) (p_mv rfl) rfl rfl ?_
              refine TL.nil ?_
              refine hK45 _ _ ?_
              refine TK.cond (b := (e32.Way == (0 : Int))) rfl (fun hc => ?_) (fun hc => ?_)
              · have hX := ite_t hc hX
                refine TK.seq_k fun K46 hK46 => ?_
                have ndS : Nd [(b33, RV 55 [Enc.v (e32.Way : Int), Enc.v (e32.Label : Int), Enc.v (e32.Drive : Int)])] := Nd.pick nd (is := [0]) (by decide)
                refine TK.drwX (h := []) (hS := [(b33, RV 55 [Enc.v (e32.Way : Int), Enc.v (e32.Label : Int), Enc.v (e32.Drive : Int)])]) [(0, 0), (0, 1), (0, 2), (0, 3), (0, 4), (0, 5), (0, 6), (0, 7), (0, 8), (0, 9), (0, 10), (0, 11), (0, 12), (0, 13)] mixed (by kernel_rfl) (HSub_app nd) ?_
                refine DR0 (gc := true) rfl (vok_p (C := cx) (p_mv rfl)) rfl rfl ?_
                refine DR0 (gc := true) rfl (vok_p (C := cx) (p_faV fs55_1 (by decide) rfl ndS (j := 0) rfl rfl)) rfl rfl ?_
                refine DR0 (gc := true) rfl (vok_p (C := cx) (p_ldV (v := Enc.v (e32.Label : Int)) ty3 rfl rfl ndS (j := 0) rfl rfl rfl rfl rfl)) rfl rfl ?_
                refine DR0 (gc := true) rfl (vok_p (C := cx) (p_faV fs55_2 (by decide) rfl ndS (j := 0) rfl rfl)) rfl rfl ?_
                refine DR0 (gc := true) rfl (vok_p (C := cx) (p_ldV (v := Enc.v (e32.Drive : Int)) ty3 rfl rfl ndS (j := 0) rfl rfl rfl rfl rfl)) rfl rfl ?_
                obtain ⟨r47, hr47, hX⟩ := bind_some hX
                refine DR0 (gc := true) rfl (vok_c rfl (fun _ => ⟨rfl, ⟨rfl, ⟨rfl, ⟨rfl, trivial⟩⟩⟩⟩) (fun e => ok_shelf_Shelf_Move_nil e32.Label e32.Drive _ hr47)) rfl rfl ?_
                obtain ⟨r48, hr48, hX⟩ := bind_some hX
                refine DR0 (gc := true) rfl (vok_c rfl (fun _ => ⟨rfl, ⟨rfl, trivial⟩⟩) (fun e => ok_cartridgelaw22_num r47 _ hr48)) rfl rfl ?_
                refine DR0 (gc := true) rfl (vok_p (C := cx) (p_mv rfl)) rfl rfl ?_
                refine DR0 (gc := true) rfl (vok_p (C := cx) (p_faV fs55_1 (by decide) rfl ndS (j := 0) rfl rfl)) rfl rfl ?_
                refine DR0 (gc := true) rfl (vok_p (C := cx) (p_ldV (v := Enc.v (e32.Label : Int)) ty3 rfl rfl ndS (j := 0) rfl rfl rfl rfl rfl)) rfl rfl ?_
                refine DR0 (gc := true) rfl (vok_p (C := cx) (p_faV fs55_2 (by decide) rfl ndS (j := 0) rfl rfl)) rfl rfl ?_
                refine DR0 (gc := true) rfl (vok_p (C := cx) (p_ldV (v := Enc.v (e32.Drive : Int)) ty3 rfl rfl ndS (j := 0) rfl rfl rfl rfl rfl)) rfl rfl ?_
                obtain ⟨r49, hr49, hX⟩ := bind_some hX
                refine DR0 (gc := true) rfl (vok_c rfl (fun _ => ⟨rfl, ⟨rfl, ⟨rfl, ⟨rfl, trivial⟩⟩⟩⟩) (fun e => ok_cartridgeref22_Shelf_Move_nil e32.Label e32.Drive _ hr49)) rfl rfl ?_
                refine DR0 (gc := true) rfl (vok_p (C := cx) (p_neq rfl rfl)) rfl rfl ?_
                refine DRend ?_
                refine hK46 _ _ ?_
                refine TK.cond (b := (r48 != r49)) rfl (fun hc => ?_) (fun hc => ?_)
                · have hX := ite_t hc hX
                  refine TK.seq_k fun K50 hK50 => ?_
                  refine TK.reg ?_
                  refine TL.p (C := cx) (gc := true) (p_mv rfl) rfl rfl ?_
                  refine TL.nil ?_
                  refine hK50 _ _ ?_
                  refine TK.ret ?_
                  obtain rfl := hR25 _ (some_in hX).symm
                  replace hX := hA25
                  try dsimp only [thenQ]
                  exact ret1 (v := Enc.v (false : Bool)) rfl (by obtain rfl := some_in hX; rfl) (v_val _)
                · have hX := ite_f hc hX
                  refine TK.skip ?_
                  exact J34 _ _ ⟨b33, rfl, (Nd.pick nd (is := [0]) (by decide)), (HSub.pick nd (is := [0]) (by decide))⟩ hX
              · have hX := ite_f hc hX
                refine TK.seq_k fun K51 hK51 => ?_
                refine TK.reg ?_
                refine TL.p (C := cx) (gc := true) (p_eql rfl rfl) rfl rfl ?_
                refine TL.p (C := cx) (gc := true) (p_mv rfl) rfl rfl ?_
                refine TL.nil ?_
                refine hK51 _ _ ?_
                refine TK.cond (b := (e32.Way == (1 : Int))) rfl (fun hc => ?_) (fun hc => ?_)
                · have hX := ite_t hc hX
                  refine TK.seq_k fun K52 hK52 => ?_
                  have ndS : Nd [(b33, RV 55 [Enc.v (e32.Way : Int), Enc.v (e32.Label : Int), Enc.v (e32.Drive : Int)])] := Nd.pick nd (is := [0]) (by decide)
                  refine TK.drwX (h := []) (hS := [(b33, RV 55 [Enc.v (e32.Way : Int), Enc.v (e32.Label : Int), Enc.v (e32.Drive : Int)])]) [(0, 0), (0, 1), (0, 2), (0, 3), (0, 4), (0, 5), (0, 6), (0, 7), (0, 8), (0, 9)] mixed (by kernel_rfl) (HSub_app nd) ?_
                  refine DR0 (gc := true) rfl (vok_p (C := cx) (p_mv rfl)) rfl rfl ?_
                  refine DR0 (gc := true) rfl (vok_p (C := cx) (p_faV fs55_2 (by decide) rfl ndS (j := 0) rfl rfl)) rfl rfl ?_
                  refine DR0 (gc := true) rfl (vok_p (C := cx) (p_ldV (v := Enc.v (e32.Drive : Int)) ty3 rfl rfl ndS (j := 0) rfl rfl rfl rfl rfl)) rfl rfl ?_
                  obtain ⟨r53, hr53, hX⟩ := bind_some hX
                  refine DR0 (gc := true) rfl (vok_c rfl (fun _ => ⟨rfl, ⟨rfl, ⟨rfl, trivial⟩⟩⟩) (fun e => ok_shelf_Shelf_Back_nil e32.Drive _ hr53)) rfl rfl ?_
                  obtain ⟨r54, hr54, hX⟩ := bind_some hX
                  refine DR0 (gc := true) rfl (vok_c rfl (fun _ => ⟨rfl, ⟨rfl, trivial⟩⟩) (fun e => ok_cartridgelaw22_num r53 _ hr54)) rfl rfl ?_
                  refine DR0 (gc := true) rfl (vok_p (C := cx) (p_mv rfl)) rfl rfl ?_
                  refine DR0 (gc := true) rfl (vok_p (C := cx) (p_faV fs55_2 (by decide) rfl ndS (j := 0) rfl rfl)) rfl rfl ?_
                  refine DR0 (gc := true) rfl (vok_p (C := cx) (p_ldV (v := Enc.v (e32.Drive : Int)) ty3 rfl rfl ndS (j := 0) rfl rfl rfl rfl rfl)) rfl rfl ?_
                  obtain ⟨r55, hr55, hX⟩ := bind_some hX
                  refine DR0 (gc := true) rfl (vok_c rfl (fun _ => ⟨rfl, ⟨rfl, ⟨rfl, trivial⟩⟩⟩) (fun e => ok_cartridgeref22_Shelf_Back_nil e32.Drive _ hr55)) rfl rfl ?_
                  refine DR0 (gc := true) rfl (vok_p (C := cx) (p_neq rfl rfl)) rfl rfl ?_
                  refine DRend ?_
                  refine hK52 _ _ ?_
                  refine TK.cond (b := (r54 != r55)) rfl (fun hc => ?_) (fun hc => ?_)
                  · have hX := ite_t hc hX
                    refine TK.seq_k fun K56 hK56 => ?_
                    refine TK.reg ?_
                    refine TL.p (C := cx) (gc := true) (p_mv rfl) rfl rfl ?_
                    refine TL.nil ?_
                    refine hK56 _ _ ?_
                    refine TK.ret ?_
                    obtain rfl := hR25 _ (some_in hX).symm
                    replace hX := hA25
                    try dsimp only [thenQ]
                    exact ret1 (v := Enc.v (false : Bool)) rfl (by obtain rfl := some_in hX; rfl) (v_val _)
                  · have hX := ite_f hc hX
                    refine TK.skip ?_
                    exact J34 _ _ ⟨b33, rfl, (Nd.pick nd (is := [0]) (by decide)), (HSub.pick nd (is := [0]) (by decide))⟩ hX
                · have hX := ite_f hc hX
                  refine TK.skip ?_
                  exact J34 _ _ ⟨b33, rfl, (Nd.pick nd (is := [0]) (by decide)), (HSub.pick nd (is := [0]) (by decide))⟩ hX
            · have hX := ite_f hc hX
              refine TK.exit ?_
              obtain rfl := hR25 _ (some_in hX).symm
              exact E25 _ _ ⟨(), rfl, Nd_nil, HSub.refl _⟩ hA25
      | some o57 =>
        simp only [hqr15] at hQ hX
        obtain ⟨b58, b59, b60, b61, rfl, rfl⟩ := hQ
        refine TL.p (C := cx) (gc := true) (p_mv rfl) rfl rfl ?_
        refine TL.p (C := cx) (gc := true) (p_ex rfl rfl (by decide)) rfl rfl ?_
        refine TL.p (C := cx) (gc := true) (p_ex rfl rfl (by decide)) rfl rfl ?_
        refine TL.p (C := cx) (gc := true) (p_mv rfl) rfl rfl ?_
        refine TL.p (C := cx) (gc := true) (p_mv rfl) rfl rfl ?_
        refine TL.nil ?_
        refine hK14 _ _ ?_
        refine TK.seq_k fun K62 hK62 => ?_
        refine TK.seq_k fun K63 hK63 => ?_
        refine TK.reg ?_
        refine TL.p (C := cx) (gc := true) (p_mv rfl) rfl rfl ?_
        obtain ⟨r64, hr64, hX⟩ := bind_some hX
        refine TL.cvX rfl rfl rfl (fun _ => ⟨rfl, ⟨rfl, trivial⟩⟩) (fun e => ok_cartridgelaw22_num r13.2 _ hr64) ?_
        refine TL.p (C := cx) (gc := true) (p_mv rfl) rfl rfl ?_
        refine TL.p (C := cx) (gc := true) (p_neq rfl rfl) rfl rfl ?_
        refine TL.p (C := cx) (gc := true) (p_mv rfl) rfl rfl ?_
        refine TL.p (C := cx) (gc := (!((r64 != r15.2)))) (p_mv rfl (hg := fun e => rfl)) (gcF1 rfl) rfl ?_
        refine TL.p (C := cx) (gc := (!((r64 != r15.2)))) (p_eqN kd48 rfl rfl (hg := fun e => ⟨e, rfl⟩)) (gcF1 rfl) rfl ?_
        refine TL.p (C := cx) (gc := (!((r64 != r15.2)))) (p_mv rfl (hg := fun e => rfl)) (gcF1 rfl) rfl ?_
        refine TL.p (C := cx) (gc := (!((r64 != r15.2)))) (p_neq rfl rfl (hg := fun e => ⟨e, rfl⟩)) (gcF1 rfl) rfl ?_
        refine TL.p (C := cx) (gc := (!((r64 != r15.2)))) (p_neB kd4 rfl rfl (hg := fun e => ⟨e, e⟩)) (gcF1 rfl) rfl ?_
        refine TL.p (C := cx) (gc := true) (p_or rfl rfl (fun e => ⟨rfl, fun h => (not_t h)⟩)) rfl rfl ?_
        refine TL.nil ?_
        refine hK63 _ _ ?_
        refine TK.cond (b := ((r64 != r15.2) || (true != (r15.2 != (0 : Int))))) rfl (fun hc => ?_) (fun hc => ?_)
        · have hX := ite_t hc hX
          refine TK.seq_k fun K65 hK65 => ?_
          refine TK.reg ?_
          refine TL.p (C := cx) (gc := true) (p_mv rfl) rfl rfl ?_
          refine TL.nil ?_
          refine hK65 _ _ ?_
          refine TK.ret ?_
          try dsimp only [thenQ]
          exact ret1 (v := Enc.v (false : Bool)) rfl (by obtain rfl := some_in hX; rfl) (v_val _)
        · have hX := ite_f hc hX
          refine TK.skip ?_
          refine hK62 _ _ ?_
          refine TK.seq_k fun K66 hK66 => ?_
          refine TK.seq_k fun K67 hK67 => ?_
          refine TK.reg ?_
          refine TL.p (C := cx) (gc := true) (p_mv rfl) rfl rfl ?_
          refine TL.p (C := cx) (gc := true) (p_neq rfl rfl) rfl rfl ?_
          refine TL.nil ?_
          refine hK67 _ _ ?_
          refine TK.cond (b := (r15.2 != (0 : Int))) rfl (fun hc => ?_) (fun hc => ?_)
          · have hX := ite_t hc hX
            refine TK.seq_k fun K68 hK68 => ?_
            refine TK.reg ?_
            refine TL.p (C := cx) (gc := true) (p_mv rfl) rfl rfl ?_
            refine TL.nil ?_
            refine hK68 _ _ ?_
            refine TK.ret ?_
            try dsimp only [thenQ]
            exact ret1 (v := Enc.v (true : Bool)) rfl (by obtain rfl := some_in hX; rfl) (v_val _)
          · have hX := ite_f hc hX
            refine TK.skip ?_
            refine hK66 _ _ ?_
            refine TK.seq_k fun K69 hK69 => ?_
            refine TK.seq_k fun K70 hK70 => ?_
            refine TK.reg ?_
            refine TL.p (C := cx) (gc := true) (p_mv rfl) rfl rfl ?_
            refine TL.nil ?_
            refine hK70 _ _ ?_
            refine TK.block ?_
            obtain ⟨o71, hO71, hA71⟩ := bind_some hX
            have E71 : ∀ (env : Env) (h : Hp), (∃ _u : Unit, keepE [] env = [] ∧ Nd [] ∧ HSub [] h) → X.cartridgelaw22_ShelfPlays_e71 = some r → K69 env h := by
              intro  env h hE hX
              obtain ⟨_u, henv, nd, hs⟩ := hE
              unfold X.cartridgelaw22_ShelfPlays_e71 at hX
              refine hK69 _ _ (TK.keep [] ?_)
              rw [henv]
              refine TK.subH hs ?_
              refine TK.seq_k fun K80 hK80 => ?_
              refine TK.reg ?_
              refine TL.p (C := cx) (gc := true) (p_mv rfl) rfl rfl ?_
              refine TL.nil ?_
              refine hK80 _ _ ?_
              refine TK.ret ?_
              try dsimp only [thenQ]
              exact ret1 (v := Enc.v (true : Bool)) rfl (by obtain rfl := some_in hX; rfl) (v_val _)
            refine TK.iter [2, 8, 10, 12] (fun s env h => match s with | (l74, l76, l78, i79) => ∃ b73 b75 b77 b72, env = [(2, true, Enc.v (l3 : (List Act_law22))), (8, true, .nilp), (10, true, .ref b72 0 3), (12, true, Enc.v (i79 : Int))] ∧ Nd [(b73, RL (α := Int) 3 l74), (b75, RL (α := Int) 3 l76), (b77, RL (α := Int) 3 l78), (b72, RV 67 [OL (α := Int) b73 l74, OL (α := Int) b75 l76, OL (α := Int) b77 l78])] ∧ HSub [(b73, RL (α := Int) 3 l74), (b75, RL (α := Int) 3 l76), (b77, RL (α := Int) 3 l78), (b72, RV 67 [OL (α := Int) b73 l74, OL (α := Int) b75 l76, OL (α := Int) b77 l78])] h) hO71 ⟨b59, b60, b61, b58, rfl, (Nd.pick nd (is := [1, 2, 3, 0]) (by decide)), (HSub.pick nd (is := [1, 2, 3, 0]) (by decide))⟩ ?_
            rintro ⟨l74, l76, l78, i79⟩ env h x71x ⟨b73, b75, b77, b72, rfl, nd, hs⟩ hX hR71
            refine TK.subH hs ?_
            unfold X.cartridgelaw22_ShelfPlays_s71 at hX
            try dsimp only at hX
            refine TK.seq_k fun K81 hK81 => ?_
            refine TK.seq_k fun K82 hK82 => ?_
            refine TK.reg ?_
            refine TL.p (C := cx) (gc := true) (p_mv rfl) rfl rfl ?_
            refine TL.p (C := cx) (gc := true) (p_mv rfl) rfl rfl ?_
            refine TL.p (C := cx) (gc := true) (p_lenL (xs := l3) kd47 rfl) rfl rfl ?_
            refine TL.p (C := cx) (gc := true) (p_lss rfl rfl) rfl rfl ?_
            refine TL.nil ?_
            refine hK82 _ _ ?_
            refine TK.cond (b := (decide (i79 < (l3.length : Int)))) rfl (fun hc => ?_) (fun hc => ?_)
            · have hX := ite_t hc hX
              refine TK.skip ?_
              refine hK81 _ _ ?_
              refine TK.seq_k fun K83 hK83 => ?_
              refine TK.block ?_
              refine TK.seq_k fun K84 hK84 => ?_
              refine TK.reg ?_
              refine TL.p (C := cx) (gc := true) (p_mv rfl) rfl rfl ?_
              refine TL.p (C := cx) (gc := true) (p_mv rfl) rfl rfl ?_
              obtain ⟨e85, he85, hX⟩ := bind_some hX
              refine TL.p (C := cx) (gc := true) (p_iaL (xs := l3) kd47 ty55 rfl rfl rfl (fun _ => he85)) rfl rfl ?_
              refine TL.p (C := cx) (gc := true) (p_ldE (xs := l3) (a := e85) (e85 : Act_law22) ty55 rfl rfl (fun _ => he85) rfl rfl rfl) rfl rfl ?_
              refine TL.alO (C := cx) (l := [Enc.v ((0 : Int) : Int), Enc.v ((0 : Int) : Int), Enc.v ((0 : Int) : Int)]) nd ty55 ti55_z rfl rfl fun b86 nd => ?_
              refine TL.stV (C := cx) (lu := Enc.cl (e85 : Act_law22)) nd ty55 rfl (j := 0) rfl rfl rfl (Cells_v (e85 : Act_law22)) rfl rfl [Enc.v (e85.Way : Int), Enc.v (e85.Label : Int), Enc.v (e85.Drive : Int)] rfl fun nd => ?_
              refine TL.nil ?_
              refine hK84 _ _ ?_
              refine TK.seq_k fun K87 hK87 => ?_
              have J87 : ∀ (l90 : List Int) (l92 : List Int) (l94 : List Int) (env : Env) (h : Hp), (∃ b89 b91 b93 b88 b95, keepE [2, 8, 10, 12, 13] env = [(2, true, Enc.v (l3 : (List Act_law22))), (8, true, .nilp), (10, true, .ref b88 0 3), (12, true, Enc.v (i79 : Int)), (13, true, .ref b95 0 3)] ∧ Nd [(b89, RL (α := Int) 3 l90), (b91, RL (α := Int) 3 l92), (b93, RL (α := Int) 3 l94), (b88, RV 67 [OL (α := Int) b89 l90, OL (α := Int) b91 l92, OL (α := Int) b93 l94]), (b95, RV 55 [Enc.v (e85.Way : Int), Enc.v (e85.Label : Int), Enc.v (e85.Drive : Int)])] ∧ HSub [(b89, RL (α := Int) 3 l90), (b91, RL (α := Int) 3 l92), (b93, RL (α := Int) 3 l94), (b88, RV 67 [OL (α := Int) b89 l90, OL (α := Int) b91 l92, OL (α := Int) b93 l94]), (b95, RV 55 [Enc.v (e85.Way : Int), Enc.v (e85.Label : Int), Enc.v (e85.Drive : Int)])] h) → X.cartridgelaw22_ShelfPlays_j87 e85 i79 l90 l92 l94 = some x71x → K87 env h := by
                intro l90 l92 l94 env h hE hX
                obtain ⟨b89, b91, b93, b88, b95, henv, nd, hs⟩ := hE
                unfold X.cartridgelaw22_ShelfPlays_j87 at hX
                refine hK87 _ _ (TK.keep [2, 8, 10, 12, 13] ?_)
                rw [henv]
                refine TK.subH hs ?_
                refine TK.seq_k fun K96 hK96 => ?_
                have ndS : Nd [(b89, RL (α := Int) 3 l90), (b91, RL (α := Int) 3 l92), (b93, RL (α := Int) 3 l94), (b88, RV 67 [OL (α := Int) b89 l90, OL (α := Int) b91 l92, OL (α := Int) b93 l94]), (b95, RV 55 [Enc.v (e85.Way : Int), Enc.v (e85.Label : Int), Enc.v (e85.Drive : Int)])] := Nd.pick nd (is := [0, 1, 2, 3, 4]) (by decide)
                refine TK.drwX (h := []) (hS := [(b89, RL (α := Int) 3 l90), (b91, RL (α := Int) 3 l92), (b93, RL (α := Int) 3 l94), (b88, RV 67 [OL (α := Int) b89 l90, OL (α := Int) b91 l92, OL (α := Int) b93 l94]), (b95, RV 55 [Enc.v (e85.Way : Int), Enc.v (e85.Label : Int), Enc.v (e85.Drive : Int)])]) [(0, 0), (0, 1), (0, 2), (0, 3), (0, 4), (0, 5), (0, 6), (0, 7), (0, 8), (0, 9), (0, 10), (0, 11), (0, 12), (0, 13), (0, 14), (0, 15), (0, 16), (0, 17), (0, 18), (0, 19), (0, 20), (0, 21), (0, 22), (0, 23), (0, 24), (0, 25), (0, 26), (0, 27), (0, 28), (0, 29), (0, 30)] mixed (by kernel_rfl) (HSub_app nd) ?_
                refine DR0 (gc := true) rfl (vok_p (C := cx) (p_mv rfl)) rfl rfl ?_
                refine DR0 (gc := true) rfl (vok_p (C := cx) (p_faV fs55_1 (by decide) rfl ndS (j := 4) rfl rfl)) rfl rfl ?_
                refine DR0 (gc := true) rfl (vok_p (C := cx) (p_ldV (v := Enc.v (e85.Label : Int)) ty3 rfl rfl ndS (j := 4) rfl rfl rfl rfl rfl)) rfl rfl ?_
                obtain ⟨r97, hr97, hX⟩ := bind_some hX
                refine DR0 (gc := true) rfl (vok_c rfl (fun _ => ⟨rfl, ⟨rfl, ⟨rfl, trivial⟩⟩⟩) (fun e => ok_shelf_Shelf_Slot_nil e85.Label _ hr97)) rfl rfl ?_
                refine DR0 (gc := true) rfl (vok_p (C := cx) (p_mv rfl)) rfl rfl ?_
                refine DR0 (gc := true) rfl (vok_p (C := cx) (p_faV fs55_1 (by decide) rfl ndS (j := 4) rfl rfl)) rfl rfl ?_
                refine DR0 (gc := true) rfl (vok_p (C := cx) (p_ldV (v := Enc.v (e85.Label : Int)) ty3 rfl rfl ndS (j := 4) rfl rfl rfl rfl rfl)) rfl rfl ?_
                obtain ⟨r98, hr98, hX⟩ := bind_some hX
                refine DR0 (gc := true) rfl (vok_lookX [.vref (ofL [Enc.v (l90 : (List Int)), Enc.v (l92 : (List Int)), Enc.v (l94 : (List Int))]) 3 0, Enc.v (e85.Label : Int)] rfl (fun _ => ⟨rfl, ⟨rfl, ⟨rfl, trivial⟩⟩⟩) ⟨look_ref (l := [OL (α := Int) b89 l90, OL (α := Int) b91 l92, OL (α := Int) b93 l94]) ndS (j := 3) rfl ⟨look_OL ndS (j := 0) rfl, look_OL ndS (j := 1) rfl, look_OL ndS (j := 2) rfl, trivial⟩, look_v (v := Enc.v (e85.Label : Int)) (v_val _), trivial⟩ (fun e => ok_cartridgeref22_Shelf_Slot l90 l92 l94 e85.Label _ hr98) (trivial)) rfl rfl ?_
                refine DR0 (gc := true) rfl (vok_p (C := cx) (p_neq rfl rfl)) rfl rfl ?_
                refine DR0 (gc := true) rfl (vok_p (C := cx) (p_mv rfl)) rfl rfl ?_
                refine DR0 (gc := (!((r97 != r98)))) rfl (vok_p (C := cx) (p_mv rfl (hg := fun e => rfl))) (gcF1 rfl) rfl ?_
                refine DR0 (gc := (!((r97 != r98)))) rfl (vok_p (C := cx) (p_faV fs55_1 (by decide) rfl ndS (j := 4) rfl rfl (hg := fun e => rfl))) (gcF1 rfl) rfl ?_
                refine DR0 (gc := (!((r97 != r98)))) rfl (vok_p (C := cx) (p_ldV (v := Enc.v (e85.Label : Int)) ty3 rfl rfl ndS (j := 4) rfl rfl rfl rfl rfl (hg := fun e => e))) (gcF1 rfl) rfl ?_
                obtain ⟨r99, hr99, hX⟩ := bind_some hX
                refine DR0 (gc := (!((r97 != r98)))) rfl (vok_c rfl (fun e => ⟨rfl, ⟨e, ⟨e, trivial⟩⟩⟩) (fun e => ok_shelf_Shelf_Drive_nil e85.Label _ (optG_t hr99 e))) (gcF1 rfl) rfl ?_
                refine DR0 (gc := (!((r97 != r98)))) rfl (vok_p (C := cx) (p_mv rfl (hg := fun e => rfl))) (gcF1 rfl) rfl ?_
                refine DR0 (gc := (!((r97 != r98)))) rfl (vok_p (C := cx) (p_faV fs55_1 (by decide) rfl ndS (j := 4) rfl rfl (hg := fun e => rfl))) (gcF1 rfl) rfl ?_
                refine DR0 (gc := (!((r97 != r98)))) rfl (vok_p (C := cx) (p_ldV (v := Enc.v (e85.Label : Int)) ty3 rfl rfl ndS (j := 4) rfl rfl rfl rfl rfl (hg := fun e => e))) (gcF1 rfl) rfl ?_
                obtain ⟨r100, hr100, hX⟩ := bind_some hX
                refine DR0 (gc := (!((r97 != r98)))) rfl (vok_lookX [.vref (ofL [Enc.v (l90 : (List Int)), Enc.v (l92 : (List Int)), Enc.v (l94 : (List Int))]) 3 0, Enc.v (e85.Label : Int)] rfl (fun e => ⟨rfl, ⟨e, ⟨e, trivial⟩⟩⟩) ⟨look_ref (l := [OL (α := Int) b89 l90, OL (α := Int) b91 l92, OL (α := Int) b93 l94]) ndS (j := 3) rfl ⟨look_OL ndS (j := 0) rfl, look_OL ndS (j := 1) rfl, look_OL ndS (j := 2) rfl, trivial⟩, look_v (v := Enc.v (e85.Label : Int)) (v_val _), trivial⟩ (fun e => ok_cartridgeref22_Shelf_Drive l90 l92 l94 e85.Label _ (optG_t hr100 e)) (trivial)) (gcF1 rfl) rfl ?_
                refine DR0 (gc := (!((r97 != r98)))) rfl (vok_p (C := cx) (p_neq rfl rfl (hg := fun e => ⟨e, e⟩))) (gcF1 rfl) rfl ?_
                refine DR0 (gc := true) rfl (vok_p (C := cx) (p_or rfl rfl (fun e => ⟨rfl, fun h => (not_t h)⟩))) rfl rfl ?_
                refine DR0 (gc := true) rfl (vok_p (C := cx) (p_mv rfl)) rfl rfl ?_
                refine DR0 (gc := (!(((r97 != r98) || (r99 != r100))))) rfl (vok_p (C := cx) (p_mv rfl (hg := fun e => rfl))) (gcF1 rfl) rfl ?_
                refine DR0 (gc := (!(((r97 != r98) || (r99 != r100))))) rfl (vok_p (C := cx) (p_faV fs55_2 (by decide) rfl ndS (j := 4) rfl rfl (hg := fun e => rfl))) (gcF1 rfl) rfl ?_
                refine DR0 (gc := (!(((r97 != r98) || (r99 != r100))))) rfl (vok_p (C := cx) (p_ldV (v := Enc.v (e85.Drive : Int)) ty3 rfl rfl ndS (j := 4) rfl rfl rfl rfl rfl (hg := fun e => e))) (gcF1 rfl) rfl ?_
                obtain ⟨r101, hr101, hX⟩ := bind_some hX
                refine DR0 (gc := (!(((r97 != r98) || (r99 != r100))))) rfl (vok_c rfl (fun e => ⟨rfl, ⟨e, ⟨e, trivial⟩⟩⟩) (fun e => ok_shelf_Shelf_Mounted_nil e85.Drive _ (optG_t hr101 e))) (gcF1 rfl) rfl ?_
                refine DR0 (gc := (!(((r97 != r98) || (r99 != r100))))) rfl (vok_p (C := cx) (p_mv rfl (hg := fun e => rfl))) (gcF1 rfl) rfl ?_
                refine DR0 (gc := (!(((r97 != r98) || (r99 != r100))))) rfl (vok_p (C := cx) (p_faV fs55_2 (by decide) rfl ndS (j := 4) rfl rfl (hg := fun e => rfl))) (gcF1 rfl) rfl ?_
                refine DR0 (gc := (!(((r97 != r98) || (r99 != r100))))) rfl (vok_p (C := cx) (p_ldV (v := Enc.v (e85.Drive : Int)) ty3 rfl rfl ndS (j := 4) rfl rfl rfl rfl rfl (hg := fun e => e))) (gcF1 rfl) rfl ?_
                obtain ⟨r102, hr102, hX⟩ := bind_some hX
                refine DR0 (gc := (!(((r97 != r98) || (r99 != r100))))) rfl (vok_lookX [.vref (ofL [Enc.v (l90 : (List Int)), Enc.v (l92 : (List Int)), Enc.v (l94 : (List Int))]) 3 0, Enc.v (e85.Drive : Int)] rfl (fun e => ⟨rfl, ⟨e, ⟨e, trivial⟩⟩⟩) ⟨look_ref (l := [OL (α := Int) b89 l90, OL (α := Int) b91 l92, OL (α := Int) b93 l94]) ndS (j := 3) rfl ⟨look_OL ndS (j := 0) rfl, look_OL ndS (j := 1) rfl, look_OL ndS (j := 2) rfl, trivial⟩, look_v (v := Enc.v (e85.Drive : Int)) (v_val _), trivial⟩ (fun e => ok_cartridgeref22_Shelf_Mounted l90 l92 l94 e85.Drive _ (optG_t hr102 e)) (trivial)) (gcF1 rfl) rfl ?_
                refine DR0 (gc := (!(((r97 != r98) || (r99 != r100))))) rfl (vok_p (C := cx) (p_neq rfl rfl (hg := fun e => ⟨e, e⟩))) (gcF1 rfl) rfl ?_
                refine DR0 (gc := true) rfl (vok_p (C := cx) (p_or rfl rfl (fun e => ⟨rfl, fun h => (not_t h)⟩))) rfl rfl ?_
                refine DRend ?_
                refine hK96 _ _ ?_
                refine TK.cond (b := (((r97 != r98) || (r99 != r100)) || (r101 != r102))) rfl (fun hc => ?_) (fun hc => ?_)
                · have hX := ite_t hc hX
                  refine TK.seq_k fun K103 hK103 => ?_
                  refine TK.reg ?_
                  refine TL.p (C := cx) (gc := true) (p_mv rfl) rfl rfl ?_
                  refine TL.nil ?_
                  refine hK103 _ _ ?_
                  refine TK.ret ?_
                  obtain rfl := hR71 _ (some_in hX).symm
                  replace hX := hA71
                  try dsimp only [thenQ]
                  exact ret1 (v := Enc.v (false : Bool)) rfl (by obtain rfl := some_in hX; rfl) (v_val _)
                · have hX := ite_f hc hX
                  refine TK.skip ?_
                  refine hK83 _ _ ?_
                  refine TK.reg ?_
                  refine TL.p (C := cx) (gc := true) (p_mv rfl) rfl rfl ?_
                  refine TL.p (C := cx) (gc := true) (p_add rfl rfl) rfl rfl ?_
                  refine TL.p (C := cx) (gc := true) (p_mv rfl) rfl rfl ?_
                  refine TL.nil ?_
                  exact ⟨_, (some_in hX).symm, b89, b91, b93, b88, rfl, (Nd.pick nd (is := [0, 1, 2, 3]) (by decide)), (HSub.pick nd (is := [0, 1, 2, 3]) (by decide))⟩
              refine TK.seq_k fun K104 hK104 => ?_
              refine TK.reg ?_
              refine TL.p (C := cx) (gc := true) (p_faV fs55_0 (by decide) rfl nd (j := 0) rfl rfl) rfl rfl ?_
              refine TL.p (C := cx) (gc := true) (p_ldV (v := Enc.v (e85.Way : Int)) ty3 rfl rfl nd (j := 0) rfl rfl rfl rfl rfl) rfl rfl ?_
              refine TL.nil ?_
              refine hK104 _ _ ?_
              refine TK.block ?_
              refine TK.seq_k fun K105 hK105 => ?_
              refine TK.reg ?_
              refine TL.p (C := cx) (gc := true) (p_eql rfl rfl) rfl rfl ?_
              refine TL.p (C := cx) (gc := true) (p_mv rfl) rfl rfl ?_
              refine TL.nil ?_
              refine hK105 _ _ ?_
              refine TK.cond (b := (e85.Way == (0 : Int))) rfl (fun hc => ?_) (fun hc => ?_)
              · have hX := ite_t hc hX
                refine TK.seq_k fun K106 hK106 => ?_
                refine TK.pick [1, 2, 3, 4, 0] nd (by decide) fun nd => ?_
                have ndS : Nd [(b86, RV 55 [Enc.v (e85.Way : Int), Enc.v (e85.Label : Int), Enc.v (e85.Drive : Int)])] := Nd.pick nd (is := [4]) (by decide)
                refine TK.drwX (h := [(b73, RL (α := Int) 3 l74), (b75, RL (α := Int) 3 l76), (b77, RL (α := Int) 3 l78), (b72, RV 67 [OL (α := Int) b73 l74, OL (α := Int) b75 l76, OL (α := Int) b77 l78])]) (hS := [(b86, RV 55 [Enc.v (e85.Way : Int), Enc.v (e85.Label : Int), Enc.v (e85.Drive : Int)])]) [(0, 0), (0, 1), (0, 2), (0, 3), (0, 4), (0, 5), (0, 6), (0, 7), (0, 8), (0, 9), (0, 10), (0, 11), (2, 12), (0, 13)] mixed (by kernel_rfl) (HSub_app nd) ?_
                refine DR0 (gc := true) rfl (vok_p (C := cx) (p_mv rfl)) rfl rfl ?_
                refine DR0 (gc := true) rfl (vok_p (C := cx) (p_faV fs55_1 (by decide) rfl ndS (j := 0) rfl rfl)) rfl rfl ?_
                refine DR0 (gc := true) rfl (vok_p (C := cx) (p_ldV (v := Enc.v (e85.Label : Int)) ty3 rfl rfl ndS (j := 0) rfl rfl rfl rfl rfl)) rfl rfl ?_
                refine DR0 (gc := true) rfl (vok_p (C := cx) (p_faV fs55_2 (by decide) rfl ndS (j := 0) rfl rfl)) rfl rfl ?_
                refine DR0 (gc := true) rfl (vok_p (C := cx) (p_ldV (v := Enc.v (e85.Drive : Int)) ty3 rfl rfl ndS (j := 0) rfl rfl rfl rfl rfl)) rfl rfl ?_
                obtain ⟨r107, hr107, hX⟩ := bind_some hX
                refine DR0 (gc := true) rfl (vok_c rfl (fun _ => ⟨rfl, ⟨rfl, ⟨rfl, ⟨rfl, trivial⟩⟩⟩⟩) (fun e => ok_shelf_Shelf_Move_nil e85.Label e85.Drive _ hr107)) rfl rfl ?_
                obtain ⟨r108, hr108, hX⟩ := bind_some hX
                refine DR0 (gc := true) rfl (vok_c rfl (fun _ => ⟨rfl, ⟨rfl, trivial⟩⟩) (fun e => ok_cartridgelaw22_num r107 _ hr108)) rfl rfl ?_
                refine DR0 (gc := true) rfl (vok_p (C := cx) (p_mv rfl)) rfl rfl ?_
                refine DR0 (gc := true) rfl (vok_p (C := cx) (p_faV fs55_1 (by decide) rfl ndS (j := 0) rfl rfl)) rfl rfl ?_
                refine DR0 (gc := true) rfl (vok_p (C := cx) (p_ldV (v := Enc.v (e85.Label : Int)) ty3 rfl rfl ndS (j := 0) rfl rfl rfl rfl rfl)) rfl rfl ?_
                refine DR0 (gc := true) rfl (vok_p (C := cx) (p_faV fs55_2 (by decide) rfl ndS (j := 0) rfl rfl)) rfl rfl ?_
                refine DR0 (gc := true) rfl (vok_p (C := cx) (p_ldV (v := Enc.v (e85.Drive : Int)) ty3 rfl rfl ndS (j := 0) rfl rfl rfl rfl rfl)) rfl rfl ?_
                obtain ⟨r109, hr109, hX⟩ := bind_some hX
                refine DR2 rfl rfl ?_
                refine TL.pick [3, 0, 1, 2, 4] nd (by decide) fun nd => ?_
                refine TL.tcX [(b72, RV 67 [OL (α := Int) b73 l74, OL (α := Int) b75 l76, OL (α := Int) b77 l78]), (b73, RL (α := Int) 3 l74), (b75, RL (α := Int) 3 l76), (b77, RL (α := Int) 3 l78)] [(b86, RV 55 [Enc.v (e85.Way : Int), Enc.v (e85.Label : Int), Enc.v (e85.Drive : Int)])] rfl nd (dlt rfl) rfl ⟨rfl, ⟨rfl, ⟨rfl, ⟨rfl, trivial⟩⟩⟩⟩ (ok_cartridgeref22_Shelf_Move e85.Label e85.Drive l74 l76 l78 b72 b73 b75 b77 (Nd.take nd 4 rfl) _ hr109) ?_
                rintro _ _ hQ nd
                obtain ⟨b111, b112, b113, rfl, rfl⟩ := hQ
                refine TL.nil ⟨_, [(b72, RV 67 [OL (α := Int) b111 r109.2.1, OL (α := Int) b112 r109.2.2.1, OL (α := Int) b113 r109.2.2.2]), (b111, RL (α := Int) 3 r109.2.1), (b112, RL (α := Int) 3 r109.2.2.1), (b113, RL (α := Int) 3 r109.2.2.2)], rfl, rfl, HSub_app nd, ?_⟩
                refine DR0 (gc := true) rfl (vok_p (C := cx) (p_neq rfl rfl)) rfl rfl ?_
                refine DRend ?_
                refine hK106 _ _ ?_
                refine TK.cond (b := (r108 != r109.1)) rfl (fun hc => ?_) (fun hc => ?_)
                · have hX := ite_t hc hX
                  refine TK.seq_k fun K114 hK114 => ?_
                  refine TK.reg ?_
                  refine TL.p (C := cx) (gc := true) (p_mv rfl) rfl rfl ?_
                  refine TL.nil ?_
                  refine hK114 _ _ ?_
                  refine TK.ret ?_
                  obtain rfl := hR71 _ (some_in hX).symm
                  replace hX := hA71
                  try dsimp only [thenQ]
                  exact ret1 (v := Enc.v (false : Bool)) rfl (by obtain rfl := some_in hX; rfl) (v_val _)
                · have hX := ite_f hc hX
                  refine TK.skip ?_
                  exact J87 r109.2.1 r109.2.2.1 r109.2.2.2 _ _ ⟨b111, b112, b113, b72, b86, rfl, (Nd.pick nd (is := [1, 2, 3, 0, 4]) (by decide)), (HSub.pick nd (is := [1, 2, 3, 0, 4]) (by decide))⟩ hX
              · have hX := ite_f hc hX
                refine TK.seq_k fun K115 hK115 => ?_
                refine TK.reg ?_
                refine TL.p (C := cx) (gc := true) (p_eql rfl rfl) rfl rfl ?_
                refine TL.p (C := cx) (gc := true) (p_mv rfl) rfl rfl ?_
                refine TL.nil ?_
                refine hK115 _ _ ?_
                refine TK.cond (b := (e85.Way == (1 : Int))) rfl (fun hc => ?_) (fun hc => ?_)
                · have hX := ite_t hc hX
                  refine TK.seq_k fun K116 hK116 => ?_
                  refine TK.pick [1, 2, 3, 4, 0] nd (by decide) fun nd => ?_
                  have ndS : Nd [(b86, RV 55 [Enc.v (e85.Way : Int), Enc.v (e85.Label : Int), Enc.v (e85.Drive : Int)])] := Nd.pick nd (is := [4]) (by decide)
                  refine TK.drwX (h := [(b73, RL (α := Int) 3 l74), (b75, RL (α := Int) 3 l76), (b77, RL (α := Int) 3 l78), (b72, RV 67 [OL (α := Int) b73 l74, OL (α := Int) b75 l76, OL (α := Int) b77 l78])]) (hS := [(b86, RV 55 [Enc.v (e85.Way : Int), Enc.v (e85.Label : Int), Enc.v (e85.Drive : Int)])]) [(0, 0), (0, 1), (0, 2), (0, 3), (0, 4), (0, 5), (0, 6), (0, 7), (2, 8), (0, 9)] mixed (by kernel_rfl) (HSub_app nd) ?_
                  refine DR0 (gc := true) rfl (vok_p (C := cx) (p_mv rfl)) rfl rfl ?_
                  refine DR0 (gc := true) rfl (vok_p (C := cx) (p_faV fs55_2 (by decide) rfl ndS (j := 0) rfl rfl)) rfl rfl ?_
                  refine DR0 (gc := true) rfl (vok_p (C := cx) (p_ldV (v := Enc.v (e85.Drive : Int)) ty3 rfl rfl ndS (j := 0) rfl rfl rfl rfl rfl)) rfl rfl ?_
                  obtain ⟨r117, hr117, hX⟩ := bind_some hX
                  refine DR0 (gc := true) rfl (vok_c rfl (fun _ => ⟨rfl, ⟨rfl, ⟨rfl, trivial⟩⟩⟩) (fun e => ok_shelf_Shelf_Back_nil e85.Drive _ hr117)) rfl rfl ?_
                  obtain ⟨r118, hr118, hX⟩ := bind_some hX
                  refine DR0 (gc := true) rfl (vok_c rfl (fun _ => ⟨rfl, ⟨rfl, trivial⟩⟩) (fun e => ok_cartridgelaw22_num r117 _ hr118)) rfl rfl ?_
                  refine DR0 (gc := true) rfl (vok_p (C := cx) (p_mv rfl)) rfl rfl ?_
                  refine DR0 (gc := true) rfl (vok_p (C := cx) (p_faV fs55_2 (by decide) rfl ndS (j := 0) rfl rfl)) rfl rfl ?_
                  refine DR0 (gc := true) rfl (vok_p (C := cx) (p_ldV (v := Enc.v (e85.Drive : Int)) ty3 rfl rfl ndS (j := 0) rfl rfl rfl rfl rfl)) rfl rfl ?_
                  obtain ⟨r119, hr119, hX⟩ := bind_some hX
                  refine DR2 rfl rfl ?_
                  refine TL.pick [3, 0, 1, 2, 4] nd (by decide) fun nd => ?_
                  refine TL.tcX [(b72, RV 67 [OL (α := Int) b73 l74, OL (α := Int) b75 l76, OL (α := Int) b77 l78]), (b73, RL (α := Int) 3 l74), (b75, RL (α := Int) 3 l76), (b77, RL (α := Int) 3 l78)] [(b86, RV 55 [Enc.v (e85.Way : Int), Enc.v (e85.Label : Int), Enc.v (e85.Drive : Int)])] rfl nd (dlt rfl) rfl ⟨rfl, ⟨rfl, ⟨rfl, trivial⟩⟩⟩ (ok_cartridgeref22_Shelf_Back e85.Drive l74 l76 l78 b72 b73 b75 b77 (Nd.take nd 4 rfl) _ hr119) ?_
                  rintro _ _ hQ nd
                  obtain ⟨b121, b122, b123, rfl, rfl⟩ := hQ
                  refine TL.nil ⟨_, [(b72, RV 67 [OL (α := Int) b121 r119.2.1, OL (α := Int) b122 r119.2.2.1, OL (α := Int) b123 r119.2.2.2]), (b121, RL (α := Int) 3 r119.2.1), (b122, RL (α := Int) 3 r119.2.2.1), (b123, RL (α := Int) 3 r119.2.2.2)], rfl, rfl, HSub_app nd, ?_⟩
                  refine DR0 (gc := true) rfl (vok_p (C := cx) (p_neq rfl rfl)) rfl rfl ?_
                  refine DRend ?_
                  refine hK116 _ _ ?_
                  refine TK.cond (b := (r118 != r119.1)) rfl (fun hc => ?_) (fun hc => ?_)
                  · have hX := ite_t hc hX
                    refine TK.seq_k fun K124 hK124 => ?_
                    refine TK.reg ?_
                    refine TL.p (C := cx) (gc := true) (p_mv rfl) rfl rfl ?_
                    refine TL.nil ?_
                    refine hK124 _ _ ?_
                    refine TK.ret ?_
                    obtain rfl := hR71 _ (some_in hX).symm
                    replace hX := hA71
                    try dsimp only [thenQ]
                    exact ret1 (v := Enc.v (false : Bool)) rfl (by obtain rfl := some_in hX; rfl) (v_val _)
                  · have hX := ite_f hc hX
                    refine TK.skip ?_
                    exact J87 r119.2.1 r119.2.2.1 r119.2.2.2 _ _ ⟨b121, b122, b123, b72, b86, rfl, (Nd.pick nd (is := [1, 2, 3, 0, 4]) (by decide)), (HSub.pick nd (is := [1, 2, 3, 0, 4]) (by decide))⟩ hX
                · have hX := ite_f hc hX
                  refine TK.skip ?_
                  exact J87 l74 l76 l78 _ _ ⟨b73, b75, b77, b72, b86, rfl, (Nd.pick nd (is := [1, 2, 3, 4, 0]) (by decide)), (HSub.pick nd (is := [1, 2, 3, 4, 0]) (by decide))⟩ hX
            · have hX := ite_f hc hX
              refine TK.exit ?_
              obtain rfl := hR71 _ (some_in hX).symm
              exact E71 _ _ ⟨(), rfl, (Nd.pick nd (is := []) (by decide)), (HSub.pick nd (is := []) (by decide))⟩ hA71
    | some o125 =>
      simp only [hqr13] at hQ hX
      obtain ⟨b126, b127, rfl, rfl⟩ := hQ
      refine TL.p (C := cx) (gc := true) (p_mv rfl) rfl rfl ?_
      refine TL.p (C := cx) (gc := true) (p_ex rfl rfl (by decide)) rfl rfl ?_
      refine TL.p (C := cx) (gc := true) (p_ex rfl rfl (by decide)) rfl rfl ?_
      refine TL.p (C := cx) (gc := true) (p_mv rfl) rfl rfl ?_
      refine TL.p (C := cx) (gc := true) (p_mv rfl) rfl rfl ?_
      refine TL.nil ?_
      refine hK10 _ _ ?_
      refine TK.seq_k fun K128 hK128 => ?_
      refine TK.reg ?_
      refine TL.p (C := cx) (gc := true) (p_mv rfl) rfl rfl ?_
      refine TL.p (C := cx) (gc := true) (p_mv rfl) rfl rfl ?_
      obtain ⟨r129, hr129, hX⟩ := bind_some hX
      refine TL.tcX [] [(b126, RV 65 [Enc.v (o125.1 : (List Int)), OL (α := Int) b127 o125.2]), (b127, RL (α := Int) 3 o125.2)] rfl nd (dlt rfl) rfl ⟨rfl, ⟨rfl, ⟨rfl, trivial⟩⟩⟩ (ok_cartridgeref22_NewShelf labels1 drives2 (Nd.take nd 0 rfl) _ hr129) ?_
      rintro _ _ hQ nd
      cases hqr129 : r129.1 with
      | none =>
        simp only [hqr129] at hQ hX
        obtain ⟨rfl, rfl⟩ := hQ
        refine TL.p (C := cx) (gc := true) (p_mv rfl) rfl rfl ?_
        refine TL.p (C := cx) (gc := true) (p_ex rfl rfl (by decide)) rfl rfl ?_
        refine TL.p (C := cx) (gc := true) (p_ex rfl rfl (by decide)) rfl rfl ?_
        refine TL.p (C := cx) (gc := true) (p_mv rfl) rfl rfl ?_
        refine TL.p (C := cx) (gc := true) (p_mv rfl) rfl rfl ?_
        refine TL.nil ?_
        refine hK128 _ _ ?_
        refine TK.seq_k fun K130 hK130 => ?_
        refine TK.seq_k fun K131 hK131 => ?_
        refine TK.reg ?_
        refine TL.p (C := cx) (gc := true) (p_mv rfl) rfl rfl ?_
        obtain ⟨r132, hr132, hX⟩ := bind_some hX
        refine TL.cvX rfl rfl rfl (fun _ => ⟨rfl, ⟨rfl, trivial⟩⟩) (fun e => ok_cartridgelaw22_num r13.2 _ hr132) ?_
        refine TL.p (C := cx) (gc := true) (p_mv rfl) rfl rfl ?_
        refine TL.p (C := cx) (gc := true) (p_neq rfl rfl) rfl rfl ?_
        refine TL.p (C := cx) (gc := true) (p_mv rfl) rfl rfl ?_
        refine TL.p (C := cx) (gc := (!((r132 != r129.2)))) (p_mv rfl (hg := fun e => rfl)) (gcF1 rfl) rfl ?_
        refine TL.p (C := cx) (gc := (!((r132 != r129.2)))) (p_eqP kd48 rfl rfl (fun _ => refOK_of nd (j := 0) rfl rfl) (hg := fun e => ⟨e, rfl⟩)) (gcF1 rfl) rfl ?_
        refine TL.p (C := cx) (gc := (!((r132 != r129.2)))) (p_mv rfl (hg := fun e => rfl)) (gcF1 rfl) rfl ?_
        refine TL.p (C := cx) (gc := (!((r132 != r129.2)))) (p_neq rfl rfl (hg := fun e => ⟨e, rfl⟩)) (gcF1 rfl) rfl ?_
        refine TL.p (C := cx) (gc := (!((r132 != r129.2)))) (p_neB kd4 rfl rfl (hg := fun e => ⟨e, e⟩)) (gcF1 rfl) rfl ?_
        refine TL.p (C := cx) (gc := true) (p_or rfl rfl (fun e => ⟨rfl, fun h => (not_t h)⟩)) rfl rfl ?_
        refine TL.nil ?_
        refine hK131 _ _ ?_
        refine TK.cond (b := ((r132 != r129.2) || (false != (r129.2 != (0 : Int))))) rfl (fun hc => ?_) (fun hc => ?_)
        · have hX := ite_t hc hX
          refine TK.seq_k fun K133 hK133 => ?_
          refine TK.reg ?_
          refine TL.p (C := cx) (gc := true) (p_mv rfl) rfl rfl ?_
          refine TL.nil ?_
          refine hK133 _ _ ?_
          refine TK.ret ?_
          try dsimp only [thenQ]
          exact ret1 (v := Enc.v (false : Bool)) rfl (by obtain rfl := some_in hX; rfl) (v_val _)
        · have hX := ite_f hc hX
          refine TK.skip ?_
          refine hK130 _ _ ?_
          refine TK.seq_k fun K134 hK134 => ?_
          refine TK.seq_k fun K135 hK135 => ?_
          refine TK.reg ?_
          refine TL.p (C := cx) (gc := true) (p_mv rfl) rfl rfl ?_
          refine TL.p (C := cx) (gc := true) (p_neq rfl rfl) rfl rfl ?_
          refine TL.nil ?_
          refine hK135 _ _ ?_
          refine TK.cond (b := (r129.2 != (0 : Int))) rfl (fun hc => ?_) (fun hc => ?_)
          · have hX := ite_t hc hX
            refine TK.seq_k fun K136 hK136 => ?_
            refine TK.reg ?_
            refine TL.p (C := cx) (gc := true) (p_mv rfl) rfl rfl ?_
            refine TL.nil ?_
            refine hK136 _ _ ?_
            refine TK.ret ?_
            try dsimp only [thenQ]
            exact ret1 (v := Enc.v (true : Bool)) rfl (by obtain rfl := some_in hX; rfl) (v_val _)
          · have hX := ite_f hc hX
            refine TK.skip ?_
            refine hK134 _ _ ?_
            refine TK.seq_k fun K137 hK137 => ?_
            refine TK.seq_k fun K138 hK138 => ?_
            refine TK.reg ?_
            refine TL.p (C := cx) (gc := true) (p_mv rfl) rfl rfl ?_
            refine TL.nil ?_
            refine hK138 _ _ ?_
            refine TK.block ?_
            obtain ⟨o139, hO139, hA139⟩ := bind_some hX
            have E139 : ∀ (env : Env) (h : Hp), (∃ _u : Unit, keepE [] env = [] ∧ Nd [] ∧ HSub [] h) → X.cartridgelaw22_ShelfPlays_e139 = some r → K137 env h := by
              intro  env h hE hX
              obtain ⟨_u, henv, nd, hs⟩ := hE
              unfold X.cartridgelaw22_ShelfPlays_e139 at hX
              refine hK137 _ _ (TK.keep [] ?_)
              rw [henv]
              refine TK.subH hs ?_
              refine TK.seq_k fun K145 hK145 => ?_
              refine TK.reg ?_
              refine TL.p (C := cx) (gc := true) (p_mv rfl) rfl rfl ?_
              refine TL.nil ?_
              refine hK145 _ _ ?_
              refine TK.ret ?_
              try dsimp only [thenQ]
              exact ret1 (v := Enc.v (true : Bool)) rfl (by obtain rfl := some_in hX; rfl) (v_val _)
            refine TK.iter [2, 8, 10, 12] (fun s env h => match s with | (c141, l143, i144) => ∃ b142 b140, env = [(2, true, Enc.v (l3 : (List Act_law22))), (8, true, .ref b140 0 2), (10, true, .nilp), (12, true, Enc.v (i144 : Int))] ∧ Nd [(b142, RL (α := Int) 3 l143), (b140, RV 65 [Enc.v (c141 : (List Int)), OL (α := Int) b142 l143])] ∧ HSub [(b142, RL (α := Int) 3 l143), (b140, RV 65 [Enc.v (c141 : (List Int)), OL (α := Int) b142 l143])] h) hO139 ⟨b127, b126, rfl, (Nd.pick nd (is := [1, 0]) (by decide)), (HSub.pick nd (is := [1, 0]) (by decide))⟩ ?_
            rintro ⟨c141, l143, i144⟩ env h x139x ⟨b142, b140, rfl, nd, hs⟩ hX hR139
            refine TK.subH hs ?_
            unfold X.cartridgelaw22_ShelfPlays_s139 at hX
            try dsimp only at hX
            refine TK.seq_k fun K146 hK146 => ?_
            refine TK.seq_k fun K147 hK147 => ?_
            refine TK.reg ?_
            refine TL.p (C := cx) (gc := true) (p_mv rfl) rfl rfl ?_
            refine TL.p (C := cx) (gc := true) (p_mv rfl) rfl rfl ?_
            refine TL.p (C := cx) (gc := true) (p_lenL (xs := l3) kd47 rfl) rfl rfl ?_
            refine TL.p (C := cx) (gc := true) (p_lss rfl rfl) rfl rfl ?_
            refine TL.nil ?_
            refine hK147 _ _ ?_
            refine TK.cond (b := (decide (i144 < (l3.length : Int)))) rfl (fun hc => ?_) (fun hc => ?_)
            · have hX := ite_t hc hX
              refine TK.skip ?_
              refine hK146 _ _ ?_
              refine TK.seq_k fun K148 hK148 => ?_
              refine TK.block ?_
              refine TK.seq_k fun K149 hK149 => ?_
              refine TK.reg ?_
              refine TL.p (C := cx) (gc := true) (p_mv rfl) rfl rfl ?_
              refine TL.p (C := cx) (gc := true) (p_mv rfl) rfl rfl ?_
              obtain ⟨e150, he150, hX⟩ := bind_some hX
              refine TL.p (C := cx) (gc := true) (p_iaL (xs := l3) kd47 ty55 rfl rfl rfl (fun _ => he150)) rfl rfl ?_
              refine TL.p (C := cx) (gc := true) (p_ldE (xs := l3) (a := e150) (e150 : Act_law22) ty55 rfl rfl (fun _ => he150) rfl rfl rfl) rfl rfl ?_
              refine TL.alO (C := cx) (l := [Enc.v ((0 : Int) : Int), Enc.v ((0 : Int) : Int), Enc.v ((0 : Int) : Int)]) nd ty55 ti55_z rfl rfl fun b151 nd => ?_
              refine TL.stV (C := cx) (lu := Enc.cl (e150 : Act_law22)) nd ty55 rfl (j := 0) rfl rfl rfl (Cells_v (e150 : Act_law22)) rfl rfl [Enc.v (e150.Way : Int), Enc.v (e150.Label : Int), Enc.v (e150.Drive : Int)] rfl fun nd => ?_
              refine TL.nil ?_
              refine hK149 _ _ ?_
              refine TK.seq_k fun K152 hK152 => ?_
              have J152 : ∀ (c154 : (List Int)) (l156 : List Int) (env : Env) (h : Hp), (∃ b155 b153 b157, keepE [2, 8, 10, 12, 13] env = [(2, true, Enc.v (l3 : (List Act_law22))), (8, true, .ref b153 0 2), (10, true, .nilp), (12, true, Enc.v (i144 : Int)), (13, true, .ref b157 0 3)] ∧ Nd [(b155, RL (α := Int) 3 l156), (b153, RV 65 [Enc.v (c154 : (List Int)), OL (α := Int) b155 l156]), (b157, RV 55 [Enc.v (e150.Way : Int), Enc.v (e150.Label : Int), Enc.v (e150.Drive : Int)])] ∧ HSub [(b155, RL (α := Int) 3 l156), (b153, RV 65 [Enc.v (c154 : (List Int)), OL (α := Int) b155 l156]), (b157, RV 55 [Enc.v (e150.Way : Int), Enc.v (e150.Label : Int), Enc.v (e150.Drive : Int)])] h) → X.cartridgelaw22_ShelfPlays_j152 e150 i144 c154 l156 = some x139x → K152 env h := by
                intro c154 l156 env h hE hX
                obtain ⟨b155, b153, b157, henv, nd, hs⟩ := hE
                unfold X.cartridgelaw22_ShelfPlays_j152 at hX
                refine hK152 _ _ (TK.keep [2, 8, 10, 12, 13] ?_)
                rw [henv]
                refine TK.subH hs ?_
                refine TK.seq_k fun K158 hK158 => ?_
                have ndS : Nd [(b155, RL (α := Int) 3 l156), (b153, RV 65 [Enc.v (c154 : (List Int)), OL (α := Int) b155 l156]), (b157, RV 55 [Enc.v (e150.Way : Int), Enc.v (e150.Label : Int), Enc.v (e150.Drive : Int)])] := Nd.pick nd (is := [0, 1, 2]) (by decide)
                refine TK.drwX (h := []) (hS := [(b155, RL (α := Int) 3 l156), (b153, RV 65 [Enc.v (c154 : (List Int)), OL (α := Int) b155 l156]), (b157, RV 55 [Enc.v (e150.Way : Int), Enc.v (e150.Label : Int), Enc.v (e150.Drive : Int)])]) [(0, 0), (0, 1), (0, 2), (0, 3), (0, 4), (0, 5), (0, 6), (0, 7), (0, 8), (0, 9), (0, 10), (0, 11), (0, 12), (0, 13), (0, 14), (0, 15), (0, 16), (0, 17), (0, 18), (0, 19), (0, 20), (0, 21), (0, 22), (0, 23), (0, 24), (0, 25), (0, 26), (0, 27), (0, 28), (0, 29), (0, 30)] mixed (by kernel_rfl) (HSub_app nd) ?_
                refine DR0 (gc := true) rfl (vok_p (C := cx) (p_mv rfl)) rfl rfl ?_
                refine DR0 (gc := true) rfl (vok_p (C := cx) (p_faV fs55_1 (by decide) rfl ndS (j := 2) rfl rfl)) rfl rfl ?_
                refine DR0 (gc := true) rfl (vok_p (C := cx) (p_ldV (v := Enc.v (e150.Label : Int)) ty3 rfl rfl ndS (j := 2) rfl rfl rfl rfl rfl)) rfl rfl ?_
                obtain ⟨r159, hr159, hX⟩ := bind_some hX
                refine DR0 (gc := true) rfl (vok_lookX [.vref (ofL [Enc.v (c154 : (List Int)), Enc.v (l156 : (List Int))]) 2 0, Enc.v (e150.Label : Int)] rfl (fun _ => ⟨rfl, ⟨rfl, ⟨rfl, trivial⟩⟩⟩) ⟨look_ref (l := [Enc.v (c154 : (List Int)), OL (α := Int) b155 l156]) ndS (j := 1) rfl ⟨look_v (v := Enc.v (c154 : (List Int))) (v_val _), look_OL ndS (j := 0) rfl, trivial⟩, look_v (v := Enc.v (e150.Label : Int)) (v_val _), trivial⟩ (fun e => ok_shelf_Shelf_Slot c154 l156 e150.Label _ hr159) (trivial)) rfl rfl ?_
                refine DR0 (gc := true) rfl (vok_p (C := cx) (p_mv rfl)) rfl rfl ?_
                refine DR0 (gc := true) rfl (vok_p (C := cx) (p_faV fs55_1 (by decide) rfl ndS (j := 2) rfl rfl)) rfl rfl ?_
                refine DR0 (gc := true) rfl (vok_p (C := cx) (p_ldV (v := Enc.v (e150.Label : Int)) ty3 rfl rfl ndS (j := 2) rfl rfl rfl rfl rfl)) rfl rfl ?_
                obtain ⟨r160, hr160, hX⟩ := bind_some hX
                refine DR0 (gc := true) rfl (vok_c rfl (fun _ => ⟨rfl, ⟨rfl, ⟨rfl, trivial⟩⟩⟩) (fun e => ok_cartridgeref22_Shelf_Slot_nil e150.Label _ hr160)) rfl rfl ?_
                refine DR0 (gc := true) rfl (vok_p (C := cx) (p_neq rfl rfl)) rfl rfl ?_
                refine DR0 (gc := true) rfl (vok_p (C := cx) (p_mv rfl)) rfl rfl ?_
                refine DR0 (gc := (!((r159 != r160)))) rfl (vok_p (C := cx) (p_mv rfl (hg := fun e => rfl))) (gcF1 rfl) rfl ?_
                refine DR0 (gc := (!((r159 != r160)))) rfl (vok_p (C := cx) (p_faV fs55_1 (by decide) rfl ndS (j := 2) rfl rfl (hg := fun e => rfl))) (gcF1 rfl) rfl ?_
                refine DR0 (gc := (!((r159 != r160)))) rfl (vok_p (C := cx) (p_ldV (v := Enc.v (e150.Label : Int)) ty3 rfl rfl ndS (j := 2) rfl rfl rfl rfl rfl (hg := fun e => e))) (gcF1 rfl) rfl ?_
                obtain ⟨r161, hr161, hX⟩ := bind_some hX
                refine DR0 (gc := (!((r159 != r160)))) rfl (vok_lookX [.vref (ofL [Enc.v (c154 : (List Int)), Enc.v (l156 : (List Int))]) 2 0, Enc.v (e150.Label : Int)] rfl (fun e => ⟨rfl, ⟨e, ⟨e, trivial⟩⟩⟩) ⟨look_ref (l := [Enc.v (c154 : (List Int)), OL (α := Int) b155 l156]) ndS (j := 1) rfl ⟨look_v (v := Enc.v (c154 : (List Int))) (v_val _), look_OL ndS (j := 0) rfl, trivial⟩, look_v (v := Enc.v (e150.Label : Int)) (v_val _), trivial⟩ (fun e => ok_shelf_Shelf_Drive c154 l156 e150.Label _ (optG_t hr161 e)) (trivial)) (gcF1 rfl) rfl ?_
                refine DR0 (gc := (!((r159 != r160)))) rfl (vok_p (C := cx) (p_mv rfl (hg := fun e => rfl))) (gcF1 rfl) rfl ?_
                refine DR0 (gc := (!((r159 != r160)))) rfl (vok_p (C := cx) (p_faV fs55_1 (by decide) rfl ndS (j := 2) rfl rfl (hg := fun e => rfl))) (gcF1 rfl) rfl ?_
                refine DR0 (gc := (!((r159 != r160)))) rfl (vok_p (C := cx) (p_ldV (v := Enc.v (e150.Label : Int)) ty3 rfl rfl ndS (j := 2) rfl rfl rfl rfl rfl (hg := fun e => e))) (gcF1 rfl) rfl ?_
                obtain ⟨r162, hr162, hX⟩ := bind_some hX
                refine DR0 (gc := (!((r159 != r160)))) rfl (vok_c rfl (fun e => ⟨rfl, ⟨e, ⟨e, trivial⟩⟩⟩) (fun e => ok_cartridgeref22_Shelf_Drive_nil e150.Label _ (optG_t hr162 e))) (gcF1 rfl) rfl ?_
                refine DR0 (gc := (!((r159 != r160)))) rfl (vok_p (C := cx) (p_neq rfl rfl (hg := fun e => ⟨e, e⟩))) (gcF1 rfl) rfl ?_
                refine DR0 (gc := true) rfl (vok_p (C := cx) (p_or rfl rfl (fun e => ⟨rfl, fun h => (not_t h)⟩))) rfl rfl ?_
                refine DR0 (gc := true) rfl (vok_p (C := cx) (p_mv rfl)) rfl rfl ?_
                refine DR0 (gc := (!(((r159 != r160) || (r161 != r162))))) rfl (vok_p (C := cx) (p_mv rfl (hg := fun e => rfl))) (gcF1 rfl) rfl ?_
                refine DR0 (gc := (!(((r159 != r160) || (r161 != r162))))) rfl (vok_p (C := cx) (p_faV fs55_2 (by decide) rfl ndS (j := 2) rfl rfl (hg := fun e => rfl))) (gcF1 rfl) rfl ?_
                refine DR0 (gc := (!(((r159 != r160) || (r161 != r162))))) rfl (vok_p (C := cx) (p_ldV (v := Enc.v (e150.Drive : Int)) ty3 rfl rfl ndS (j := 2) rfl rfl rfl rfl rfl (hg := fun e => e))) (gcF1 rfl) rfl ?_
                obtain ⟨r163, hr163, hX⟩ := bind_some hX
                refine DR0 (gc := (!(((r159 != r160) || (r161 != r162))))) rfl (vok_lookX [.vref (ofL [Enc.v (c154 : (List Int)), Enc.v (l156 : (List Int))]) 2 0, Enc.v (e150.Drive : Int)] rfl (fun e => ⟨rfl, ⟨e, ⟨e, trivial⟩⟩⟩) ⟨look_ref (l := [Enc.v (c154 : (List Int)), OL (α := Int) b155 l156]) ndS (j := 1) rfl ⟨look_v (v := Enc.v (c154 : (List Int))) (v_val _), look_OL ndS (j := 0) rfl, trivial⟩, look_v (v := Enc.v (e150.Drive : Int)) (v_val _), trivial⟩ (fun e => ok_shelf_Shelf_Mounted c154 l156 e150.Drive _ (optG_t hr163 e)) (trivial)) (gcF1 rfl) rfl ?_
                refine DR0 (gc := (!(((r159 != r160) || (r161 != r162))))) rfl (vok_p (C := cx) (p_mv rfl (hg := fun e => rfl))) (gcF1 rfl) rfl ?_
                refine DR0 (gc := (!(((r159 != r160) || (r161 != r162))))) rfl (vok_p (C := cx) (p_faV fs55_2 (by decide) rfl ndS (j := 2) rfl rfl (hg := fun e => rfl))) (gcF1 rfl) rfl ?_
                refine DR0 (gc := (!(((r159 != r160) || (r161 != r162))))) rfl (vok_p (C := cx) (p_ldV (v := Enc.v (e150.Drive : Int)) ty3 rfl rfl ndS (j := 2) rfl rfl rfl rfl rfl (hg := fun e => e))) (gcF1 rfl) rfl ?_
                obtain ⟨r164, hr164, hX⟩ := bind_some hX
                refine DR0 (gc := (!(((r159 != r160) || (r161 != r162))))) rfl (vok_c rfl (fun e => ⟨rfl, ⟨e, ⟨e, trivial⟩⟩⟩) (fun e => ok_cartridgeref22_Shelf_Mounted_nil e150.Drive _ (optG_t hr164 e))) (gcF1 rfl) rfl ?_
                refine DR0 (gc := (!(((r159 != r160) || (r161 != r162))))) rfl (vok_p (C := cx) (p_neq rfl rfl (hg := fun e => ⟨e, e⟩))) (gcF1 rfl) rfl ?_
                refine DR0 (gc := true) rfl (vok_p (C := cx) (p_or rfl rfl (fun e => ⟨rfl, fun h => (not_t h)⟩))) rfl rfl ?_
                refine DRend ?_
                refine hK158 _ _ ?_
                refine TK.cond (b := (((r159 != r160) || (r161 != r162)) || (r163 != r164))) rfl (fun hc => ?_) (fun hc => ?_)
                · have hX := ite_t hc hX
                  refine TK.seq_k fun K165 hK165 => ?_
                  refine TK.reg ?_
                  refine TL.p (C := cx) (gc := true) (p_mv rfl) rfl rfl ?_
                  refine TL.nil ?_
                  refine hK165 _ _ ?_
                  refine TK.ret ?_
                  obtain rfl := hR139 _ (some_in hX).symm
                  replace hX := hA139
                  try dsimp only [thenQ]
                  exact ret1 (v := Enc.v (false : Bool)) rfl (by obtain rfl := some_in hX; rfl) (v_val _)
                · have hX := ite_f hc hX
                  refine TK.skip ?_
                  refine hK148 _ _ ?_
                  refine TK.reg ?_
                  refine TL.p (C := cx) (gc := true) (p_mv rfl) rfl rfl ?_
                  refine TL.p (C := cx) (gc := true) (p_add rfl rfl) rfl rfl ?_
                  refine TL.p (C := cx) (gc := true) (p_mv rfl) rfl rfl ?_
                  refine TL.nil ?_
                  exact ⟨_, (some_in hX).symm, b155, b153, rfl, (Nd.pick nd (is := [0, 1]) (by decide)), (HSub.pick nd (is := [0, 1]) (by decide))⟩
              refine TK.seq_k fun K166 hK166 => ?_
              refine TK.reg ?_
              refine TL.p (C := cx) (gc := true) (p_faV fs55_0 (by decide) rfl nd (j := 0) rfl rfl) rfl rfl ?_
              refine TL.p (C := cx) (gc := true) (p_ldV (v := Enc.v (e150.Way : Int)) ty3 rfl rfl nd (j := 0) rfl rfl rfl rfl rfl) rfl rfl ?_
              refine TL.nil ?_
              refine hK166 _ _ ?_
              refine TK.block ?_
              refine TK.seq_k fun K167 hK167 => ?_
              refine TK.reg ?_
              refine TL.p (C := cx) (gc := true) (p_eql rfl rfl) rfl rfl ?_
              refine TL.p (C := cx) (gc := true) (p_mv rfl) rfl rfl ?_
              refine TL.nil ?_
              refine hK167 _ _ ?_
              refine TK.cond (b := (e150.Way == (0 : Int))) rfl (fun hc => ?_) (fun hc => ?_)
              · have hX := ite_t hc hX
                refine TK.seq_k fun K168 hK168 => ?_
                refine TK.pick [1, 2, 0] nd (by decide) fun nd => ?_
                have ndS : Nd [(b151, RV 55 [Enc.v (e150.Way : Int), Enc.v (e150.Label : Int), Enc.v (e150.Drive : Int)])] := Nd.pick nd (is := [2]) (by decide)
                refine TK.drwX (h := [(b142, RL (α := Int) 3 l143), (b140, RV 65 [Enc.v (c141 : (List Int)), OL (α := Int) b142 l143])]) (hS := [(b151, RV 55 [Enc.v (e150.Way : Int), Enc.v (e150.Label : Int), Enc.v (e150.Drive : Int)])]) [(0, 0), (0, 1), (0, 2), (0, 3), (0, 4), (0, 7), (0, 8), (0, 9), (0, 10), (0, 11), (2, 5), (0, 6), (0, 12), (0, 13)] mixed (by kernel_rfl) (HSub_app nd) ?_
                refine DR0 (gc := true) rfl (vok_p (C := cx) (p_mv rfl)) rfl rfl ?_
                refine DR0 (gc := true) rfl (vok_p (C := cx) (p_faV fs55_1 (by decide) rfl ndS (j := 0) rfl rfl)) rfl rfl ?_
                refine DR0 (gc := true) rfl (vok_p (C := cx) (p_ldV (v := Enc.v (e150.Label : Int)) ty3 rfl rfl ndS (j := 0) rfl rfl rfl rfl rfl)) rfl rfl ?_
                refine DR0 (gc := true) rfl (vok_p (C := cx) (p_faV fs55_2 (by decide) rfl ndS (j := 0) rfl rfl)) rfl rfl ?_
                refine DR0 (gc := true) rfl (vok_p (C := cx) (p_ldV (v := Enc.v (e150.Drive : Int)) ty3 rfl rfl ndS (j := 0) rfl rfl rfl rfl rfl)) rfl rfl ?_
                refine DR0 (gc := true) rfl (vok_p (C := cx) (p_mv rfl)) rfl rfl ?_
                refine DR0 (gc := true) rfl (vok_p (C := cx) (p_faV fs55_1 (by decide) rfl ndS (j := 0) rfl rfl)) rfl rfl ?_
                refine DR0 (gc := true) rfl (vok_p (C := cx) (p_ldV (v := Enc.v (e150.Label : Int)) ty3 rfl rfl ndS (j := 0) rfl rfl rfl rfl rfl)) rfl rfl ?_
                refine DR0 (gc := true) rfl (vok_p (C := cx) (p_faV fs55_2 (by decide) rfl ndS (j := 0) rfl rfl)) rfl rfl ?_
                refine DR0 (gc := true) rfl (vok_p (C := cx) (p_ldV (v := Enc.v (e150.Drive : Int)) ty3 rfl rfl ndS (j := 0) rfl rfl rfl rfl rfl)) rfl rfl ?_
                obtain ⟨r169, hr169, hX⟩ := bind_some hX
                refine DR2 rfl rfl ?_
                refine TL.pick [1, 0, 2] nd (by decide) fun nd => ?_
                refine TL.tcX [(b140, RV 65 [Enc.v (c141 : (List Int)), OL (α := Int) b142 l143]), (b142, RL (α := Int) 3 l143)] [(b151, RV 55 [Enc.v (e150.Way : Int), Enc.v (e150.Label : Int), Enc.v (e150.Drive : Int)])] rfl nd (dlt rfl) rfl ⟨rfl, ⟨rfl, ⟨rfl, ⟨rfl, trivial⟩⟩⟩⟩ (ok_shelf_Shelf_Move e150.Label e150.Drive c141 l143 b140 b142 (Nd.take nd 2 rfl) _ hr169) ?_
                rintro _ _ hQ nd
                obtain ⟨b171, rfl, rfl⟩ := hQ
                refine TL.nil ⟨_, [(b140, RV 65 [Enc.v (r169.2.1 : (List Int)), OL (α := Int) b171 r169.2.2]), (b171, RL (α := Int) 3 r169.2.2)], rfl, rfl, HSub_app nd, ?_⟩
                obtain ⟨r172, hr172, hX⟩ := bind_some hX
                refine DR0 (gc := true) rfl (vok_c rfl (fun _ => ⟨rfl, ⟨rfl, trivial⟩⟩) (fun e => ok_cartridgelaw22_num r169.1 _ hr172)) rfl rfl ?_
                obtain ⟨r173, hr173, hX⟩ := bind_some hX
                refine DR0 (gc := true) rfl (vok_c rfl (fun _ => ⟨rfl, ⟨rfl, ⟨rfl, ⟨rfl, trivial⟩⟩⟩⟩) (fun e => ok_cartridgeref22_Shelf_Move_nil e150.Label e150.Drive _ hr173)) rfl rfl ?_
                refine DR0 (gc := true) rfl (vok_p (C := cx) (p_neq rfl rfl)) rfl rfl ?_
                refine DRend ?_
                refine hK168 _ _ ?_
                refine TK.cond (b := (r172 != r173)) rfl (fun hc => ?_) (fun hc => ?_)
                · have hX := ite_t hc hX
                  refine TK.seq_k fun K174 hK174 => ?_
                  refine TK.reg ?_
                  refine TL.p (C := cx) (gc := true) (p_mv rfl) rfl rfl ?_
                  refine TL.nil ?_
                  refine hK174 _ _ ?_
                  refine TK.ret ?_
                  obtain rfl := hR139 _ (some_in hX).symm
                  replace hX := hA139
                  try dsimp only [thenQ]
                  exact ret1 (v := Enc.v (false : Bool)) rfl (by obtain rfl := some_in hX; rfl) (v_val _)
                · have hX := ite_f hc hX
                  refine TK.skip ?_
                  exact J152 r169.2.1 r169.2.2 _ _ ⟨b171, b140, b151, rfl, (Nd.pick nd (is := [1, 0, 2]) (by decide)), (HSub.pick nd (is := [1, 0, 2]) (by decide))⟩ hX
              · have hX := ite_f hc hX
                refine TK.seq_k fun K175 hK175 => ?_
                refine TK.reg ?_
                refine TL.p (C := cx) (gc := true) (p_eql rfl rfl) rfl rfl ?_
                refine TL.p (C := cx) (gc := true) (p_mv rfl) rfl rfl ?_
                refine TL.nil ?_
                refine hK175 _ _ ?_
                refine TK.cond (b := (e150.Way == (1 : Int))) rfl (fun hc => ?_) (fun hc => ?_)
                · have hX := ite_t hc hX
                  refine TK.seq_k fun K176 hK176 => ?_
                  refine TK.pick [1, 2, 0] nd (by decide) fun nd => ?_
                  have ndS : Nd [(b151, RV 55 [Enc.v (e150.Way : Int), Enc.v (e150.Label : Int), Enc.v (e150.Drive : Int)])] := Nd.pick nd (is := [2]) (by decide)
                  refine TK.drwX (h := [(b142, RL (α := Int) 3 l143), (b140, RV 65 [Enc.v (c141 : (List Int)), OL (α := Int) b142 l143])]) (hS := [(b151, RV 55 [Enc.v (e150.Way : Int), Enc.v (e150.Label : Int), Enc.v (e150.Drive : Int)])]) [(0, 0), (0, 1), (0, 2), (0, 5), (0, 6), (0, 7), (2, 3), (0, 4), (0, 8), (0, 9)] mixed (by kernel_rfl) (HSub_app nd) ?_
                  refine DR0 (gc := true) rfl (vok_p (C := cx) (p_mv rfl)) rfl rfl ?_
                  refine DR0 (gc := true) rfl (vok_p (C := cx) (p_faV fs55_2 (by decide) rfl ndS (j := 0) rfl rfl)) rfl rfl ?_
                  refine DR0 (gc := true) rfl (vok_p (C := cx) (p_ldV (v := Enc.v (e150.Drive : Int)) ty3 rfl rfl ndS (j := 0) rfl rfl rfl rfl rfl)) rfl rfl ?_
                  refine DR0 (gc := true) rfl (vok_p (C := cx) (p_mv rfl)) rfl rfl ?_
                  refine DR0 (gc := true) rfl (vok_p (C := cx) (p_faV fs55_2 (by decide) rfl ndS (j := 0) rfl rfl)) rfl rfl ?_
                  refine DR0 (gc := true) rfl (vok_p (C := cx) (p_ldV (v := Enc.v (e150.Drive : Int)) ty3 rfl rfl ndS (j := 0) rfl rfl rfl rfl rfl)) rfl rfl ?_
                  obtain ⟨r177, hr177, hX⟩ := bind_some hX
                  refine DR2 rfl rfl ?_
                  refine TL.pick [1, 0, 2] nd (by decide) fun nd => ?_
                  refine TL.tcX [(b140, RV 65 [Enc.v (c141 : (List Int)), OL (α := Int) b142 l143]), (b142, RL (α := Int) 3 l143)] [(b151, RV 55 [Enc.v (e150.Way : Int), Enc.v (e150.Label : Int), Enc.v (e150.Drive : Int)])] rfl nd (dlt rfl) rfl ⟨rfl, ⟨rfl, ⟨rfl, trivial⟩⟩⟩ (ok_shelf_Shelf_Back e150.Drive c141 l143 b140 b142 (Nd.take nd 2 rfl) _ hr177) ?_
                  rintro _ _ hQ nd
                  obtain ⟨b179, rfl, rfl⟩ := hQ
                  refine TL.nil ⟨_, [(b140, RV 65 [Enc.v (r177.2.1 : (List Int)), OL (α := Int) b179 r177.2.2]), (b179, RL (α := Int) 3 r177.2.2)], rfl, rfl, HSub_app nd, ?_⟩
                  obtain ⟨r180, hr180, hX⟩ := bind_some hX
                  refine DR0 (gc := true) rfl (vok_c rfl (fun _ => ⟨rfl, ⟨rfl, trivial⟩⟩) (fun e => ok_cartridgelaw22_num r177.1 _ hr180)) rfl rfl ?_
                  obtain ⟨r181, hr181, hX⟩ := bind_some hX
                  refine DR0 (gc := true) rfl (vok_c rfl (fun _ => ⟨rfl, ⟨rfl, ⟨rfl, trivial⟩⟩⟩) (fun e => ok_cartridgeref22_Shelf_Back_nil e150.Drive _ hr181)) rfl rfl ?_
                  refine DR0 (gc := true) rfl (vok_p (C := cx) (p_neq rfl rfl)) rfl rfl ?_
                  refine DRend ?_
                  refine hK176 _ _ ?_
                  refine TK.cond (b := (r180 != r181)) rfl (fun hc => ?_) (fun hc => ?_)
                  · have hX := ite_t hc hX
                    refine TK.seq_k fun K182 hK182 => ?_
                    refine TK.reg ?_
                    refine TL.p (C := cx) (gc := true) (p_mv rfl) rfl rfl ?_
                    refine TL.nil ?_
                    refine hK182 _ _ ?_
                    refine TK.ret ?_
                    obtain rfl := hR139 _ (some_in hX).symm
                    replace hX := hA139
                    try dsimp only [thenQ]
                    exact ret1 (v := Enc.v (false : Bool)) rfl (by obtain rfl := some_in hX; rfl) (v_val _)
                  · have hX := ite_f hc hX
                    refine TK.skip ?_
                    exact J152 r177.2.1 r177.2.2 _ _ ⟨b179, b140, b151, rfl, (Nd.pick nd (is := [1, 0, 2]) (by decide)), (HSub.pick nd (is := [1, 0, 2]) (by decide))⟩ hX
                · have hX := ite_f hc hX
                  refine TK.skip ?_
                  exact J152 c141 l143 _ _ ⟨b142, b140, b151, rfl, (Nd.pick nd (is := [1, 2, 0]) (by decide)), (HSub.pick nd (is := [1, 2, 0]) (by decide))⟩ hX
            · have hX := ite_f hc hX
              refine TK.exit ?_
              obtain rfl := hR139 _ (some_in hX).symm
              exact E139 _ _ ⟨(), rfl, (Nd.pick nd (is := []) (by decide)), (HSub.pick nd (is := []) (by decide))⟩ hA139
      | some o183 =>
        simp only [hqr129] at hQ hX
        obtain ⟨b184, b185, b186, b187, rfl, rfl⟩ := hQ
        refine TL.p (C := cx) (gc := true) (p_mv rfl) rfl rfl ?_
        refine TL.p (C := cx) (gc := true) (p_ex rfl rfl (by decide)) rfl rfl ?_
        refine TL.p (C := cx) (gc := true) (p_ex rfl rfl (by decide)) rfl rfl ?_
        refine TL.p (C := cx) (gc := true) (p_mv rfl) rfl rfl ?_
        refine TL.p (C := cx) (gc := true) (p_mv rfl) rfl rfl ?_
        refine TL.nil ?_
        refine hK128 _ _ ?_
        refine TK.seq_k fun K188 hK188 => ?_
        refine TK.seq_k fun K189 hK189 => ?_
        refine TK.reg ?_
        refine TL.p (C := cx) (gc := true) (p_mv rfl) rfl rfl ?_
        obtain ⟨r190, hr190, hX⟩ := bind_some hX
        refine TL.cvX rfl rfl rfl (fun _ => ⟨rfl, ⟨rfl, trivial⟩⟩) (fun e => ok_cartridgelaw22_num r13.2 _ hr190) ?_
        refine TL.p (C := cx) (gc := true) (p_mv rfl) rfl rfl ?_
        refine TL.p (C := cx) (gc := true) (p_neq rfl rfl) rfl rfl ?_
        refine TL.p (C := cx) (gc := true) (p_mv rfl) rfl rfl ?_
        refine TL.p (C := cx) (gc := (!((r190 != r129.2)))) (p_mv rfl (hg := fun e => rfl)) (gcF1 rfl) rfl ?_
        refine TL.p (C := cx) (gc := (!((r190 != r129.2)))) (p_eqP kd48 rfl rfl (fun _ => refOK_of nd (j := 4) rfl rfl) (hg := fun e => ⟨e, rfl⟩)) (gcF1 rfl) rfl ?_
        refine TL.p (C := cx) (gc := (!((r190 != r129.2)))) (p_mv rfl (hg := fun e => rfl)) (gcF1 rfl) rfl ?_
        refine TL.p (C := cx) (gc := (!((r190 != r129.2)))) (p_neq rfl rfl (hg := fun e => ⟨e, rfl⟩)) (gcF1 rfl) rfl ?_
        refine TL.p (C := cx) (gc := (!((r190 != r129.2)))) (p_neB kd4 rfl rfl (hg := fun e => ⟨e, e⟩)) (gcF1 rfl) rfl ?_
        refine TL.p (C := cx) (gc := true) (p_or rfl rfl (fun e => ⟨rfl, fun h => (not_t h)⟩)) rfl rfl ?_
        refine TL.nil ?_
        refine hK189 _ _ ?_
        refine TK.cond (b := ((r190 != r129.2) || (false != (r129.2 != (0 : Int))))) rfl (fun hc => ?_) (fun hc => ?_)
        · have hX := ite_t hc hX
          refine TK.seq_k fun K191 hK191 => ?_
          refine TK.reg ?_
          refine TL.p (C := cx) (gc := true) (p_mv rfl) rfl rfl ?_
          refine TL.nil ?_
          refine hK191 _ _ ?_
          refine TK.ret ?_
          try dsimp only [thenQ]
          exact ret1 (v := Enc.v (false : Bool)) rfl (by obtain rfl := some_in hX; rfl) (v_val _)
        · have hX := ite_f hc hX
          refine TK.skip ?_
          refine hK188 _ _ ?_
          refine TK.seq_k fun K192 hK192 => ?_
          refine TK.seq_k fun K193 hK193 => ?_
          refine TK.reg ?_
          refine TL.p (C := cx) (gc := true) (p_mv rfl) rfl rfl ?_
          refine TL.p (C := cx) (gc := true) (p_neq rfl rfl) rfl rfl ?_
          refine TL.nil ?_
          refine hK193 _ _ ?_
          refine TK.cond (b := (r129.2 != (0 : Int))) rfl (fun hc => ?_) (fun hc => ?_)
          · have hX := ite_t hc hX
            refine TK.seq_k fun K194 hK194 => ?_
            refine TK.reg ?_
            refine TL.p (C := cx) (gc := true) (p_mv rfl) rfl rfl ?_
            refine TL.nil ?_
            refine hK194 _ _ ?_
            refine TK.ret ?_
            try dsimp only [thenQ]
            exact ret1 (v := Enc.v (true : Bool)) rfl (by obtain rfl := some_in hX; rfl) (v_val _)
          · have hX := ite_f hc hX
            refine TK.skip ?_
            refine hK192 _ _ ?_
            refine TK.seq_k fun K195 hK195 => ?_
            refine TK.seq_k fun K196 hK196 => ?_
            refine TK.reg ?_
            refine TL.p (C := cx) (gc := true) (p_mv rfl) rfl rfl ?_
            refine TL.nil ?_
            refine hK196 _ _ ?_
            refine TK.block ?_
            obtain ⟨o197, hO197, hA197⟩ := bind_some hX
            have E197 : ∀ (env : Env) (h : Hp), (∃ _u : Unit, keepE [] env = [] ∧ Nd [] ∧ HSub [] h) → X.cartridgelaw22_ShelfPlays_e197 = some r → K195 env h := by
              intro  env h hE hX
              obtain ⟨_u, henv, nd, hs⟩ := hE
              unfold X.cartridgelaw22_ShelfPlays_e197 at hX
              refine hK195 _ _ (TK.keep [] ?_)
              rw [henv]
              refine TK.subH hs ?_
              refine TK.seq_k fun K210 hK210 => ?_
              refine TK.reg ?_
              refine TL.p (C := cx) (gc := true) (p_mv rfl) rfl rfl ?_
              refine TL.nil ?_
              refine hK210 _ _ ?_
              refine TK.ret ?_
              try dsimp only [thenQ]
              exact ret1 (v := Enc.v (true : Bool)) rfl (by obtain rfl := some_in hX; rfl) (v_val _)
            refine TK.iter [2, 8, 10, 12] (fun s env h => match s with | (c199, l201, l204, l206, l208, i209) => ∃ b200 b198 b203 b205 b207 b202, env = [(2, true, Enc.v (l3 : (List Act_law22))), (8, true, .ref b198 0 2), (10, true, .ref b202 0 3), (12, true, Enc.v (i209 : Int))] ∧ Nd [(b200, RL (α := Int) 3 l201), (b198, RV 65 [Enc.v (c199 : (List Int)), OL (α := Int) b200 l201]), (b203, RL (α := Int) 3 l204), (b205, RL (α := Int) 3 l206), (b207, RL (α := Int) 3 l208), (b202, RV 67 [OL (α := Int) b203 l204, OL (α := Int) b205 l206, OL (α := Int) b207 l208])] ∧ HSub [(b200, RL (α := Int) 3 l201), (b198, RV 65 [Enc.v (c199 : (List Int)), OL (α := Int) b200 l201]), (b203, RL (α := Int) 3 l204), (b205, RL (α := Int) 3 l206), (b207, RL (α := Int) 3 l208), (b202, RV 67 [OL (α := Int) b203 l204, OL (α := Int) b205 l206, OL (α := Int) b207 l208])] h) hO197 ⟨b127, b126, b185, b186, b187, b184, rfl, (Nd.pick nd (is := [5, 4, 1, 2, 3, 0]) (by decide)), (HSub.pick nd (is := [5, 4, 1, 2, 3, 0]) (by decide))⟩ ?_
            rintro ⟨c199, l201, l204, l206, l208, i209⟩ env h x197x ⟨b200, b198, b203, b205, b207, b202, rfl, nd, hs⟩ hX hR197
            refine TK.subH hs ?_
            unfold X.cartridgelaw22_ShelfPlays_s197 at hX
            try dsimp only at hX
            refine TK.seq_k fun K211 hK211 => ?_
            refine TK.seq_k fun K212 hK212 => ?_
            refine TK.reg ?_
            refine TL.p (C := cx) (gc := true) (p_mv rfl) rfl rfl ?_
            refine TL.p (C := cx) (gc := true) (p_mv rfl) rfl rfl ?_
            refine TL.p (C := cx) (gc := true) (p_lenL (xs := l3) kd47 rfl) rfl rfl ?_
            refine TL.p (C := cx) (gc := true) (p_lss rfl rfl) rfl rfl ?_
            refine TL.nil ?_
            refine hK212 _ _ ?_
            refine TK.cond (b := (decide (i209 < (l3.length : Int)))) rfl (fun hc => ?_) (fun hc => ?_)
            · have hX := ite_t hc hX
              refine TK.skip ?_
              refine hK211 _ _ ?_
              refine TK.seq_k fun K213 hK213 => ?_
              refine TK.block ?_
              refine TK.seq_k fun K214 hK214 => ?_
              refine TK.reg ?_
              refine TL.p (C := cx) (gc := true) (p_mv rfl) rfl rfl ?_
              refine TL.p (C := cx) (gc := true) (p_mv rfl) rfl rfl ?_
              obtain ⟨e215, he215, hX⟩ := bind_some hX
              refine TL.p (C := cx) (gc := true) (p_iaL (xs := l3) kd47 ty55 rfl rfl rfl (fun _ => he215)) rfl rfl ?_
              refine TL.p (C := cx) (gc := true) (p_ldE (xs := l3) (a := e215) (e215 : Act_law22) ty55 rfl rfl (fun _ => he215) rfl rfl rfl) rfl rfl ?_
              refine TL.alO (C := cx) (l := [Enc.v ((0 : Int) : Int), Enc.v ((0 : Int) : Int), Enc.v ((0 : Int) : Int)]) nd ty55 ti55_z rfl rfl fun b216 nd => ?_
              refine TL.stV (C := cx) (lu := Enc.cl (e215 : Act_law22)) nd ty55 rfl (j := 0) rfl rfl rfl (Cells_v (e215 : Act_law22)) rfl rfl [Enc.v (e215.Way : Int), Enc.v (e215.Label : Int), Enc.v (e215.Drive : Int)] rfl fun nd => ?_
              refine TL.nil ?_
              refine hK214 _ _ ?_
              refine TK.seq_k fun K217 hK217 => ?_
              have J217 : ∀ (c219 : (List Int)) (l221 : List Int) (l224 : List Int) (l226 : List Int) (l228 : List Int) (env : Env) (h : Hp), (∃ b220 b218 b223 b225 b227 b222 b229, keepE [2, 8, 10, 12, 13] env = [(2, true, Enc.v (l3 : (List Act_law22))), (8, true, .ref b218 0 2), (10, true, .ref b222 0 3), (12, true, Enc.v (i209 : Int)), (13, true, .ref b229 0 3)] ∧ Nd [(b220, RL (α := Int) 3 l221), (b218, RV 65 [Enc.v (c219 : (List Int)), OL (α := Int) b220 l221]), (b223, RL (α := Int) 3 l224), (b225, RL (α := Int) 3 l226), (b227, RL (α := Int) 3 l228), (b222, RV 67 [OL (α := Int) b223 l224, OL (α := Int) b225 l226, OL (α := Int) b227 l228]), (b229, RV 55 [Enc.v (e215.Way : Int), Enc.v (e215.Label : Int), Enc.v (e215.Drive : Int)])] ∧ HSub [(b220, RL (α := Int) 3 l221), (b218, RV 65 [Enc.v (c219 : (List Int)), OL (α := Int) b220 l221]), (b223, RL (α := Int) 3 l224), (b225, RL (α := Int) 3 l226), (b227, RL (α := Int) 3 l228), (b222, RV 67 [OL (α := Int) b223 l224, OL (α := Int) b225 l226, OL (α := Int) b227 l228]), (b229, RV 55 [Enc.v (e215.Way : Int), Enc.v (e215.Label : Int), Enc.v (e215.Drive : Int)])] h) → X.cartridgelaw22_ShelfPlays_j217 e215 i209 c219 l221 l224 l226 l228 = some x197x → K217 env h := by
                intro c219 l221 l224 l226 l228 env h hE hX
                obtain ⟨b220, b218, b223, b225, b227, b222, b229, henv, nd, hs⟩ := hE
                unfold X.cartridgelaw22_ShelfPlays_j217 at hX
                refine hK217 _ _ (TK.keep [2, 8, 10, 12, 13] ?_)
                rw [henv]
                refine TK.subH hs ?_
                refine TK.seq_k fun K230 hK230 => ?_
                have ndS : Nd [(b220, RL (α := Int) 3 l221), (b218, RV 65 [Enc.v (c219 : (List Int)), OL (α := Int) b220 l221]), (b223, RL (α := Int) 3 l224), (b225, RL (α := Int) 3 l226), (b227, RL (α := Int) 3 l228), (b222, RV 67 [OL (α := Int) b223 l224, OL (α := Int) b225 l226, OL (α := Int) b227 l228]), (b229, RV 55 [Enc.v (e215.Way : Int), Enc.v (e215.Label : Int), Enc.v (e215.Drive : Int)])] := Nd.pick nd (is := [0, 1, 2, 3, 4, 5, 6]) (by decide)
                refine TK.drwX (h := []) (hS := [(b220, RL (α := Int) 3 l221), (b218, RV 65 [Enc.v (c219 : (List Int)), OL (α := Int) b220 l221]), (b223, RL (α := Int) 3 l224), (b225, RL (α := Int) 3 l226), (b227, RL (α := Int) 3 l228), (b222, RV 67 [OL (α := Int) b223 l224, OL (α := Int) b225 l226, OL (α := Int) b227 l228]), (b229, RV 55 [Enc.v (e215.Way : Int), Enc.v (e215.Label : Int), Enc.v (e215.Drive : Int)])]) [(0, 0), (0, 1), (0, 2), (0, 3), (0, 4), (0, 5), (0, 6), (0, 7), (0, 8), (0, 9), (0, 10), (0, 11), (0, 12), (0, 13), (0, 14), (0, 15), (0, 16), (0, 17), (0, 18), (0, 19), (0, 20), (0, 21), (0, 22), (0, 23), (0, 24), (0, 25), (0, 26), (0, 27), (0, 28), (0, 29), (0, 30)] mixed (by kernel_rfl) (HSub_app nd) ?_
                refine DR0 (gc := true) rfl (vok_p (C := cx) (p_mv rfl)) rfl rfl ?_
                refine DR0 (gc := true) rfl (vok_p (C := cx) (p_faV fs55_1 (by decide) rfl ndS (j := 6) rfl rfl)) rfl rfl ?_
                refine DR0 (gc := true) rfl (vok_p (C := cx) (p_ldV (v := Enc.v (e215.Label : Int)) ty3 rfl rfl ndS (j := 6) rfl rfl rfl rfl rfl)) rfl rfl ?_
                obtain ⟨r231, hr231, hX⟩ := bind_some hX
                refine DR0 (gc := true) rfl (vok_lookX [.vref (ofL [Enc.v (c219 : (List Int)), Enc.v (l221 : (List Int))]) 2 0, Enc.v (e215.Label : Int)] rfl (fun _ => ⟨rfl, ⟨rfl, ⟨rfl, trivial⟩⟩⟩) ⟨look_ref (l := [Enc.v (c219 : (List Int)), OL (α := Int) b220 l221]) ndS (j := 1) rfl ⟨look_v (v := Enc.v (c219 : (List Int))) (v_val _), look_OL ndS (j := 0) rfl, trivial⟩, look_v (v := Enc.v (e215.Label : Int)) (v_val _), trivial⟩ (fun e => ok_shelf_Shelf_Slot c219 l221 e215.Label _ hr231) (trivial)) rfl rfl ?_
                refine DR0 (gc := true) rfl (vok_p (C := cx) (p_mv rfl)) rfl rfl ?_
                refine DR0 (gc := true) rfl (vok_p (C := cx) (p_faV fs55_1 (by decide) rfl ndS (j := 6) rfl rfl)) rfl rfl ?_
                refine DR0 (gc := true) rfl (vok_p (C := cx) (p_ldV (v := Enc.v (e215.Label : Int)) ty3 rfl rfl ndS (j := 6) rfl rfl rfl rfl rfl)) rfl rfl ?_
                obtain ⟨r232, hr232, hX⟩ := bind_some hX
                refine DR0 (gc := true) rfl (vok_lookX [.vref (ofL [Enc.v (l224 : (List Int)), Enc.v (l226 : (List Int)), Enc.v (l228 : (List Int))]) 3 0, Enc.v (e215.Label : Int)] rfl (fun _ => ⟨rfl, ⟨rfl, ⟨rfl, trivial⟩⟩⟩) ⟨look_ref (l := [OL (α := Int) b223 l224, OL (α := Int) b225 l226, OL (α := Int) b227 l228]) ndS (j := 5) rfl ⟨look_OL ndS (j := 2) rfl, look_OL ndS (j := 3) rfl, look_OL ndS (j := 4) rfl, trivial⟩, look_v (v := Enc.v (e215.Label : Int)) (v_val _), trivial⟩ (fun e => ok_cartridgeref22_Shelf_Slot l224 l226 l228 e215.Label _ hr232) (trivial)) rfl rfl ?_
                refine DR0 (gc := true) rfl (vok_p (C := cx) (p_neq rfl rfl)) rfl rfl ?_
                refine DR0 (gc := true) rfl (vok_p (C := cx) (p_mv rfl)) rfl rfl ?_
                refine DR0 (gc := (!((r231 != r232)))) rfl (vok_p (C := cx) (p_mv rfl (hg := fun e => rfl))) (gcF1 rfl) rfl ?_
                refine DR0 (gc := (!((r231 != r232)))) rfl (vok_p (C := cx) (p_faV fs55_1 (by decide) rfl ndS (j := 6) rfl rfl (hg := fun e => rfl))) (gcF1 rfl) rfl ?_
                refine DR0 (gc := (!((r231 != r232)))) rfl (vok_p (C := cx) (p_ldV (v := Enc.v (e215.Label : Int)) ty3 rfl rfl ndS (j := 6) rfl rfl rfl rfl rfl (hg := fun e => e))) (gcF1 rfl) rfl ?_
                obtain ⟨r233, hr233, hX⟩ := bind_some hX
                refine DR0 (gc := (!((r231 != r232)))) rfl (vok_lookX [.vref (ofL [Enc.v (c219 : (List Int)), Enc.v (l221 : (List Int))]) 2 0, Enc.v (e215.Label : Int)] rfl (fun e => ⟨rfl, ⟨e, ⟨e, trivial⟩⟩⟩) ⟨look_ref (l := [Enc.v (c219 : (List Int)), OL (α := Int) b220 l221]) ndS (j := 1) rfl ⟨look_v (v := Enc.v (c219 : (List Int))) (v_val _), look_OL ndS (j := 0) rfl, trivial⟩, look_v (v := Enc.v (e215.Label : Int)) (v_val _), trivial⟩ (fun e => ok_shelf_Shelf_Drive c219 l221 e215.Label _ (optG_t hr233 e)) (trivial)) (gcF1 rfl) rfl ?_
                refine DR0 (gc := (!((r231 != r232)))) rfl (vok_p (C := cx) (p_mv rfl (hg := fun e => rfl))) (gcF1 rfl) rfl ?_
                refine DR0 (gc := (!((r231 != r232)))) rfl (vok_p (C := cx) (p_faV fs55_1 (by decide) rfl ndS (j := 6) rfl rfl (hg := fun e => rfl))) (gcF1 rfl) rfl ?_
                refine DR0 (gc := (!((r231 != r232)))) rfl (vok_p (C := cx) (p_ldV (v := Enc.v (e215.Label : Int)) ty3 rfl rfl ndS (j := 6) rfl rfl rfl rfl rfl (hg := fun e => e))) (gcF1 rfl) rfl ?_
                obtain ⟨r234, hr234, hX⟩ := bind_some hX
                refine DR0 (gc := (!((r231 != r232)))) rfl (vok_lookX [.vref (ofL [Enc.v (l224 : (List Int)), Enc.v (l226 : (List Int)), Enc.v (l228 : (List Int))]) 3 0, Enc.v (e215.Label : Int)] rfl (fun e => ⟨rfl, ⟨e, ⟨e, trivial⟩⟩⟩) ⟨look_ref (l := [OL (α := Int) b223 l224, OL (α := Int) b225 l226, OL (α := Int) b227 l228]) ndS (j := 5) rfl ⟨look_OL ndS (j := 2) rfl, look_OL ndS (j := 3) rfl, look_OL ndS (j := 4) rfl, trivial⟩, look_v (v := Enc.v (e215.Label : Int)) (v_val _), trivial⟩ (fun e => ok_cartridgeref22_Shelf_Drive l224 l226 l228 e215.Label _ (optG_t hr234 e)) (trivial)) (gcF1 rfl) rfl ?_
                refine DR0 (gc := (!((r231 != r232)))) rfl (vok_p (C := cx) (p_neq rfl rfl (hg := fun e => ⟨e, e⟩))) (gcF1 rfl) rfl ?_
                refine DR0 (gc := true) rfl (vok_p (C := cx) (p_or rfl rfl (fun e => ⟨rfl, fun h => (not_t h)⟩))) rfl rfl ?_
                refine DR0 (gc := true) rfl (vok_p (C := cx) (p_mv rfl)) rfl rfl ?_
                refine DR0 (gc := (!(((r231 != r232) || (r233 != r234))))) rfl (vok_p (C := cx) (p_mv rfl (hg := fun e => rfl))) (gcF1 rfl) rfl ?_
                refine DR0 (gc := (!(((r231 != r232) || (r233 != r234))))) rfl (vok_p (C := cx) (p_faV fs55_2 (by decide) rfl ndS (j := 6) rfl rfl (hg := fun e => rfl))) (gcF1 rfl) rfl ?_
                refine DR0 (gc := (!(((r231 != r232) || (r233 != r234))))) rfl (vok_p (C := cx) (p_ldV (v := Enc.v (e215.Drive : Int)) ty3 rfl rfl ndS (j := 6) rfl rfl rfl rfl rfl (hg := fun e => e))) (gcF1 rfl) rfl ?_
                obtain ⟨r235, hr235, hX⟩ := bind_some hX
                refine DR0 (gc := (!(((r231 != r232) || (r233 != r234))))) rfl (vok_lookX [.vref (ofL [Enc.v (c219 : (List Int)), Enc.v (l221 : (List Int))]) 2 0, Enc.v (e215.Drive : Int)] rfl (fun e => ⟨rfl, ⟨e, ⟨e, trivial⟩⟩⟩) ⟨look_ref (l := [Enc.v (c219 : (List Int)), OL (α := Int) b220 l221]) ndS (j := 1) rfl ⟨look_v (v := Enc.v (c219 : (List Int))) (v_val _), look_OL ndS (j := 0) rfl, trivial⟩, look_v (v := Enc.v (e215.Drive : Int)) (v_val _), trivial⟩ (fun e => ok_shelf_Shelf_Mounted c219 l221 e215.Drive _ (optG_t hr235 e)) (trivial)) (gcF1 rfl) rfl ?_
                refine DR0 (gc := (!(((r231 != r232) || (r233 != r234))))) rfl (vok_p (C := cx) (p_mv rfl (hg := fun e => rfl))) (gcF1 rfl) rfl ?_
                refine DR0 (gc := (!(((r231 != r232) || (r233 != r234))))) rfl (vok_p (C := cx) (p_faV fs55_2 (by decide) rfl ndS (j := 6) rfl rfl (hg := fun e => rfl))) (gcF1 rfl) rfl ?_
                refine DR0 (gc := (!(((r231 != r232) || (r233 != r234))))) rfl (vok_p (C := cx) (p_ldV (v := Enc.v (e215.Drive : Int)) ty3 rfl rfl ndS (j := 6) rfl rfl rfl rfl rfl (hg := fun e => e))) (gcF1 rfl) rfl ?_
                obtain ⟨r236, hr236, hX⟩ := bind_some hX
                refine DR0 (gc := (!(((r231 != r232) || (r233 != r234))))) rfl (vok_lookX [.vref (ofL [Enc.v (l224 : (List Int)), Enc.v (l226 : (List Int)), Enc.v (l228 : (List Int))]) 3 0, Enc.v (e215.Drive : Int)] rfl (fun e => ⟨rfl, ⟨e, ⟨e, trivial⟩⟩⟩) ⟨look_ref (l := [OL (α := Int) b223 l224, OL (α := Int) b225 l226, OL (α := Int) b227 l228]) ndS (j := 5) rfl ⟨look_OL ndS (j := 2) rfl, look_OL ndS (j := 3) rfl, look_OL ndS (j := 4) rfl, trivial⟩, look_v (v := Enc.v (e215.Drive : Int)) (v_val _), trivial⟩ (fun e => ok_cartridgeref22_Shelf_Mounted l224 l226 l228 e215.Drive _ (optG_t hr236 e)) (trivial)) (gcF1 rfl) rfl ?_
                refine DR0 (gc := (!(((r231 != r232) || (r233 != r234))))) rfl (vok_p (C := cx) (p_neq rfl rfl (hg := fun e => ⟨e, e⟩))) (gcF1 rfl) rfl ?_
                refine DR0 (gc := true) rfl (vok_p (C := cx) (p_or rfl rfl (fun e => ⟨rfl, fun h => (not_t h)⟩))) rfl rfl ?_
                refine DRend ?_
                refine hK230 _ _ ?_
                refine TK.cond (b := (((r231 != r232) || (r233 != r234)) || (r235 != r236))) rfl (fun hc => ?_) (fun hc => ?_)
                · have hX := ite_t hc hX
                  refine TK.seq_k fun K237 hK237 => ?_
                  refine TK.reg ?_
                  refine TL.p (C := cx) (gc := true) (p_mv rfl) rfl rfl ?_
                  refine TL.nil ?_
                  refine hK237 _ _ ?_
                  refine TK.ret ?_
                  obtain rfl := hR197 _ (some_in hX).symm
                  replace hX := hA197
                  try dsimp only [thenQ]
                  exact ret1 (v := Enc.v (false : Bool)) rfl (by obtain rfl := some_in hX; rfl) (v_val _)
                · have hX := ite_f hc hX
                  refine TK.skip ?_
                  refine hK213 _ _ ?_
                  refine TK.reg ?_
                  refine TL.p (C := cx) (gc := true) (p_mv rfl) rfl rfl ?_
                  refine TL.p (C := cx) (gc := true) (p_add rfl rfl) rfl rfl ?_
                  refine TL.p (C := cx) (gc := true) (p_mv rfl) rfl rfl ?_
                  refine TL.nil ?_
                  exact ⟨_, (some_in hX).symm, b220, b218, b223, b225, b227, b222, rfl, (Nd.pick nd (is := [0, 1, 2, 3, 4, 5]) (by decide)), (HSub.pick nd (is := [0, 1, 2, 3, 4, 5]) (by decide))⟩
              refine TK.seq_k fun K238 hK238 => ?_
              refine TK.reg ?_
              refine TL.p (C := cx) (gc := true) (p_faV fs55_0 (by decide) rfl nd (j := 0) rfl rfl) rfl rfl ?_
              refine TL.p (C := cx) (gc := true) (p_ldV (v := Enc.v (e215.Way : Int)) ty3 rfl rfl nd (j := 0) rfl rfl rfl rfl rfl) rfl rfl ?_
              refine TL.nil ?_
              refine hK238 _ _ ?_
              refine TK.block ?_
              refine TK.seq_k fun K239 hK239 => ?_
              refine TK.reg ?_
              refine TL.p (C := cx) (gc := true) (p_eql rfl rfl) rfl rfl ?_
              refine TL.p (C := cx) (gc := true) (p_mv rfl) rfl rfl ?_
              refine TL.nil ?_
              refine hK239 _ _ ?_
              refine TK.cond (b := (e215.Way == (0 : Int))) rfl (fun hc => ?_) (fun hc => ?_)
              · have hX := ite_t hc hX
                refine TK.seq_k fun K240 hK240 => ?_
                refine TK.pick [1, 2, 3, 4, 5, 6, 0] nd (by decide) fun nd => ?_
                have ndS : Nd [(b216, RV 55 [Enc.v (e215.Way : Int), Enc.v (e215.Label : Int), Enc.v (e215.Drive : Int)])] := Nd.pick nd (is := [6]) (by decide)
                refine TK.drwX (h := [(b200, RL (α := Int) 3 l201), (b198, RV 65 [Enc.v (c199 : (List Int)), OL (α := Int) b200 l201]), (b203, RL (α := Int) 3 l204), (b205, RL (α := Int) 3 l206), (b207, RL (α := Int) 3 l208), (b202, RV 67 [OL (α := Int) b203 l204, OL (α := Int) b205 l206, OL (α := Int) b207 l208])]) (hS := [(b216, RV 55 [Enc.v (e215.Way : Int), Enc.v (e215.Label : Int), Enc.v (e215.Drive : Int)])]) [(0, 0), (0, 1), (0, 2), (0, 3), (0, 4), (0, 7), (0, 8), (0, 9), (0, 10), (0, 11), (2, 5), (0, 6), (2, 12), (0, 13)] mixed (by kernel_rfl) (HSub_app nd) ?_
                refine DR0 (gc := true) rfl (vok_p (C := cx) (p_mv rfl)) rfl rfl ?_
                refine DR0 (gc := true) rfl (vok_p (C := cx) (p_faV fs55_1 (by decide) rfl ndS (j := 0) rfl rfl)) rfl rfl ?_
                refine DR0 (gc := true) rfl (vok_p (C := cx) (p_ldV (v := Enc.v (e215.Label : Int)) ty3 rfl rfl ndS (j := 0) rfl rfl rfl rfl rfl)) rfl rfl ?_
                refine DR0 (gc := true) rfl (vok_p (C := cx) (p_faV fs55_2 (by decide) rfl ndS (j := 0) rfl rfl)) rfl rfl ?_
                refine DR0 (gc := true) rfl (vok_p (C := cx) (p_ldV (v := Enc.v (e215.Drive : Int)) ty3 rfl rfl ndS (j := 0) rfl rfl rfl rfl rfl)) rfl rfl ?_
                refine DR0 (gc := true) rfl (vok_p (C := cx) (p_mv rfl)) rfl rfl ?_
                refine DR0 (gc := true) rfl (vok_p (C := cx) (p_faV fs55_1 (by decide) rfl ndS (j := 0) rfl rfl)) rfl rfl ?_
                refine DR0 (gc := true) rfl (vok_p (C := cx) (p_ldV (v := Enc.v (e215.Label : Int)) ty3 rfl rfl ndS (j := 0) rfl rfl rfl rfl rfl)) rfl rfl ?_
                refine DR0 (gc := true) rfl (vok_p (C := cx) (p_faV fs55_2 (by decide) rfl ndS (j := 0) rfl rfl)) rfl rfl ?_
                refine DR0 (gc := true) rfl (vok_p (C := cx) (p_ldV (v := Enc.v (e215.Drive : Int)) ty3 rfl rfl ndS (j := 0) rfl rfl rfl rfl rfl)) rfl rfl ?_
                obtain ⟨r241, hr241, hX⟩ := bind_some hX
                refine DR2 rfl rfl ?_
                refine TL.pick [1, 0, 2, 3, 4, 5, 6] nd (by decide) fun nd => ?_
                refine TL.tcX [(b198, RV 65 [Enc.v (c199 : (List Int)), OL (α := Int) b200 l201]), (b200, RL (α := Int) 3 l201)] [(b203, RL (α := Int) 3 l204), (b205, RL (α := Int) 3 l206), (b207, RL (α := Int) 3 l208), (b202, RV 67 [OL (α := Int) b203 l204, OL (α := Int) b205 l206, OL (α := Int) b207 l208]), (b216, RV 55 [Enc.v (e215.Way : Int), Enc.v (e215.Label : Int), Enc.v (e215.Drive : Int)])] rfl nd (dlt rfl) rfl ⟨rfl, ⟨rfl, ⟨rfl, ⟨rfl, trivial⟩⟩⟩⟩ (ok_shelf_Shelf_Move e215.Label e215.Drive c199 l201 b198 b200 (Nd.take nd 2 rfl) _ hr241) ?_
                rintro _ _ hQ nd
                obtain ⟨b243, rfl, rfl⟩ := hQ
                refine TL.nil ⟨_, [(b198, RV 65 [Enc.v (r241.2.1 : (List Int)), OL (α := Int) b243 r241.2.2]), (b243, RL (α := Int) 3 r241.2.2), (b203, RL (α := Int) 3 l204), (b205, RL (α := Int) 3 l206), (b207, RL (α := Int) 3 l208), (b202, RV 67 [OL (α := Int) b203 l204, OL (α := Int) b205 l206, OL (α := Int) b207 l208])], rfl, rfl, HSub_app nd, ?_⟩
                obtain ⟨r244, hr244, hX⟩ := bind_some hX
                refine DR0 (gc := true) rfl (vok_c rfl (fun _ => ⟨rfl, ⟨rfl, trivial⟩⟩) (fun e => ok_cartridgelaw22_num r241.1 _ hr244)) rfl rfl ?_
                obtain ⟨r245, hr245, hX⟩ := bind_some hX
                refine DR2 rfl rfl ?_
                refine TL.pick [5, 2, 3, 4, 0, 1, 6] nd (by decide) fun nd => ?_
                refine TL.tcX [(b202, RV 67 [OL (α := Int) b203 l204, OL (α := Int) b205 l206, OL (α := Int) b207 l208]), (b203, RL (α := Int) 3 l204), (b205, RL (α := Int) 3 l206), (b207, RL (α := Int) 3 l208)] [(b198, RV 65 [Enc.v (r241.2.1 : (List Int)), OL (α := Int) b243 r241.2.2]), (b243, RL (α := Int) 3 r241.2.2), (b216, RV 55 [Enc.v (e215.Way : Int), Enc.v (e215.Label : Int), Enc.v (e215.Drive : Int)])] rfl nd (dlt rfl) rfl ⟨rfl, ⟨rfl, ⟨rfl, ⟨rfl, trivial⟩⟩⟩⟩ (ok_cartridgeref22_Shelf_Move e215.Label e215.Drive l204 l206 l208 b202 b203 b205 b207 (Nd.take nd 4 rfl) _ hr245) ?_
                rintro _ _ hQ nd
                obtain ⟨b247, b248, b249, rfl, rfl⟩ := hQ
                refine TL.nil ⟨_, [(b202, RV 67 [OL (α := Int) b247 r245.2.1, OL (α := Int) b248 r245.2.2.1, OL (α := Int) b249 r245.2.2.2]), (b247, RL (α := Int) 3 r245.2.1), (b248, RL (α := Int) 3 r245.2.2.1), (b249, RL (α := Int) 3 r245.2.2.2), (b198, RV 65 [Enc.v (r241.2.1 : (List Int)), OL (α := Int) b243 r241.2.2]), (b243, RL (α := Int) 3 r241.2.2)], rfl, rfl, HSub_app nd, ?_⟩
                refine DR0 (gc := true) rfl (vok_p (C := cx) (p_neq rfl rfl)) rfl rfl ?_
                refine DRend ?_
                refine hK240 _ _ ?_
                refine TK.cond (b := (r244 != r245.1)) rfl (fun hc => ?_) (fun hc => ?_)
                · have hX := ite_t hc hX
                  refine TK.seq_k fun K250 hK250 => ?_
                  refine TK.reg ?_
                  refine TL.p (C := cx) (gc := true) (p_mv rfl) rfl rfl ?_
                  refine TL.nil ?_
                  refine hK250 _ _ ?_
                  refine TK.ret ?_
                  obtain rfl := hR197 _ (some_in hX).symm
                  replace hX := hA197
                  try dsimp only [thenQ]
                  exact ret1 (v := Enc.v (false : Bool)) rfl (by obtain rfl := some_in hX; rfl) (v_val _)
                · have hX := ite_f hc hX
                  refine TK.skip ?_
                  exact J217 r241.2.1 r241.2.2 r245.2.1 r245.2.2.1 r245.2.2.2 _ _ ⟨b243, b198, b247, b248, b249, b202, b216, rfl, (Nd.pick nd (is := [5, 4, 1, 2, 3, 0, 6]) (by decide)), (HSub.pick nd (is := [5, 4, 1, 2, 3, 0, 6]) (by decide))⟩ hX
              · have hX := ite_f hc hX
                refine TK.seq_k fun K251 hK251 => ?_
                refine TK.reg ?_
                refine TL.p (C := cx) (gc := true) (p_eql rfl rfl) rfl rfl ?_
                refine TL.p (C := cx) (gc := true) (p_mv rfl) rfl rfl ?_
                refine TL.nil ?_
                refine hK251 _ _ ?_
                refine TK.cond (b := (e215.Way == (1 : Int))) rfl (fun hc => ?_) (fun hc => ?_)
                · have hX := ite_t hc hX
                  refine TK.seq_k fun K252 hK252 => ?_
                  refine TK.pick [1, 2, 3, 4, 5, 6, 0] nd (by decide) fun nd => ?_
                  have ndS : Nd [(b216, RV 55 [Enc.v (e215.Way : Int), Enc.v (e215.Label : Int), Enc.v (e215.Drive : Int)])] := Nd.pick nd (is := [6]) (by decide)
                  refine TK.drwX (h := [(b200, RL (α := Int) 3 l201), (b198, RV 65 [Enc.v (c199 : (List Int)), OL (α := Int) b200 l201]), (b203, RL (α := Int) 3 l204), (b205, RL (α := Int) 3 l206), (b207, RL (α := Int) 3 l208), (b202, RV 67 [OL (α := Int) b203 l204, OL (α := Int) b205 l206, OL (α := Int) b207 l208])]) (hS := [(b216, RV 55 [Enc.v (e215.Way : Int), Enc.v (e215.Label : Int), Enc.v (e215.Drive : Int)])]) [(0, 0), (0, 1), (0, 2), (0, 5), (0, 6), (0, 7), (2, 3), (0, 4), (2, 8), (0, 9)] mixed (by kernel_rfl) (HSub_app nd) ?_
                  refine DR0 (gc := true) rfl (vok_p (C := cx) (p_mv rfl)) rfl rfl ?_
                  refine DR0 (gc := true) rfl (vok_p (C := cx) (p_faV fs55_2 (by decide) rfl ndS (j := 0) rfl rfl)) rfl rfl ?_
                  refine DR0 (gc := true) rfl (vok_p (C := cx) (p_ldV (v := Enc.v (e215.Drive : Int)) ty3 rfl rfl ndS (j := 0) rfl rfl rfl rfl rfl)) rfl rfl ?_
                  refine DR0 (gc := true) rfl (vok_p (C := cx) (p_mv rfl)) rfl rfl ?_
                  refine DR0 (gc := true) rfl (vok_p (C := cx) (p_faV fs55_2 (by decide) rfl ndS (j := 0) rfl rfl)) rfl rfl ?_
                  refine DR0 (gc := true) rfl (vok_p (C := cx) (p_ldV (v := Enc.v (e215.Drive : Int)) ty3 rfl rfl ndS (j := 0) rfl rfl rfl rfl rfl)) rfl rfl ?_
                  obtain ⟨r253, hr253, hX⟩ := bind_some hX
                  refine DR2 rfl rfl ?_
                  refine TL.pick [1, 0, 2, 3, 4, 5, 6] nd (by decide) fun nd => ?_
                  refine TL.tcX [(b198, RV 65 [Enc.v (c199 : (List Int)), OL (α := Int) b200 l201]), (b200, RL (α := Int) 3 l201)] [(b203, RL (α := Int) 3 l204), (b205, RL (α := Int) 3 l206), (b207, RL (α := Int) 3 l208), (b202, RV 67 [OL (α := Int) b203 l204, OL (α := Int) b205 l206, OL (α := Int) b207 l208]), (b216, RV 55 [Enc.v (e215.Way : Int), Enc.v (e215.Label : Int), Enc.v (e215.Drive : Int)])] rfl nd (dlt rfl) rfl ⟨rfl, ⟨rfl, ⟨rfl, trivial⟩⟩⟩ (ok_shelf_Shelf_Back e215.Drive c199 l201 b198 b200 (Nd.take nd 2 rfl) _ hr253) ?_
                  rintro _ _ hQ nd
                  obtain ⟨b255, rfl, rfl⟩ := hQ
                  refine TL.nil ⟨_, [(b198, RV 65 [Enc.v (r253.2.1 : (List Int)), OL (α := Int) b255 r253.2.2]), (b255, RL (α := Int) 3 r253.2.2), (b203, RL (α := Int) 3 l204), (b205, RL (α := Int) 3 l206), (b207, RL (α := Int) 3 l208), (b202, RV 67 [OL (α := Int) b203 l204, OL (α := Int) b205 l206, OL (α := Int) b207 l208])], rfl, rfl, HSub_app nd, ?_⟩
                  obtain ⟨r256, hr256, hX⟩ := bind_some hX
                  refine DR0 (gc := true) rfl (vok_c rfl (fun _ => ⟨rfl, ⟨rfl, trivial⟩⟩) (fun e => ok_cartridgelaw22_num r253.1 _ hr256)) rfl rfl ?_
                  obtain ⟨r257, hr257, hX⟩ := bind_some hX
                  refine DR2 rfl rfl ?_
                  refine TL.pick [5, 2, 3, 4, 0, 1, 6] nd (by decide) fun nd => ?_
                  refine TL.tcX [(b202, RV 67 [OL (α := Int) b203 l204, OL (α := Int) b205 l206, OL (α := Int) b207 l208]), (b203, RL (α := Int) 3 l204), (b205, RL (α := Int) 3 l206), (b207, RL (α := Int) 3 l208)] [(b198, RV 65 [Enc.v (r253.2.1 : (List Int)), OL (α := Int) b255 r253.2.2]), (b255, RL (α := Int) 3 r253.2.2), (b216, RV 55 [Enc.v (e215.Way : Int), Enc.v (e215.Label : Int), Enc.v (e215.Drive : Int)])] rfl nd (dlt rfl) rfl ⟨rfl, ⟨rfl, ⟨rfl, trivial⟩⟩⟩ (ok_cartridgeref22_Shelf_Back e215.Drive l204 l206 l208 b202 b203 b205 b207 (Nd.take nd 4 rfl) _ hr257) ?_
                  rintro _ _ hQ nd
                  obtain ⟨b259, b260, b261, rfl, rfl⟩ := hQ
                  refine TL.nil ⟨_, [(b202, RV 67 [OL (α := Int) b259 r257.2.1, OL (α := Int) b260 r257.2.2.1, OL (α := Int) b261 r257.2.2.2]), (b259, RL (α := Int) 3 r257.2.1), (b260, RL (α := Int) 3 r257.2.2.1), (b261, RL (α := Int) 3 r257.2.2.2), (b198, RV 65 [Enc.v (r253.2.1 : (List Int)), OL (α := Int) b255 r253.2.2]), (b255, RL (α := Int) 3 r253.2.2)], rfl, rfl, HSub_app nd, ?_⟩
                  refine DR0 (gc := true) rfl (vok_p (C := cx) (p_neq rfl rfl)) rfl rfl ?_
                  refine DRend ?_
                  refine hK252 _ _ ?_
                  refine TK.cond (b := (r256 != r257.1)) rfl (fun hc => ?_) (fun hc => ?_)
                  · have hX := ite_t hc hX
                    refine TK.seq_k fun K262 hK262 => ?_
                    refine TK.reg ?_
                    refine TL.p (C := cx) (gc := true) (p_mv rfl) rfl rfl ?_
                    refine TL.nil ?_
                    refine hK262 _ _ ?_
                    refine TK.ret ?_
                    obtain rfl := hR197 _ (some_in hX).symm
                    replace hX := hA197
                    try dsimp only [thenQ]
                    exact ret1 (v := Enc.v (false : Bool)) rfl (by obtain rfl := some_in hX; rfl) (v_val _)
                  · have hX := ite_f hc hX
                    refine TK.skip ?_
                    exact J217 r253.2.1 r253.2.2 r257.2.1 r257.2.2.1 r257.2.2.2 _ _ ⟨b255, b198, b259, b260, b261, b202, b216, rfl, (Nd.pick nd (is := [5, 4, 1, 2, 3, 0, 6]) (by decide)), (HSub.pick nd (is := [5, 4, 1, 2, 3, 0, 6]) (by decide))⟩ hX
                · have hX := ite_f hc hX
                  refine TK.skip ?_
                  exact J217 c199 l201 l204 l206 l208 _ _ ⟨b200, b198, b203, b205, b207, b202, b216, rfl, (Nd.pick nd (is := [1, 2, 3, 4, 5, 6, 0]) (by decide)), (HSub.pick nd (is := [1, 2, 3, 4, 5, 6, 0]) (by decide))⟩ hX
            · have hX := ite_f hc hX
              refine TK.exit ?_
              obtain rfl := hR197 _ (some_in hX).symm
              exact E197 _ _ ⟨(), rfl, (Nd.pick nd (is := []) (by decide)), (HSub.pick nd (is := []) (by decide))⟩ hA197

end Go.Proofs.Ytjkjoihlpnahdaa
