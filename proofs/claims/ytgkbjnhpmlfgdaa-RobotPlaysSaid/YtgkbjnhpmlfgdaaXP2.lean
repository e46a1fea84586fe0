import Derived.Test.YtgkbjnhpmlfgdaaXFn
import Derived.Test.YtgkbjnhpmlfgdaaXS
import Derived.Test.YtgkbjnhpmlfgdaaAmK0
import Derived.Test.YtgkbjnhpmlfgdaaXP1
/- That they do. -/
namespace Go.Proofs.Ytgkbjnhpmlfgdaa
open Go.AM Go.AX
set_option linter.unusedVariables false
set_option maxRecDepth 20000

/-- cartridge/cartridgelaw24.RobotPlays -/
theorem ok_cartridgelaw24_RobotPlays (labels1 : (List Int)) (drives2 : Int) (l3 : (List Act_law24)) (r : Bool) (hX : X.cartridgelaw24_RobotPlays labels1 drives2 l3 = some r) : Fun Try.prog 11 [Enc.v (labels1 : (List Int)), Enc.v (drives2 : Int), Enc.v (l3 : (List Act_law24))] (· = Enc.v (r : Bool)) := by
  refine Fun.of b11 (Nat.le_of_ble_eq_true rfl) (allVal.mem ⟨(by exact (v_val _)), (by exact (v_val _)), (by exact (v_val _)), trivial⟩) ?_
  unfold k11
  have nd : Nd [] := Nd_nil
  unfold X.cartridgelaw24_RobotPlays at hX
  refine TK.seq_k fun K4 hK4 => ?_
  refine TK.reg ?_
  refine TL.p (C := cx) (gc := true) (p_mv rfl) rfl rfl ?_
  refine TL.nil ?_
  refine hK4 _ _ ?_
  refine TK.seq_k fun K5 hK5 => ?_
  refine TK.reg ?_
  obtain ⟨r6, hr6, hX⟩ := bind_some hX
  refine TL.cvX rfl rfl rfl (fun _ => ⟨rfl, trivial⟩) (fun e => ok_cartridgelaw24_alive  _ hr6) ?_
  refine TL.p (C := cx) (gc := true) (p_mv rfl) rfl rfl ?_
  refine TL.nil ?_
  refine hK5 _ _ ?_
  refine TK.seq_k fun K7 hK7 => ?_
  refine TK.seq_k fun K8 hK8 => ?_
  refine TK.reg ?_
  refine TL.p (C := cx) (gc := true) (p_mv rfl) rfl rfl ?_
  refine TL.p (C := cx) (gc := true) (p_not rfl) rfl rfl ?_
  refine TL.p (C := cx) (gc := true) (p_mv rfl) rfl rfl ?_
  refine TL.p (C := cx) (gc := (!((!r6)))) (p_mv rfl (hg := fun e => rfl)) (gcF1 rfl) rfl ?_
  refine TL.p (C := cx) (gc := (!((!r6)))) (p_lenL (xs := labels1) kd46 rfl (hg := fun e => e)) (gcF1 rfl) rfl ?_
  refine TL.p (C := cx) (gc := (!((!r6)))) (p_gtr rfl rfl (hg := fun e => ⟨e, rfl⟩)) (gcF1 rfl) rfl ?_
  refine TL.p (C := cx) (gc := true) (p_or rfl rfl (fun e => ⟨rfl, fun h => (not_t h)⟩)) rfl rfl ?_
  refine TL.p (C := cx) (gc := true) (p_mv rfl) rfl rfl ?_
  refine TL.p (C := cx) (gc := (!(((!r6) || (decide ((labels1.length : Int) > (40 : Int))))))) (p_mv rfl (hg := fun e => rfl)) (gcF1 rfl) rfl ?_
  refine TL.p (C := cx) (gc := (!(((!r6) || (decide ((labels1.length : Int) > (40 : Int))))))) (p_lenL (xs := l3) kd71 rfl (hg := fun e => e)) (gcF1 rfl) rfl ?_
  refine TL.p (C := cx) (gc := (!(((!r6) || (decide ((labels1.length : Int) > (40 : Int))))))) (p_gtr rfl rfl (hg := fun e => ⟨e, rfl⟩)) (gcF1 rfl) rfl ?_
  refine TL.p (C := cx) (gc := true) (p_or rfl rfl (fun e => ⟨rfl, fun h => (not_t h)⟩)) rfl rfl ?_
  refine TL.nil ?_
  refine hK8 _ _ ?_
  refine TK.cond (b := (((!r6) || (decide ((labels1.length : Int) > (40 : Int)))) || (decide ((l3.length : Int) > (60 : Int))))) rfl (fun hc => ?_) (fun hc => ?_)
  · have hX := ite_t hc hX
    refine TK.seq_k fun K9 hK9 => ?_
    refine TK.reg ?_
    refine TL.p (C := cx) (gc := true) (p_mv rfl) rfl rfl ?_
    refine TL.p (C := cx) (gc := true) (p_mv rfl) rfl rfl ?_
    refine TL.nil ?_
    refine hK9 _ _ ?_
    refine TK.ret ?_
    try dsimp only [thenQ]
    exact ret1 (v := Enc.v (r6 : Bool)) rfl (by obtain rfl := some_in hX; rfl) (v_val _)
  · have hX := ite_f hc hX
    refine TK.skip ?_
    refine hK7 _ _ ?_
    refine TK.seq_k fun K10 hK10 => ?_
    refine TK.reg ?_
    refine TL.p (C := cx) (gc := true) (p_mv rfl) rfl rfl ?_
    obtain ⟨u11, hu11, hX⟩ := bind_some hX
    refine TL.appN (C := cx) nd kd46 bo46 ty3 rfl rfl (.inl rfl) rfl (Src_L _) (by decide) (need_t hu11) rfl fun b12 nd => ?_
    refine TL.p (C := cx) (gc := true) (p_mv rfl) rfl rfl ?_
    refine TL.lay [(35, L labels1)] nd (j := 0) rfl ⟨⟨_, rfl, fix_OL nd (j := 0) rfl, rfl⟩, trivial⟩ fun nd => ?_
    obtain ⟨r13, hr13, hX⟩ := bind_some hX
    refine TL.tcX [] [] rfl nd (dlt rfl) rfl ⟨rfl, ⟨rfl, ⟨rfl, trivial⟩⟩⟩ (ok_robot_New labels1 drives2 (Nd.take nd 0 rfl) _ hr13) ?_
    rintro _ _ hQ nd
    cases hqr13 : r13.1 with
    | none =>
      simp only [hqr13] at hQ hX
      obtain ⟨rfl, rfl⟩ := hQ
      refine TL.p (C := cx) (gc := true) (p_mv rfl) rfl rfl ?_
      refine TL.p (C := cx) (gc := true) (p_ex rfl rfl (by decide)) rfl rfl ?_
      refine TL.p (C := cx) (gc := true) (p_ex rfl rfl (by decide)) rfl rfl ?_
      refine TL.p (C := cx) (gc := true) (p_mv rfl) rfl rfl ?_
      refine TL.p (C := cx) (gc := true) (p_mv rfl) rfl rfl ?_
      refine TL.nil ?_
      refine hK10 _ _ ?_
      refine TK.seq_k fun K14 hK14 => ?_
      refine TK.reg ?_
      refine TL.p (C := cx) (gc := true) (p_mv rfl) rfl rfl ?_
      refine TL.p (C := cx) (gc := true) (p_mv rfl) rfl rfl ?_
      obtain ⟨r15, hr15, hX⟩ := bind_some hX
      refine TL.tcX [] [] rfl nd (dlt rfl) rfl ⟨rfl, ⟨rfl, ⟨rfl, trivial⟩⟩⟩ (ok_cartridgeref22_NewRobot labels1 drives2 (Nd.take nd 0 rfl) _ hr15) ?_
      rintro _ _ hQ nd
      cases hqr15 : r15.1 with
      | none =>
        simp only [hqr15] at hQ hX
        obtain ⟨rfl, rfl⟩ := hQ
        refine TL.p (C := cx) (gc := true) (p_mv rfl) rfl rfl ?_
        refine TL.p (C := cx) (gc := true) (p_ex rfl rfl (by decide)) rfl rfl ?_
        refine TL.p (C := cx) (gc := true) (p_ex rfl rfl (by decide)) rfl rfl ?_
        refine TL.p (C := cx) (gc := true) (p_mv rfl) rfl rfl ?_
        refine TL.p (C := cx) (gc := true) (p_mv rfl) rfl rfl ?_
        refine TL.nil ?_
        refine hK14 _ _ ?_
        refine TK.seq_k fun K16 hK16 => ?_
        refine TK.seq_k fun K17 hK17 => ?_
        refine TK.reg ?_
        refine TL.p (C := cx) (gc := true) (p_mv rfl) rfl rfl ?_
        obtain ⟨r18, hr18, hX⟩ := bind_some hX
        refine TL.cvX rfl rfl rfl (fun _ => ⟨rfl, ⟨rfl, trivial⟩⟩) (fun e => ok_cartridgelaw24_num r13.2 _ hr18) ?_
        refine TL.p (C := cx) (gc := true) (p_mv rfl) rfl rfl ?_
        refine TL.p (C := cx) (gc := true) (p_neq rfl rfl) rfl rfl ?_
        refine TL.p (C := cx) (gc := true) (p_mv rfl) rfl rfl ?_
        refine TL.p (C := cx) (gc := (!((r18 != r15.2)))) (p_mv rfl (hg := fun e => rfl)) (gcF1 rfl) rfl ?_
        refine TL.p (C := cx) (gc := (!((r18 != r15.2)))) (p_eqN kd64 rfl rfl (hg := fun e => ⟨e, rfl⟩)) (gcF1 rfl) rfl ?_
        refine TL.p (C := cx) (gc := (!((r18 != r15.2)))) (p_mv rfl (hg := fun e => rfl)) (gcF1 rfl) rfl ?_
        refine TL.p (C := cx) (gc := (!((r18 != r15.2)))) (p_neq rfl rfl (hg := fun e => ⟨e, rfl⟩)) (gcF1 rfl) rfl ?_
        refine TL.p (C := cx) (gc := (!((r18 != r15.2)))) (p_neB kd4 rfl rfl (hg := fun e => ⟨e, e⟩)) (gcF1 rfl) rfl ?_
        refine TL.p (C := cx) (gc := true) (p_or rfl rfl (fun e => ⟨rfl, fun h => (not_t h)⟩)) rfl rfl ?_
        refine TL.nil ?_
        refine hK17 _ _ ?_
        refine TK.cond (b := ((r18 != r15.2) || (true != (r15.2 != (0 : Int))))) rfl (fun hc => ?_) (fun hc => ?_)
        · have hX := ite_t hc hX
          refine TK.seq_k fun K19 hK19 => ?_
          refine TK.reg ?_
          refine TL.p (C := cx) (gc := true) (p_mv rfl) rfl rfl ?_
          refine TL.nil ?_
          refine hK19 _ _ ?_
          refine TK.ret ?_
          try dsimp only [thenQ]
          exact ret1 (v := Enc.v (false : Bool)) rfl (by obtain rfl := some_in hX; rfl) (v_val _)
        · have hX := ite_f hc hX
          refine TK.skip ?_
          refine hK16 _ _ ?_
          refine TK.seq_k fun K20 hK20 => ?_
          refine TK.seq_k fun K21 hK21 => ?_
          refine TK.reg ?_
          refine TL.p (C := cx) (gc := true) (p_mv rfl) rfl rfl ?_
          refine TL.p (C := cx) (gc := true) (p_neq rfl rfl) rfl rfl ?_
          refine TL.nil ?_
          refine hK21 _ _ ?_
          refine TK.cond (b := (r15.2 != (0 : Int))) rfl (fun hc => ?_) (fun hc => ?_)
          · have hX := ite_t hc hX
            refine TK.seq_k fun K22 hK22 => ?_
            refine TK.reg ?_
            refine TL.p (C := cx) (gc := true) (p_mv rfl) rfl rfl ?_
            refine TL.nil ?_
            refine hK22 _ _ ?_
            refine TK.ret ?_
            try dsimp only [thenQ]
            exact ret1 (v := Enc.v (true : Bool)) rfl (by obtain rfl := some_in hX; rfl) (v_val _)
          · have hX := ite_f hc hX
            refine TK.skip ?_
            refine hK20 _ _ ?_
            refine TK.seq_k fun K23 hK23 => ?_
            refine TK.seq_k fun K24 hK24 => ?_
            refine TK.reg ?_
            refine TL.p (C := cx) (gc := true) (p_mv rfl) rfl rfl ?_
            refine TL.nil ?_
            refine hK24 _ _ ?_
            refine TK.block ?_
            obtain ⟨o25, hO25, hA25⟩ := bind_some hX
            have E25 : ∀ (env : Env) (h : Hp), (∃ _u : Unit, keepE [] env = [] ∧ Nd [] ∧ HSub [] h) → X.cartridgelaw24_RobotPlays_e25 = some r → K23 env h := by
              intro  env h hE hX
              obtain ⟨_u, henv, nd, hs⟩ := hE
              unfold X.cartridgelaw24_RobotPlays_e25 at hX
              refine hK23 _ _ (TK.keep [] ?_)
              rw [henv]
              refine TK.subH hs ?_
              refine TK.seq_k fun K27 hK27 => ?_
              refine TK.reg ?_
              refine TL.p (C := cx) (gc := true) (p_mv rfl) rfl rfl ?_
              refine TL.nil ?_
              refine hK27 _ _ ?_
              refine TK.ret ?_
              try dsimp only [thenQ]
              exact ret1 (v := Enc.v (true : Bool)) rfl (by obtain rfl := some_in hX; rfl) (v_val _)
            refine TK.iter [1, 2, 8, 10, 12] (fun s env h => match s with | i26 => ∃ _u : Unit, env = [(1, true, Enc.v (drives2 : Int)), (2, true, Enc.v (l3 : (List Act_law24))), (8, true, .nilp), (10, true, .nilp), (12, true, Enc.v (i26 : Int))] ∧ Nd [] ∧ HSub [] h) hO25 ⟨(), rfl, Nd_nil, HSub.refl _⟩ ?_
            rintro i26 env h x25x ⟨_u, rfl, nd, hs⟩ hX hR25
            refine TK.subH hs ?_
            unfold X.cartridgelaw24_RobotPlays_s25 at hX
            try dsimp only at hX
            refine TK.seq_k fun K28 hK28 => ?_
            refine TK.seq_k fun K29 hK29 => ?_
            refine TK.reg ?_
            refine TL.p (C := cx) (gc := true) (p_mv rfl) rfl rfl ?_
            refine TL.p (C := cx) (gc := true) (p_mv rfl) rfl rfl ?_
            refine TL.p (C := cx) (gc := true) (p_lenL (xs := l3) kd71 rfl) rfl rfl ?_
            refine TL.p (C := cx) (gc := true) (p_lss rfl rfl) rfl rfl ?_
            refine TL.nil ?_
            refine hK29 _ _ ?_
            refine TK.cond (b := (decide (i26 < (l3.length : Int)))) rfl (fun hc => ?_) (fun hc => ?_)
            · have hX := ite_t hc hX
              refine TK.skip ?_
              refine hK28 _ _ ?_
              refine TK.seq_k fun K30 hK30 => ?_
              refine TK.block ?_
              refine TK.seq_k fun K31 hK31 => ?_
              refine TK.reg ?_
              refine TL.p (C := cx) (gc := true) (p_mv rfl) rfl rfl ?_
              refine TL.p (C := cx) (gc := true) (p_mv rfl) rfl rfl ?_
              obtain ⟨e32, he32, hX⟩ := bind_some hX
              refine TL.p (C := cx) (gc := true) (p_iaL (xs := l3) kd71 ty76 rfl rfl rfl (fun _ => he32)) rfl rfl ?_
              refine TL.p (C := cx) (gc := true) (p_ldE (xs := l3) (a := e32) (e32 : Act_law24) ty76 rfl rfl (fun _ => he32) rfl rfl rfl) rfl rfl ?_
              refine TL.alO (C := cx) (l := [Enc.v ((0 : Int) : Int), Enc.v ((0 : Int) : Int), Enc.v (false : Bool), .nils]) nd ty76 ti76_z rfl rfl fun b33 nd => ?_
              refine TL.stV (C := cx) (lu := Enc.cl (e32 : Act_law24)) nd ty76 rfl (j := 0) rfl rfl rfl (Cells_v (e32 : Act_law24)) rfl rfl [Enc.v (e32.Way : Int), Enc.v (e32.N : Int), Enc.v (e32.Fail : Bool), Enc.v (e32.Labels : (List Int))] rfl fun nd => ?_
              refine TL.nil ?_
              refine hK31 _ _ ?_
              refine TK.seq_k fun K34 hK34 => ?_
              refine TK.seq_k fun K35 hK35 => ?_
              refine TK.reg ?_
              refine TL.p (C := cx) (gc := true) (p_faV fs76_3 (by decide) rfl nd (j := 0) rfl rfl) rfl rfl ?_
              refine TL.p (C := cx) (gc := true) (p_ldV (v := Enc.v (e32.Labels : (List Int))) ty46 rfl rfl nd (j := 0) rfl rfl rfl rfl rfl) rfl rfl ?_
              refine TL.p (C := cx) (gc := true) (p_lenL (xs := e32.Labels) kd46 rfl) rfl rfl ?_
              refine TL.p (C := cx) (gc := true) (p_gtr rfl rfl) rfl rfl ?_
              refine TL.nil ?_
              refine hK35 _ _ ?_
              refine TK.cond (b := (decide ((e32.Labels.length : Int) > (40 : Int)))) rfl (fun hc => ?_) (fun hc => ?_)
              · have hX := ite_t hc hX
                refine TK.seq_k fun K36 hK36 => ?_
                refine TK.reg ?_
                refine TL.p (C := cx) (gc := true) (p_mv rfl) rfl rfl ?_
                refine TL.nil ?_
                refine hK36 _ _ ?_
                refine TK.ret ?_
                obtain rfl := hR25 _ (some_in hX).symm
                replace hX := hA25
                try dsimp only [thenQ]
                exact ret1 (v := Enc.v (true : Bool)) rfl (by obtain rfl := some_in hX; rfl) (v_val _)
              · have hX := ite_f hc hX
                refine TK.skip ?_
                refine hK34 _ _ ?_
                refine TK.seq_k fun K37 hK37 => ?_
                have J37 : ∀ (env : Env) (h : Hp), (∃ _u : Unit, keepE [1, 2, 8, 10, 12] env = [(1, true, Enc.v (drives2 : Int)), (2, true, Enc.v (l3 : (List Act_law24))), (8, true, .nilp), (10, true, .nilp), (12, true, Enc.v (i26 : Int))] ∧ Nd [] ∧ HSub [] h) → X.cartridgelaw24_RobotPlays_j37 drives2 i26 = some x25x → K37 env h := by
                  intro  env h hE hX
                  obtain ⟨_u, henv, nd, hs⟩ := hE
                  unfold X.cartridgelaw24_RobotPlays_j37 at hX
                  refine hK37 _ _ (TK.keep [1, 2, 8, 10, 12] ?_)
                  rw [henv]
                  refine TK.subH hs ?_
                  refine TK.seq_k fun K38 hK38 => ?_
                  refine TK.seq_k fun K39 hK39 => ?_
                  refine TK.reg ?_
                  refine TL.p (C := cx) (gc := true) (p_mv rfl) rfl rfl ?_
                  obtain ⟨r40, hr40, hX⟩ := bind_some hX
                  refine TL.cvX rfl rfl rfl (fun _ => ⟨rfl, ⟨rfl, trivial⟩⟩) (fun e => ok_robot_Robot_Waiting_nil  _ hr40) ?_
                  refine TL.p (C := cx) (gc := true) (p_mv rfl) rfl rfl ?_
                  obtain ⟨r41, hr41, hX⟩ := bind_some hX
                  refine TL.cvX rfl rfl rfl (fun _ => ⟨rfl, ⟨rfl, trivial⟩⟩) (fun e => ok_cartridgeref22_Robot_Waiting_nil  _ hr41) ?_
                  refine TL.p (C := cx) (gc := true) (p_neq rfl rfl) rfl rfl ?_
                  refine TL.nil ?_
                  refine hK39 _ _ ?_
                  refine TK.cond (b := (r40 != r41)) rfl (fun hc => ?_) (fun hc => ?_)
                  · have hX := ite_t hc hX
                    refine TK.seq_k fun K42 hK42 => ?_
                    refine TK.reg ?_
                    refine TL.p (C := cx) (gc := true) (p_mv rfl) rfl rfl ?_
                    refine TL.nil ?_
                    refine hK42 _ _ ?_
                    refine TK.ret ?_
                    obtain rfl := hR25 _ (some_in hX).symm
                    replace hX := hA25
                    try dsimp only [thenQ]
                    exact ret1 (v := Enc.v (false : Bool)) rfl (by obtain rfl := some_in hX; rfl) (v_val _)
                  · have hX := ite_f hc hX
                    refine TK.skip ?_
                    refine hK38 _ _ ?_
                    refine TK.seq_k fun K43 hK43 => ?_
                    refine TK.reg ?_
                    refine TL.p (C := cx) (gc := true) (p_mv rfl) rfl rfl ?_
                    refine TL.nil ?_
                    refine hK43 _ _ ?_
                    refine TK.block ?_
                    obtain ⟨o44, hO44, hA44⟩ := bind_some hX
                    have E44 : ∀ (env : Env) (h : Hp), (∃ _u : Unit, keepE [1, 2, 8, 10, 12] env = [(1, true, Enc.v (drives2 : Int)), (2, true, Enc.v (l3 : (List Act_law24))), (8, true, .nilp), (10, true, .nilp), (12, true, Enc.v (i26 : Int))] ∧ Nd [] ∧ HSub [] h) → X.cartridgelaw24_RobotPlays_e44 i26 = some x25x → K30 env h := by
                      intro  env h hE hX
                      obtain ⟨_u, henv, nd, hs⟩ := hE
                      unfold X.cartridgelaw24_RobotPlays_e44 at hX
                      refine hK30 _ _ (TK.keep [1, 2, 8, 10, 12] ?_)
                      rw [henv]
                      refine TK.subH hs ?_
                      refine TK.reg ?_
                      refine TL.p (C := cx) (gc := true) (p_mv rfl) rfl rfl ?_
                      refine TL.p (C := cx) (gc := true) (p_add rfl rfl) rfl rfl ?_
                      refine TL.p (C := cx) (gc := true) (p_mv rfl) rfl rfl ?_
                      refine TL.nil ?_
                      exact ⟨_, (some_in hX).symm, (), rfl, Nd_nil, HSub.refl _⟩
                    refine TK.iter [1, 2, 8, 10, 12, 18] (fun s env h => match s with | _ => ∃ _u : Unit, env = [(1, true, Enc.v (drives2 : Int)), (2, true, Enc.v (l3 : (List Act_law24))), (8, true, .nilp), (10, true, .nilp), (12, true, Enc.v (i26 : Int)), (18, true, Enc.v (((-1) : Int) : Int))] ∧ Nd [] ∧ HSub [] h) hO44 ⟨(), rfl, Nd_nil, HSub.refl _⟩ ?_
                    rintro ⟨⟩ env h x44x ⟨_u, rfl, nd, hs⟩ hX hR44
                    refine TK.subH hs ?_
                    unfold X.cartridgelaw24_RobotPlays_s44 at hX
                    try dsimp only at hX
                    refine TK.seq_k fun K45 hK45 => ?_
                    refine TK.seq_k fun K46 hK46 => ?_
                    refine TK.reg ?_
                    refine TL.p (C := cx) (gc := true) (p_mv rfl) rfl rfl ?_
                    refine TL.p (C := cx) (gc := true) (p_mv rfl) rfl rfl ?_
                    refine TL.p (C := cx) (gc := true) (p_leq rfl rfl) rfl rfl ?_
                    refine TL.nil ?_
                    refine hK46 _ _ ?_
                    refine TK.cond (b := (decide (((-1) : Int) ≤ drives2))) rfl (fun hc => ?_) (fun hc => ?_)
                    · have hX := ite_t hc hX
                      refine TK.skip ?_
                      refine hK45 _ _ ?_
                      refine TK.seq_k fun K47 hK47 => ?_
                      refine TK.block ?_
                      refine TK.seq_k fun K48 hK48 => ?_
                      cases hX
                    · have hX := ite_f hc hX
                      refine TK.exit ?_
                      obtain rfl := hR44 _ (some_in hX).symm
                      exact E44 _ _ ⟨(), rfl, Nd_nil, HSub.refl _⟩ hA44
                refine TK.seq_k fun K49 hK49 => ?_
                refine TK.reg ?_
                refine TL.p (C := cx) (gc := true) (p_faV fs76_0 (by decide) rfl nd (j := 0) rfl rfl) rfl rfl ?_
                refine TL.p (C := cx) (gc := true) (p_ldV (v := Enc.v (e32.Way : Int)) ty3 rfl rfl nd (j := 0) rfl rfl rfl rfl rfl) rfl rfl ?_
                refine TL.nil ?_
                refine hK49 _ _ ?_
                refine TK.block ?_
                refine TK.seq_k fun K50 hK50 => ?_
                refine TK.reg ?_
                refine TL.p (C := cx) (gc := true) (p_eql rfl rfl) rfl rfl ?_
                refine TL.p (C := cx) (gc := true) (p_mv rfl) rfl rfl ?_
                refine TL.nil ?_
                refine hK50 _ _ ?_
                refine TK.cond (b := (e32.Way == (0 : Int))) rfl (fun hc => ?_) (fun hc => ?_)
                · have hX := ite_t hc hX
                  refine TK.seq_k fun K51 hK51 => ?_
                  have ndS : Nd [(b33, RV 76 [Enc.v (e32.Way : Int), Enc.v (e32.N : Int), Enc.v (e32.Fail : Bool), Enc.v (e32.Labels : (List Int))])] := Nd.pick nd (is := [0]) (by decide)
                  refine TK.drwX (h := []) (hS := [(b33, RV 76 [Enc.v (e32.Way : Int), Enc.v (e32.N : Int), Enc.v (e32.Fail : Bool), Enc.v (e32.Labels : (List Int))])]) [(0, 0), (0, 1), (0, 2), (0, 3), (0, 4), (0, 5), (0, 6), (0, 7), (0, 8), (0, 9)] mixed (by kernel_rfl) (HSub_app nd) ?_
                  refine DR0 (gc := true) rfl (vok_p (C := cx) (p_mv rfl)) rfl rfl ?_
                  refine DR0 (gc := true) rfl (vok_p (C := cx) (p_faV fs76_1 (by decide) rfl ndS (j := 0) rfl rfl)) rfl rfl ?_
                  refine DR0 (gc := true) rfl (vok_p (C := cx) (p_ldV (v := Enc.v (e32.N : Int)) ty3 rfl rfl ndS (j := 0) rfl rfl rfl rfl rfl)) rfl rfl ?_
                  obtain ⟨r52, hr52, hX⟩ := bind_some hX
                  refine DR0 (gc := true) rfl (vok_c rfl (fun _ => ⟨rfl, ⟨rfl, ⟨rfl, trivial⟩⟩⟩) (fun e => ok_robot_Robot_Ask_nil e32.N _ hr52)) rfl rfl ?_
                  obtain ⟨r53, hr53, hX⟩ := bind_some hX
                  refine DR0 (gc := true) rfl (vok_c rfl (fun _ => ⟨rfl, ⟨rfl, trivial⟩⟩) (fun e => ok_cartridgelaw24_num r52 _ hr53)) rfl rfl ?_
                  refine DR0 (gc := true) rfl (vok_p (C := cx) (p_mv rfl)) rfl rfl ?_
                  refine DR0 (gc := true) rfl (vok_p (C := cx) (p_faV fs76_1 (by decide) rfl ndS (j := 0) rfl rfl)) rfl rfl ?_
                  refine DR0 (gc := true) rfl (vok_p (C := cx) (p_ldV (v := Enc.v (e32.N : Int)) ty3 rfl rfl ndS (j := 0) rfl rfl rfl rfl rfl)) rfl rfl ?_
                  obtain ⟨r54, hr54, hX⟩ := bind_some hX
                  refine DR0 (gc := true) rfl (vok_c rfl (fun _ => ⟨rfl, ⟨rfl, ⟨rfl, trivial⟩⟩⟩) (fun e => ok_cartridgeref22_Robot_Ask_nil e32.N _ hr54)) rfl rfl ?_
                  refine DR0 (gc := true) rfl (vok_p (C := cx) (p_neq rfl rfl)) rfl rfl ?_
                  refine DRend ?_
                  refine hK51 _ _ ?_
                  refine TK.cond (b := (r53 != r54)) rfl (fun hc => ?_) (fun hc => ?_)
                  · have hX := ite_t hc hX
                    refine TK.seq_k fun K55 hK55 => ?_
                    refine TK.reg ?_
                    refine TL.p (C := cx) (gc := true) (p_mv rfl) rfl rfl ?_
                    refine TL.nil ?_
                    refine hK55 _ _ ?_
                    refine TK.ret ?_
                    obtain rfl := hR25 _ (some_in hX).symm
                    replace hX := hA25
                    try dsimp only [thenQ]
                    exact ret1 (v := Enc.v (false : Bool)) rfl (by obtain rfl := some_in hX; rfl) (v_val _)
                  · have hX := ite_f hc hX
                    refine TK.skip ?_
                    exact J37 _ _ ⟨(), rfl, (Nd.pick nd (is := []) (by decide)), (HSub.pick nd (is := []) (by decide))⟩ hX
                · have hX := ite_f hc hX
                  refine TK.seq_k fun K56 hK56 => ?_
                  refine TK.reg ?_
                  refine TL.p (C := cx) (gc := true) (p_eql rfl rfl) rfl rfl ?_
                  refine TL.p (C := cx) (gc := true) (p_mv rfl) rfl rfl ?_
                  refine TL.nil ?_
                  refine hK56 _ _ ?_
                  refine TK.cond (b := (e32.Way == (1 : Int))) rfl (fun hc => ?_) (fun hc => ?_)
                  · have hX := ite_t hc hX
                    refine TK.seq_k fun K57 hK57 => ?_
                    have ndS : Nd [(b33, RV 76 [Enc.v (e32.Way : Int), Enc.v (e32.N : Int), Enc.v (e32.Fail : Bool), Enc.v (e32.Labels : (List Int))])] := Nd.pick nd (is := [0]) (by decide)
                    refine TK.drwX (h := []) (hS := [(b33, RV 76 [Enc.v (e32.Way : Int), Enc.v (e32.N : Int), Enc.v (e32.Fail : Bool), Enc.v (e32.Labels : (List Int))])]) [(0, 0), (0, 1), (0, 2), (0, 3), (0, 4), (0, 5), (0, 6), (0, 7), (0, 8)] mixed (by kernel_rfl) (HSub_app nd) ?_
                    refine DR0 (gc := true) rfl (vok_p (C := cx) (p_mv rfl)) rfl rfl ?_
                    refine DR0 (gc := true) rfl (vok_p (C := cx) (p_faV fs76_2 (by decide) rfl ndS (j := 0) rfl rfl)) rfl rfl ?_
                    refine DR0 (gc := true) rfl (vok_p (C := cx) (p_ldV (v := Enc.v (e32.Fail : Bool)) ty4 rfl rfl ndS (j := 0) rfl rfl rfl rfl rfl)) rfl rfl ?_
                    obtain ⟨r58, hr58, hX⟩ := bind_some hX
                    refine DR0 (gc := true) rfl (vok_c rfl (fun _ => ⟨rfl, ⟨rfl, ⟨rfl, trivial⟩⟩⟩) (fun e => ok_robot_Robot_Step_nil e32.Fail _ hr58)) rfl rfl ?_
                    refine DR0 (gc := true) rfl (vok_p (C := cx) (p_mv rfl)) rfl rfl ?_
                    refine DR0 (gc := true) rfl (vok_p (C := cx) (p_faV fs76_2 (by decide) rfl ndS (j := 0) rfl rfl)) rfl rfl ?_
                    refine DR0 (gc := true) rfl (vok_p (C := cx) (p_ldV (v := Enc.v (e32.Fail : Bool)) ty4 rfl rfl ndS (j := 0) rfl rfl rfl rfl rfl)) rfl rfl ?_
                    obtain ⟨r59, hr59, hX⟩ := bind_some hX
                    refine DR0 (gc := true) rfl (vok_c rfl (fun _ => ⟨rfl, ⟨rfl, ⟨rfl, trivial⟩⟩⟩) (fun e => ok_cartridgeref22_Robot_Step_nil e32.Fail _ hr59)) rfl rfl ?_
                    refine DR0 (gc := true) rfl (vok_p (C := cx) (p_neB kd4 rfl rfl)) rfl rfl ?_
                    refine DRend ?_
                    refine hK57 _ _ ?_
                    refine TK.cond (b := (r58 != r59)) rfl (fun hc => ?_) (fun hc => ?_)
                    · have hX := ite_t hc hX
                      refine TK.seq_k fun K60 hK60 => ?_
                      refine TK.reg ?_
                      refine TL.p (C := cx) (gc := true) (p_mv rfl) rfl rfl ?_
                      refine TL.nil ?_
                      refine hK60 _ _ ?_
                      refine TK.ret ?_
                      obtain rfl := hR25 _ (some_in hX).symm
                      replace hX := hA25
                      try dsimp only [thenQ]
                      exact ret1 (v := Enc.v (false : Bool)) rfl (by obtain rfl := some_in hX; rfl) (v_val _)
                    · have hX := ite_f hc hX
                      refine TK.skip ?_
                      exact J37 _ _ ⟨(), rfl, (Nd.pick nd (is := []) (by decide)), (HSub.pick nd (is := []) (by decide))⟩ hX
                  · have hX := ite_f hc hX
                    refine TK.seq_k fun K61 hK61 => ?_
                    refine TK.reg ?_
                    refine TL.p (C := cx) (gc := true) (p_eql rfl rfl) rfl rfl ?_
                    refine TL.p (C := cx) (gc := true) (p_mv rfl) rfl rfl ?_
                    refine TL.nil ?_
                    refine hK61 _ _ ?_
                    refine TK.cond (b := (e32.Way == (2 : Int))) rfl (fun hc => ?_) (fun hc => ?_)
                    · have hX := ite_t hc hX
                      refine TK.seq_k fun K62 hK62 => ?_
                      have ndS : Nd [(b33, RV 76 [Enc.v (e32.Way : Int), Enc.v (e32.N : Int), Enc.v (e32.Fail : Bool), Enc.v (e32.Labels : (List Int))])] := Nd.pick nd (is := [0]) (by decide)
                      refine TK.drwX (h := []) (hS := [(b33, RV 76 [Enc.v (e32.Way : Int), Enc.v (e32.N : Int), Enc.v (e32.Fail : Bool), Enc.v (e32.Labels : (List Int))])]) [(0, 0), (0, 1), (0, 2), (0, 3), (0, 4), (0, 5), (0, 6), (0, 7), (0, 8), (0, 9), (0, 10), (0, 11)] mixed (by kernel_rfl) (HSub_app nd) ?_
                      refine DR0 (gc := true) rfl (vok_p (C := cx) (p_mv rfl)) rfl rfl ?_
                      refine DR0 (gc := true) rfl (vok_p (C := cx) (p_faV fs76_3 (by decide) rfl ndS (j := 0) rfl rfl)) rfl rfl ?_
                      refine DR0 (gc := true) rfl (vok_p (C := cx) (p_ldV (v := Enc.v (e32.Labels : (List Int))) ty46 rfl rfl ndS (j := 0) rfl rfl rfl rfl rfl)) rfl rfl ?_
                      obtain ⟨u63, hu63, hX⟩ := bind_some hX
                      refine DR0 (gc := true) rfl (vok_appV (C := cx) kd46 bo46 ty3 rfl rfl rfl (Src_L _) (by decide) (need_t hu63)) rfl rfl ?_
                      refine DR0 (gc := true) rfl (vok_p (C := cx) (p_faV fs76_1 (by decide) rfl ndS (j := 0) rfl rfl)) rfl rfl ?_
                      refine DR0 (gc := true) rfl (vok_p (C := cx) (p_ldV (v := Enc.v (e32.N : Int)) ty3 rfl rfl ndS (j := 0) rfl rfl rfl rfl rfl)) rfl rfl ?_
                      obtain ⟨r64, hr64, hX⟩ := bind_some hX
                      refine DR0 (gc := true) rfl (vok_c rfl (fun _ => ⟨rfl, ⟨rfl, ⟨rfl, ⟨rfl, trivial⟩⟩⟩⟩) (fun e => ok_robot_Robot_Serve_nil e32.Labels e32.N _ hr64)) rfl rfl ?_
                      refine DR0 (gc := true) rfl (vok_p (C := cx) (p_mv rfl)) rfl rfl ?_
                      refine DR0 (gc := true) rfl (vok_p (C := cx) (p_ex rfl rfl (by decide))) rfl rfl ?_
                      refine DR0 (gc := true) rfl (vok_p (C := cx) (p_ex rfl rfl (by decide))) rfl rfl ?_
                      refine DR0 (gc := true) rfl (vok_p (C := cx) (p_mv rfl)) rfl rfl ?_
                      refine DR0 (gc := true) rfl (vok_p (C := cx) (p_mv rfl)) rfl rfl ?_
                      refine DRend ?_
                      refine hK62 _ _ ?_
                      refine TK.seq_k fun K65 hK65 => ?_
                      refine TK.reg ?_
                      refine TL.p (C := cx) (gc := true) (p_mv rfl) rfl rfl ?_
                      refine TL.p (C := cx) (gc := true) (p_faV fs76_3 (by decide) rfl nd (j := 0) rfl rfl) rfl rfl ?_
                      refine TL.p (C := cx) (gc := true) (p_ldV (v := Enc.v (e32.Labels : (List Int))) ty46 rfl rfl nd (j := 0) rfl rfl rfl rfl rfl) rfl rfl ?_
                      refine TL.p (C := cx) (gc := true) (p_faV fs76_1 (by decide) rfl nd (j := 0) rfl rfl) rfl rfl ?_
                      refine TL.p (C := cx) (gc := true) (p_ldV (v := Enc.v (e32.N : Int)) ty3 rfl rfl nd (j := 0) rfl rfl rfl rfl rfl) rfl rfl ?_
                      obtain ⟨r66, hr66, hX⟩ := bind_some hX
                      refine TL.cvX rfl rfl rfl (fun _ => ⟨rfl, ⟨rfl, ⟨rfl, ⟨rfl, trivial⟩⟩⟩⟩) (fun e => ok_cartridgeref22_Robot_Serve_nil e32.Labels e32.N _ hr66) ?_
                      refine TL.p (C := cx) (gc := true) (p_mv rfl) rfl rfl ?_
                      refine TL.p (C := cx) (gc := true) (p_ex rfl rfl (by decide)) rfl rfl ?_
                      refine TL.p (C := cx) (gc := true) (p_ex rfl rfl (by decide)) rfl rfl ?_
                      refine TL.p (C := cx) (gc := true) (p_mv rfl) rfl rfl ?_
                      refine TL.p (C := cx) (gc := true) (p_mv rfl) rfl rfl ?_
                      refine TL.nil ?_
                      refine hK65 _ _ ?_
                      refine TK.seq_k fun K67 hK67 => ?_
                      refine TK.reg ?_
                      refine TL.p (C := cx) (gc := true) (p_mv rfl) rfl rfl ?_
                      refine TL.p (C := cx) (gc := true) (p_mv rfl) rfl rfl ?_
                      refine TL.p (C := cx) (gc := true) (p_neq rfl rfl) rfl rfl ?_
                      refine TL.p (C := cx) (gc := true) (p_mv rfl) rfl rfl ?_
                      refine TL.p (C := cx) (gc := (!((r64.1 != r66.1)))) (p_mv rfl (hg := fun e => rfl)) (gcF1 rfl) rfl ?_
                      obtain ⟨r68, hr68, hX⟩ := bind_some hX
                      refine TL.cvX (gcF1 rfl) rfl rfl (fun e => ⟨rfl, ⟨e, trivial⟩⟩) (fun e => ok_cartridgelaw24_num r64.2 _ (optG_t hr68 e)) ?_
                      refine TL.p (C := cx) (gc := (!((r64.1 != r66.1)))) (p_mv rfl (hg := fun e => rfl)) (gcF1 rfl) rfl ?_
                      refine TL.p (C := cx) (gc := (!((r64.1 != r66.1)))) (p_neq rfl rfl (hg := fun e => ⟨e, e⟩)) (gcF1 rfl) rfl ?_
                      refine TL.p (C := cx) (gc := true) (p_or rfl rfl (fun e => ⟨rfl, fun h => (not_t h)⟩)) rfl rfl ?_
                      refine TL.nil ?_
                      refine hK67 _ _ ?_
                      refine TK.cond (b := ((r64.1 != r66.1) || (r68 != r66.2))) rfl (fun hc => ?_) (fun hc => ?_)
                      · have hX := ite_t hc hX
                        refine TK.seq_k fun K69 hK69 => ?_
                        refine TK.reg ?_
                        refine TL.p (C := cx) (gc := true) (p_mv rfl) rfl rfl ?_
                        refine TL.nil ?_
                        refine hK69 _ _ ?_
                        refine TK.ret ?_
                        obtain rfl := hR25 _ (some_in hX).symm
                        replace hX := hA25
                        try dsimp only [thenQ]
                        exact ret1 (v := Enc.v (false : Bool)) rfl (by obtain rfl := some_in hX; rfl) (v_val _)
                      · have hX := ite_f hc hX
                        refine TK.skip ?_
                        exact J37 _ _ ⟨(), rfl, (Nd.pick nd (is := []) (by decide)), (HSub.pick nd (is := []) (by decide))⟩ hX
                    · have hX := ite_f hc hX
                      refine TK.skip ?_
                      exact J37 _ _ ⟨(), rfl, (Nd.pick nd (is := []) (by decide)), (HSub.pick nd (is := []) (by decide))⟩ hX
            · have hX := ite_f hc hX
              refine TK.exit ?_
              obtain rfl := hR25 _ (some_in hX).symm
              exact E25 _ _ ⟨(), rfl, Nd_nil, HSub.refl _⟩ hA25
      | some o70 =>
        simp only [hqr15] at hQ hX
        obtain ⟨b71, b72, b73, b74, b75, b76, b77, pre78, rfl, rfl⟩ := hQ
        refine TL.p (C := cx) (gc := true) (p_mv rfl) rfl rfl ?_
        refine TL.p (C := cx) (gc := true) (p_ex rfl rfl (by decide)) rfl rfl ?_
        refine TL.p (C := cx) (gc := true) (p_ex rfl rfl (by decide)) rfl rfl ?_
        refine TL.p (C := cx) (gc := true) (p_mv rfl) rfl rfl ?_
        refine TL.p (C := cx) (gc := true) (p_mv rfl) rfl rfl ?_
        refine TL.nil ?_
        refine hK14 _ _ ?_
        refine TK.seq_k fun K79 hK79 => ?_
        refine TK.seq_k fun K80 hK80 => ?_
        refine TK.reg ?_
        refine TL.p (C := cx) (gc := true) (p_mv rfl) rfl rfl ?_
        obtain ⟨r81, hr81, hX⟩ := bind_some hX
        refine TL.cvX rfl rfl rfl (fun _ => ⟨rfl, ⟨rfl, trivial⟩⟩) (fun e => ok_cartridgelaw24_num r13.2 _ hr81) ?_
        refine TL.p (C := cx) (gc := true) (p_mv rfl) rfl rfl ?_
        refine TL.p (C := cx) (gc := true) (p_neq rfl rfl) rfl rfl ?_
        refine TL.p (C := cx) (gc := true) (p_mv rfl) rfl rfl ?_
        refine TL.p (C := cx) (gc := (!((r81 != r15.2)))) (p_mv rfl (hg := fun e => rfl)) (gcF1 rfl) rfl ?_
        refine TL.p (C := cx) (gc := (!((r81 != r15.2)))) (p_eqN kd64 rfl rfl (hg := fun e => ⟨e, rfl⟩)) (gcF1 rfl) rfl ?_
        refine TL.p (C := cx) (gc := (!((r81 != r15.2)))) (p_mv rfl (hg := fun e => rfl)) (gcF1 rfl) rfl ?_
        refine TL.p (C := cx) (gc := (!((r81 != r15.2)))) (p_neq rfl rfl (hg := fun e => ⟨e, rfl⟩)) (gcF1 rfl) rfl ?_
        refine TL.p (C := cx) (gc := (!((r81 != r15.2)))) (p_neB kd4 rfl rfl (hg := fun e => ⟨e, e⟩)) (gcF1 rfl) rfl ?_
        refine TL.p (C := cx) (gc := true) (p_or rfl rfl (fun e => ⟨rfl, fun h => (not_t h)⟩)) rfl rfl ?_
        refine TL.nil ?_
        refine hK80 _ _ ?_
        refine TK.cond (b := ((r81 != r15.2) || (true != (r15.2 != (0 : Int))))) rfl (fun hc => ?_) (fun hc => ?_)
        · have hX := ite_t hc hX
          refine TK.seq_k fun K82 hK82 => ?_
          refine TK.reg ?_
          refine TL.p (C := cx) (gc := true) (p_mv rfl) rfl rfl ?_
          refine TL.nil ?_
          refine hK82 _ _ ?_
          refine TK.ret ?_
          try dsimp only [thenQ]
          exact ret1 (v := Enc.v (false : Bool)) rfl (by obtain rfl := some_in hX; rfl) (v_val _)
        · have hX := ite_f hc hX
          refine TK.skip ?_
          refine hK79 _ _ ?_
          refine TK.seq_k fun K83 hK83 => ?_
          refine TK.seq_k fun K84 hK84 => ?_
          refine TK.reg ?_
          refine TL.p (C := cx) (gc := true) (p_mv rfl) rfl rfl ?_
          refine TL.p (C := cx) (gc := true) (p_neq rfl rfl) rfl rfl ?_
          refine TL.nil ?_
          refine hK84 _ _ ?_
          refine TK.cond (b := (r15.2 != (0 : Int))) rfl (fun hc => ?_) (fun hc => ?_)
          · have hX := ite_t hc hX
            refine TK.seq_k fun K85 hK85 => ?_
            refine TK.reg ?_
            refine TL.p (C := cx) (gc := true) (p_mv rfl) rfl rfl ?_
            refine TL.nil ?_
            refine hK85 _ _ ?_
            refine TK.ret ?_
            try dsimp only [thenQ]
            exact ret1 (v := Enc.v (true : Bool)) rfl (by obtain rfl := some_in hX; rfl) (v_val _)
          · have hX := ite_f hc hX
            refine TK.skip ?_
            refine hK83 _ _ ?_
            refine TK.seq_k fun K86 hK86 => ?_
            refine TK.seq_k fun K87 hK87 => ?_
            refine TK.reg ?_
            refine TL.p (C := cx) (gc := true) (p_mv rfl) rfl rfl ?_
            refine TL.nil ?_
            refine hK87 _ _ ?_
            refine TK.block ?_
            obtain ⟨o88, hO88, hA88⟩ := bind_some hX
            have E88 : ∀ (env : Env) (h : Hp), (∃ _u : Unit, keepE [] env = [] ∧ Nd [] ∧ HSub [] h) → X.cartridgelaw24_RobotPlays_e88 = some r → K86 env h := by
              intro  env h hE hX
              obtain ⟨_u, henv, nd, hs⟩ := hE
              unfold X.cartridgelaw24_RobotPlays_e88 at hX
              refine hK86 _ _ (TK.keep [] ?_)
              rw [henv]
              refine TK.subH hs ?_
              refine TK.seq_k fun K103 hK103 => ?_
              refine TK.reg ?_
              refine TL.p (C := cx) (gc := true) (p_mv rfl) rfl rfl ?_
              refine TL.nil ?_
              refine hK103 _ _ ?_
              refine TK.ret ?_
              try dsimp only [thenQ]
              exact ret1 (v := Enc.v (true : Bool)) rfl (by obtain rfl := some_in hX; rfl) (v_val _)
            refine TK.iter [1, 2, 8, 10, 12] (fun s env h => match s with | (l92, l94, l96, l98, l101, i102) => ∃ b91 b93 b95 b90 b97 b99 pre100 b89, env = [(1, true, Enc.v (drives2 : Int)), (2, true, Enc.v (l3 : (List Act_law24))), (8, true, .nilp), (10, true, .ref b89 0 3), (12, true, Enc.v (i102 : Int))] ∧ Nd [(b91, RL (α := Int) 3 l92), (b93, RL (α := Int) 3 l94), (b95, RL (α := Int) 3 l96), (b90, RV 118 [OL (α := Int) b91 l92, OL (α := Int) b93 l94, OL (α := Int) b95 l96]), (b97, RL (α := Int) 3 l98), (b99, RL (α := Int) 3 (pre100 ++ l101)), (b89, RV 84 [.ref b90 0 3, OL (α := Int) b97 l98, OQ (α := Int) b99 pre100 l101])] ∧ HSub [(b91, RL (α := Int) 3 l92), (b93, RL (α := Int) 3 l94), (b95, RL (α := Int) 3 l96), (b90, RV 118 [OL (α := Int) b91 l92, OL (α := Int) b93 l94, OL (α := Int) b95 l96]), (b97, RL (α := Int) 3 l98), (b99, RL (α := Int) 3 (pre100 ++ l101)), (b89, RV 84 [.ref b90 0 3, OL (α := Int) b97 l98, OQ (α := Int) b99 pre100 l101])] h) hO88 ⟨b73, b74, b75, b72, b76, b77, pre78, b71, rfl, (Nd.pick nd (is := [2, 3, 4, 1, 5, 6, 0]) (by decide)), (HSub.pick nd (is := [2, 3, 4, 1, 5, 6, 0]) (by decide))⟩ ?_
            rintro ⟨l92, l94, l96, l98, l101, i102⟩ env h x88x ⟨b91, b93, b95, b90, b97, b99, pre100, b89, rfl, nd, hs⟩ hX hR88
            refine TK.subH hs ?_
            unfold X.cartridgelaw24_RobotPlays_s88 at hX
            try dsimp only at hX
            refine TK.seq_k fun K104 hK104 => ?_
            refine TK.seq_k fun K105 hK105 => ?_
            refine TK.reg ?_
            refine TL.p (C := cx) (gc := true) (p_mv rfl) rfl rfl ?_
            refine TL.p (C := cx) (gc := true) (p_mv rfl) rfl rfl ?_
            refine TL.p (C := cx) (gc := true) (p_lenL (xs := l3) kd71 rfl) rfl rfl ?_
            refine TL.p (C := cx) (gc := true) (p_lss rfl rfl) rfl rfl ?_
            refine TL.nil ?_
            refine hK105 _ _ ?_
            refine TK.cond (b := (decide (i102 < (l3.length : Int)))) rfl (fun hc => ?_) (fun hc => ?_)
            · have hX := ite_t hc hX
              refine TK.skip ?_
              refine hK104 _ _ ?_
              refine TK.seq_k fun K106 hK106 => ?_
              refine TK.block ?_
              refine TK.seq_k fun K107 hK107 => ?_
              refine TK.reg ?_
              refine TL.p (C := cx) (gc := true) (p_mv rfl) rfl rfl ?_
              refine TL.p (C := cx) (gc := true) (p_mv rfl) rfl rfl ?_
              obtain ⟨e108, he108, hX⟩ := bind_some hX
              refine TL.p (C := cx) (gc := true) (p_iaL (xs := l3) kd71 ty76 rfl rfl rfl (fun _ => he108)) rfl rfl ?_
              refine TL.p (C := cx) (gc := true) (p_ldE (xs := l3) (a := e108) (e108 : Act_law24) ty76 rfl rfl (fun _ => he108) rfl rfl rfl) rfl rfl ?_
              refine TL.alO (C := cx) (l := [Enc.v ((0 : Int) : Int), Enc.v ((0 : Int) : Int), Enc.v (false : Bool), .nils]) nd ty76 ti76_z rfl rfl fun b109 nd => ?_
              refine TL.stV (C := cx) (lu := Enc.cl (e108 : Act_law24)) nd ty76 rfl (j := 0) rfl rfl rfl (Cells_v (e108 : Act_law24)) rfl rfl [Enc.v (e108.Way : Int), Enc.v (e108.N : Int), Enc.v (e108.Fail : Bool), Enc.v (e108.Labels : (List Int))] rfl fun nd => ?_
              refine TL.nil ?_
              refine hK107 _ _ ?_
              refine TK.seq_k fun K110 hK110 => ?_
              refine TK.seq_k fun K111 hK111 => ?_
              refine TK.reg ?_
              refine TL.p (C := cx) (gc := true) (p_faV fs76_3 (by decide) rfl nd (j := 0) rfl rfl) rfl rfl ?_
              refine TL.p (C := cx) (gc := true) (p_ldV (v := Enc.v (e108.Labels : (List Int))) ty46 rfl rfl nd (j := 0) rfl rfl rfl rfl rfl) rfl rfl ?_
              refine TL.p (C := cx) (gc := true) (p_lenL (xs := e108.Labels) kd46 rfl) rfl rfl ?_
              refine TL.p (C := cx) (gc := true) (p_gtr rfl rfl) rfl rfl ?_
              refine TL.nil ?_
              refine hK111 _ _ ?_
              refine TK.cond (b := (decide ((e108.Labels.length : Int) > (40 : Int)))) rfl (fun hc => ?_) (fun hc => ?_)
              · have hX := ite_t hc hX
                refine TK.seq_k fun K112 hK112 => ?_
                refine TK.reg ?_
                refine TL.p (C := cx) (gc := true) (p_mv rfl) rfl rfl ?_
                refine TL.nil ?_
                refine hK112 _ _ ?_
                refine TK.ret ?_
                obtain rfl := hR88 _ (some_in hX).symm
                replace hX := hA88
                try dsimp only [thenQ]
                exact ret1 (v := Enc.v (true : Bool)) rfl (by obtain rfl := some_in hX; rfl) (v_val _)
              · have hX := ite_f hc hX
                refine TK.skip ?_
                refine hK110 _ _ ?_
                refine TK.seq_k fun K113 hK113 => ?_
                have J113 : ∀ (l117 : List Int) (l119 : List Int) (l121 : List Int) (l123 : List Int) (l126 : List Int) (env : Env) (h : Hp), (∃ b116 b118 b120 b115 b122 b124 pre125 b114, keepE [1, 2, 8, 10, 12] env = [(1, true, Enc.v (drives2 : Int)), (2, true, Enc.v (l3 : (List Act_law24))), (8, true, .nilp), (10, true, .ref b114 0 3), (12, true, Enc.v (i102 : Int))] ∧ Nd [(b116, RL (α := Int) 3 l117), (b118, RL (α := Int) 3 l119), (b120, RL (α := Int) 3 l121), (b115, RV 118 [OL (α := Int) b116 l117, OL (α := Int) b118 l119, OL (α := Int) b120 l121]), (b122, RL (α := Int) 3 l123), (b124, RL (α := Int) 3 (pre125 ++ l126)), (b114, RV 84 [.ref b115 0 3, OL (α := Int) b122 l123, OQ (α := Int) b124 pre125 l126])] ∧ HSub [(b116, RL (α := Int) 3 l117), (b118, RL (α := Int) 3 l119), (b120, RL (α := Int) 3 l121), (b115, RV 118 [OL (α := Int) b116 l117, OL (α := Int) b118 l119, OL (α := Int) b120 l121]), (b122, RL (α := Int) 3 l123), (b124, RL (α := Int) 3 (pre125 ++ l126)), (b114, RV 84 [.ref b115 0 3, OL (α := Int) b122 l123, OQ (α := Int) b124 pre125 l126])] h) → X.cartridgelaw24_RobotPlays_j113 drives2 i102 l117 l119 l121 l123 l126 = some x88x → K113 env h := by
                  intro l117 l119 l121 l123 l126 env h hE hX
                  obtain ⟨b116, b118, b120, b115, b122, b124, pre125, b114, henv, nd, hs⟩ := hE
                  unfold X.cartridgelaw24_RobotPlays_j113 at hX
                  refine hK113 _ _ (TK.keep [1, 2, 8, 10, 12] ?_)
                  rw [henv]
                  refine TK.subH hs ?_
                  refine TK.seq_k fun K127 hK127 => ?_
                  refine TK.seq_k fun K128 hK128 => ?_
                  refine TK.reg ?_
                  refine TL.p (C := cx) (gc := true) (p_mv rfl) rfl rfl ?_
                  obtain ⟨r129, hr129, hX⟩ := bind_some hX
                  refine TL.cvX rfl rfl rfl (fun _ => ⟨rfl, ⟨rfl, trivial⟩⟩) (fun e => ok_robot_Robot_Waiting_nil  _ hr129) ?_
                  refine TL.p (C := cx) (gc := true) (p_mv rfl) rfl rfl ?_
                  obtain ⟨r130, hr130, hX⟩ := bind_some hX
                  refine TL.lookX [.vref (ofL [.vref (ofL [Enc.v (l117 : (List Int)), Enc.v (l119 : (List Int)), Enc.v (l121 : (List Int))]) 3 0, Enc.v (l123 : (List Int)), Enc.v (l126 : (List Int))]) 3 0] rfl rfl rfl (fun _ => ⟨rfl, ⟨rfl, trivial⟩⟩) ⟨look_ref (l := [.ref b115 0 3, OL (α := Int) b122 l123, OQ (α := Int) b124 pre125 l126]) nd (j := 6) rfl ⟨look_ref (l := [OL (α := Int) b116 l117, OL (α := Int) b118 l119, OL (α := Int) b120 l121]) nd (j := 3) rfl ⟨look_OL nd (j := 0) rfl, look_OL nd (j := 1) rfl, look_OL nd (j := 2) rfl, trivial⟩, look_OL nd (j := 4) rfl, look_OQ nd (j := 5) rfl, trivial⟩, trivial⟩ (fun e => ok_cartridgeref22_Robot_Waiting l117 l119 l121 l123 l126 _ hr130) (trivial) ?_
                  refine TL.p (C := cx) (gc := true) (p_neq rfl rfl) rfl rfl ?_
                  refine TL.nil ?_
                  refine hK128 _ _ ?_
                  refine TK.cond (b := (r129 != r130)) rfl (fun hc => ?_) (fun hc => ?_)
                  · have hX := ite_t hc hX
                    refine TK.seq_k fun K131 hK131 => ?_
                    refine TK.reg ?_
                    refine TL.p (C := cx) (gc := true) (p_mv rfl) rfl rfl ?_
                    refine TL.nil ?_
                    refine hK131 _ _ ?_
                    refine TK.ret ?_
                    obtain rfl := hR88 _ (some_in hX).symm
                    replace hX := hA88
                    try dsimp only [thenQ]
                    exact ret1 (v := Enc.v (false : Bool)) rfl (by obtain rfl := some_in hX; rfl) (v_val _)
                  · have hX := ite_f hc hX
                    refine TK.skip ?_
                    refine hK127 _ _ ?_
                    refine TK.seq_k fun K132 hK132 => ?_
                    refine TK.reg ?_
                    refine TL.p (C := cx) (gc := true) (p_mv rfl) rfl rfl ?_
                    refine TL.nil ?_
                    refine hK132 _ _ ?_
                    refine TK.block ?_
                    obtain ⟨o133, hO133, hA133⟩ := bind_some hX
                    have E133 : ∀ (env : Env) (h : Hp), (∃ b145 b146 b147 b144 b148 b149 pre150 b143, keepE [1, 2, 8, 10, 12] env = [(1, true, Enc.v (drives2 : Int)), (2, true, Enc.v (l3 : (List Act_law24))), (8, true, .nilp), (10, true, .ref b143 0 3), (12, true, Enc.v (i102 : Int))] ∧ Nd [(b145, RL (α := Int) 3 l117), (b146, RL (α := Int) 3 l119), (b147, RL (α := Int) 3 l121), (b144, RV 118 [OL (α := Int) b145 l117, OL (α := Int) b146 l119, OL (α := Int) b147 l121]), (b148, RL (α := Int) 3 l123), (b149, RL (α := Int) 3 (pre150 ++ l126)), (b143, RV 84 [.ref b144 0 3, OL (α := Int) b148 l123, OQ (α := Int) b149 pre150 l126])] ∧ HSub [(b145, RL (α := Int) 3 l117), (b146, RL (α := Int) 3 l119), (b147, RL (α := Int) 3 l121), (b144, RV 118 [OL (α := Int) b145 l117, OL (α := Int) b146 l119, OL (α := Int) b147 l121]), (b148, RL (α := Int) 3 l123), (b149, RL (α := Int) 3 (pre150 ++ l126)), (b143, RV 84 [.ref b144 0 3, OL (α := Int) b148 l123, OQ (α := Int) b149 pre150 l126])] h) → X.cartridgelaw24_RobotPlays_e133 l117 l119 l121 l123 l126 i102 = some x88x → K106 env h := by
                      intro  env h hE hX
                      obtain ⟨b145, b146, b147, b144, b148, b149, pre150, b143, henv, nd, hs⟩ := hE
                      unfold X.cartridgelaw24_RobotPlays_e133 at hX
                      refine hK106 _ _ (TK.keep [1, 2, 8, 10, 12] ?_)
                      rw [henv]
                      refine TK.subH hs ?_
                      refine TK.reg ?_
                      refine TL.p (C := cx) (gc := true) (p_mv rfl) rfl rfl ?_
                      refine TL.p (C := cx) (gc := true) (p_add rfl rfl) rfl rfl ?_
                      refine TL.p (C := cx) (gc := true) (p_mv rfl) rfl rfl ?_
                      refine TL.nil ?_
                      exact ⟨_, (some_in hX).symm, b145, b146, b147, b144, b148, b149, pre150, b143, rfl, (Nd.pick nd (is := [0, 1, 2, 3, 4, 5, 6]) (by decide)), (HSub.pick nd (is := [0, 1, 2, 3, 4, 5, 6]) (by decide))⟩
                    refine TK.iter [1, 2, 8, 10, 12, 18] (fun s env h => match s with | d142 => ∃ b136 b137 b138 b135 b139 b140 pre141 b134, env = [(1, true, Enc.v (drives2 : Int)), (2, true, Enc.v (l3 : (List Act_law24))), (8, true, .nilp), (10, true, .ref b134 0 3), (12, true, Enc.v (i102 : Int)), (18, true, Enc.v (d142 : Int))] ∧ Nd [(b136, RL (α := Int) 3 l117), (b137, RL (α := Int) 3 l119), (b138, RL (α := Int) 3 l121), (b135, RV 118 [OL (α := Int) b136 l117, OL (α := Int) b137 l119, OL (α := Int) b138 l121]), (b139, RL (α := Int) 3 l123), (b140, RL (α := Int) 3 (pre141 ++ l126)), (b134, RV 84 [.ref b135 0 3, OL (α := Int) b139 l123, OQ (α := Int) b140 pre141 l126])] ∧ HSub [(b136, RL (α := Int) 3 l117), (b137, RL (α := Int) 3 l119), (b138, RL (α := Int) 3 l121), (b135, RV 118 [OL (α := Int) b136 l117, OL (α := Int) b137 l119, OL (α := Int) b138 l121]), (b139, RL (α := Int) 3 l123), (b140, RL (α := Int) 3 (pre141 ++ l126)), (b134, RV 84 [.ref b135 0 3, OL (α := Int) b139 l123, OQ (α := Int) b140 pre141 l126])] h) hO133 ⟨b116, b118, b120, b115, b122, b124, pre125, b114, rfl, (Nd.pick nd (is := [0, 1, 2, 3, 4, 5, 6]) (by decide)), (HSub.pick nd (is := [0, 1, 2, 3, 4, 5, 6]) (by decide))⟩ ?_
                    rintro d142 env h x133x ⟨b136, b137, b138, b135, b139, b140, pre141, b134, rfl, nd, hs⟩ hX hR133
                    refine TK.subH hs ?_
                    unfold X.cartridgelaw24_RobotPlays_s133 at hX
                    try dsimp only at hX
                    refine TK.seq_k fun K151 hK151 => ?_
                    refine TK.seq_k fun K152 hK152 => ?_
                    refine TK.reg ?_
                    refine TL.p (C := cx) (gc := true) (p_mv rfl) rfl rfl ?_
                    refine TL.p (C := cx) (gc := true) (p_mv rfl) rfl rfl ?_
                    refine TL.p (C := cx) (gc := true) (p_leq rfl rfl) rfl rfl ?_
                    refine TL.nil ?_
                    refine hK152 _ _ ?_
                    refine TK.cond (b := (decide (d142 ≤ drives2))) rfl (fun hc => ?_) (fun hc => ?_)
                    · have hX := ite_t hc hX
                      refine TK.skip ?_
                      refine hK151 _ _ ?_
                      refine TK.seq_k fun K153 hK153 => ?_
                      refine TK.block ?_
                      refine TK.seq_k fun K154 hK154 => ?_
                      have ndS : Nd [(b136, RL (α := Int) 3 l117), (b137, RL (α := Int) 3 l119), (b138, RL (α := Int) 3 l121), (b135, RV 118 [OL (α := Int) b136 l117, OL (α := Int) b137 l119, OL (α := Int) b138 l121]), (b139, RL (α := Int) 3 l123), (b140, RL (α := Int) 3 (pre141 ++ l126)), (b134, RV 84 [.ref b135 0 3, OL (α := Int) b139 l123, OQ (α := Int) b140 pre141 l126])] := Nd.pick nd (is := [0, 1, 2, 3, 4, 5, 6]) (by decide)
                      refine TK.drwX (h := []) (hS := [(b136, RL (α := Int) 3 l117), (b137, RL (α := Int) 3 l119), (b138, RL (α := Int) 3 l121), (b135, RV 118 [OL (α := Int) b136 l117, OL (α := Int) b137 l119, OL (α := Int) b138 l121]), (b139, RL (α := Int) 3 l123), (b140, RL (α := Int) 3 (pre141 ++ l126)), (b134, RV 84 [.ref b135 0 3, OL (α := Int) b139 l123, OQ (α := Int) b140 pre141 l126])]) [(0, 0), (0, 1), (0, 2), (0, 3), (0, 4), (0, 5), (0, 6), (0, 7), (0, 8), (0, 9)] mixed (by kernel_rfl) (HSub_app nd) ?_
                      refine DR0 (gc := true) rfl (vok_p (C := cx) (p_mv rfl)) rfl rfl ?_
                      refine DR0 (gc := true) rfl (vok_p (C := cx) (p_mv rfl)) rfl rfl ?_
                      obtain ⟨r155, hr155, hX⟩ := bind_some hX
                      refine DR0 (gc := true) rfl (vok_c rfl (fun _ => ⟨rfl, ⟨rfl, ⟨rfl, trivial⟩⟩⟩) (fun e => ok_robot_Robot_Mounted_nil d142 _ hr155)) rfl rfl ?_
                      refine DR0 (gc := true) rfl (vok_p (C := cx) (p_mv rfl)) rfl rfl ?_
                      refine DR0 (gc := true) rfl (vok_p (C := cx) (p_ncR rfl (fun _ => refOK_of ndS (j := 6) rfl rfl))) rfl rfl ?_
                      refine DR0 (gc := true) rfl (vok_p (C := cx) (p_faV fs84_0 (by decide) rfl ndS (j := 6) rfl rfl)) rfl rfl ?_
                      refine DR0 (gc := true) rfl (vok_p (C := cx) (p_ldV (v := .ref b135 0 3) ty82 rfl rfl ndS (j := 6) rfl rfl rfl rfl rfl)) rfl rfl ?_
                      refine DR0 (gc := true) rfl (vok_p (C := cx) (p_mv rfl)) rfl rfl ?_
                      obtain ⟨r156, hr156, hX⟩ := bind_some hX
                      refine DR0 (gc := true) rfl (vok_lookX [.vref (ofL [Enc.v (l117 : (List Int)), Enc.v (l119 : (List Int)), Enc.v (l121 : (List Int))]) 3 0, Enc.v (d142 : Int)] rfl (fun _ => ⟨rfl, ⟨rfl, ⟨rfl, trivial⟩⟩⟩) ⟨look_ref (l := [OL (α := Int) b136 l117, OL (α := Int) b137 l119, OL (α := Int) b138 l121]) ndS (j := 3) rfl ⟨look_OL ndS (j := 0) rfl, look_OL ndS (j := 1) rfl, look_OL ndS (j := 2) rfl, trivial⟩, look_v (v := Enc.v (d142 : Int)) (v_val _), trivial⟩ (fun e => ok_cartridgeref22_Shelf_Mounted l117 l119 l121 d142 _ hr156) (trivial)) rfl rfl ?_
                      refine DR0 (gc := true) rfl (vok_p (C := cx) (p_neq rfl rfl)) rfl rfl ?_
                      refine DRend ?_
                      refine hK154 _ _ ?_
                      refine TK.cond (b := (r155 != r156)) rfl (fun hc => ?_) (fun hc => ?_)
                      · have hX := ite_t hc hX
                        refine TK.seq_k fun K157 hK157 => ?_
                        refine TK.reg ?_
                        refine TL.p (C := cx) (gc := true) (p_mv rfl) rfl rfl ?_
                        refine TL.nil ?_
                        refine hK157 _ _ ?_
                        refine TK.ret ?_
                        obtain rfl := hR133 _ (some_in hX).symm
                        replace hX := hA133
                        obtain rfl := hR88 _ (some_in hX).symm
                        replace hX := hA88
                        try dsimp only [thenQ]
                        exact ret1 (v := Enc.v (false : Bool)) rfl (by obtain rfl := some_in hX; rfl) (v_val _)
                      · have hX := ite_f hc hX
                        refine TK.skip ?_
                        refine hK153 _ _ ?_
                        refine TK.reg ?_
                        refine TL.p (C := cx) (gc := true) (p_mv rfl) rfl rfl ?_
                        refine TL.p (C := cx) (gc := true) (p_add rfl rfl) rfl rfl ?_
                        refine TL.p (C := cx) (gc := true) (p_mv rfl) rfl rfl ?_
                        refine TL.nil ?_
                        exact ⟨_, (some_in hX).symm, b136, b137, b138, b135, b139, b140, pre141, b134, rfl, (Nd.pick nd (is := [0, 1, 2, 3, 4, 5, 6]) (by decide)), (HSub.pick nd (is := [0, 1, 2, 3, 4, 5, 6]) (by decide))⟩
                    · have hX := ite_f hc hX
                      refine TK.exit ?_
                      obtain rfl := hR133 _ (some_in hX).symm
                      exact E133 _ _ ⟨b136, b137, b138, b135, b139, b140, pre141, b134, rfl, (Nd.pick nd (is := [0, 1, 2, 3, 4, 5, 6]) (by decide)), (HSub.pick nd (is := [0, 1, 2, 3, 4, 5, 6]) (by decide))⟩ hA133
                refine TK.seq_k fun K158 hK158 => ?_
                refine TK.reg ?_
                refine TL.p (C := cx) (gc := true) (p_faV fs76_0 (by decide) rfl nd (j := 0) rfl rfl) rfl rfl ?_
                refine TL.p (C := cx) (gc := true) (p_ldV (v := Enc.v (e108.Way : Int)) ty3 rfl rfl nd (j := 0) rfl rfl rfl rfl rfl) rfl rfl ?_
                refine TL.nil ?_
                refine hK158 _ _ ?_
                refine TK.block ?_
                refine TK.seq_k fun K159 hK159 => ?_
                refine TK.reg ?_
                refine TL.p (C := cx) (gc := true) (p_eql rfl rfl) rfl rfl ?_
                refine TL.p (C := cx) (gc := true) (p_mv rfl) rfl rfl ?_
                refine TL.nil ?_
                refine hK159 _ _ ?_
                refine TK.cond (b := (e108.Way == (0 : Int))) rfl (fun hc => ?_) (fun hc => ?_)
                · have hX := ite_t hc hX
                  refine TK.seq_k fun K160 hK160 => ?_
                  refine TK.pick [1, 2, 3, 4, 5, 6, 7, 0] nd (by decide) fun nd => ?_
                  have ndS : Nd [(b109, RV 76 [Enc.v (e108.Way : Int), Enc.v (e108.N : Int), Enc.v (e108.Fail : Bool), Enc.v (e108.Labels : (List Int))])] := Nd.pick nd (is := [7]) (by decide)
                  refine TK.drwX (h := [(b91, RL (α := Int) 3 l92), (b93, RL (α := Int) 3 l94), (b95, RL (α := Int) 3 l96), (b90, RV 118 [OL (α := Int) b91 l92, OL (α := Int) b93 l94, OL (α := Int) b95 l96]), (b97, RL (α := Int) 3 l98), (b99, RL (α := Int) 3 (pre100 ++ l101)), (b89, RV 84 [.ref b90 0 3, OL (α := Int) b97 l98, OQ (α := Int) b99 pre100 l101])]) (hS := [(b109, RV 76 [Enc.v (e108.Way : Int), Enc.v (e108.N : Int), Enc.v (e108.Fail : Bool), Enc.v (e108.Labels : (List Int))])]) [(0, 0), (0, 1), (0, 2), (0, 3), (0, 4), (0, 5), (0, 6), (0, 7), (2, 8), (0, 9)] mixed (by kernel_rfl) (HSub_app nd) ?_
                  refine DR0 (gc := true) rfl (vok_p (C := cx) (p_mv rfl)) rfl rfl ?_
                  refine DR0 (gc := true) rfl (vok_p (C := cx) (p_faV fs76_1 (by decide) rfl ndS (j := 0) rfl rfl)) rfl rfl ?_
                  refine DR0 (gc := true) rfl (vok_p (C := cx) (p_ldV (v := Enc.v (e108.N : Int)) ty3 rfl rfl ndS (j := 0) rfl rfl rfl rfl rfl)) rfl rfl ?_
                  obtain ⟨r161, hr161, hX⟩ := bind_some hX
                  refine DR0 (gc := true) rfl (vok_c rfl (fun _ => ⟨rfl, ⟨rfl, ⟨rfl, trivial⟩⟩⟩) (fun e => ok_robot_Robot_Ask_nil e108.N _ hr161)) rfl rfl ?_
                  obtain ⟨r162, hr162, hX⟩ := bind_some hX
                  refine DR0 (gc := true) rfl (vok_c rfl (fun _ => ⟨rfl, ⟨rfl, trivial⟩⟩) (fun e => ok_cartridgelaw24_num r161 _ hr162)) rfl rfl ?_
                  refine DR0 (gc := true) rfl (vok_p (C := cx) (p_mv rfl)) rfl rfl ?_
                  refine DR0 (gc := true) rfl (vok_p (C := cx) (p_faV fs76_1 (by decide) rfl ndS (j := 0) rfl rfl)) rfl rfl ?_
                  refine DR0 (gc := true) rfl (vok_p (C := cx) (p_ldV (v := Enc.v (e108.N : Int)) ty3 rfl rfl ndS (j := 0) rfl rfl rfl rfl rfl)) rfl rfl ?_
                  obtain ⟨r163, hr163, hX⟩ := bind_some hX
                  refine DR2 rfl rfl ?_
                  refine TL.pick [6, 3, 0, 1, 2, 4, 5, 7] nd (by decide) fun nd => ?_
                  refine TL.tcX [(b89, RV 84 [.ref b90 0 3, OL (α := Int) b97 l98, OQ (α := Int) b99 pre100 l101]), (b90, RV 118 [OL (α := Int) b91 l92, OL (α := Int) b93 l94, OL (α := Int) b95 l96]), (b91, RL (α := Int) 3 l92), (b93, RL (α := Int) 3 l94), (b95, RL (α := Int) 3 l96), (b97, RL (α := Int) 3 l98), (b99, RL (α := Int) 3 (pre100 ++ l101))] [(b109, RV 76 [Enc.v (e108.Way : Int), Enc.v (e108.N : Int), Enc.v (e108.Fail : Bool), Enc.v (e108.Labels : (List Int))])] rfl nd (dlt rfl) rfl ⟨rfl, ⟨rfl, ⟨rfl, trivial⟩⟩⟩ (ok_cartridgeref22_Robot_Ask e108.N l92 l94 l96 l98 l101 b89 b90 b91 b93 b95 b97 b99 pre100 (Nd.take nd 7 rfl) _ hr163) ?_
                  rintro _ _ hQ nd
                  obtain ⟨b165, b166, b167, b168, b169, b170, pre171, rfl, rfl⟩ := hQ
                  refine TL.nil ⟨_, [(b89, RV 84 [.ref b165 0 3, OL (α := Int) b169 r163.2.2.2.2.1, OQ (α := Int) b170 pre171 r163.2.2.2.2.2]), (b165, RV 118 [OL (α := Int) b166 r163.2.1, OL (α := Int) b167 r163.2.2.1, OL (α := Int) b168 r163.2.2.2.1]), (b166, RL (α := Int) 3 r163.2.1), (b167, RL (α := Int) 3 r163.2.2.1), (b168, RL (α := Int) 3 r163.2.2.2.1), (b169, RL (α := Int) 3 r163.2.2.2.2.1), (b170, RL (α := Int) 3 (pre171 ++ r163.2.2.2.2.2))], rfl, rfl, HSub_app nd, ?_⟩
                  refine DR0 (gc := true) rfl (vok_p (C := cx) (p_neq rfl rfl)) rfl rfl ?_
                  refine DRend ?_
                  refine hK160 _ _ ?_
                  refine TK.cond (b := (r162 != r163.1)) rfl (fun hc => ?_) (fun hc => ?_)
                  · have hX := ite_t hc hX
                    refine TK.seq_k fun K172 hK172 => ?_
                    refine TK.reg ?_
                    refine TL.p (C := cx) (gc := true) (p_mv rfl) rfl rfl ?_
                    refine TL.nil ?_
                    refine hK172 _ _ ?_
                    refine TK.ret ?_
                    obtain rfl := hR88 _ (some_in hX).symm
                    replace hX := hA88
                    try dsimp only [thenQ]
                    exact ret1 (v := Enc.v (false : Bool)) rfl (by obtain rfl := some_in hX; rfl) (v_val _)
                  · have hX := ite_f hc hX
                    refine TK.skip ?_
                    exact J113 r163.2.1 r163.2.2.1 r163.2.2.2.1 r163.2.2.2.2.1 r163.2.2.2.2.2 _ _ ⟨b166, b167, b168, b165, b169, b170, pre171, b89, rfl, (Nd.pick nd (is := [2, 3, 4, 1, 5, 6, 0]) (by decide)), (HSub.pick nd (is := [2, 3, 4, 1, 5, 6, 0]) (by decide))⟩ hX
                · have hX := ite_f hc hX
                  refine TK.seq_k fun K173 hK173 => ?_
                  refine TK.reg ?_
                  refine TL.p (C := cx) (gc := true) (p_eql rfl rfl) rfl rfl ?_
                  refine TL.p (C := cx) (gc := true) (p_mv rfl) rfl rfl ?_
                  refine TL.nil ?_
                  refine hK173 _ _ ?_
                  refine TK.cond (b := (e108.Way == (1 : Int))) rfl (fun hc => ?_) (fun hc => ?_)
                  · have hX := ite_t hc hX
                    refine TK.seq_k fun K174 hK174 => ?_
                    refine TK.pick [1, 2, 3, 4, 5, 6, 7, 0] nd (by decide) fun nd => ?_
                    have ndS : Nd [(b109, RV 76 [Enc.v (e108.Way : Int), Enc.v (e108.N : Int), Enc.v (e108.Fail : Bool), Enc.v (e108.Labels : (List Int))])] := Nd.pick nd (is := [7]) (by decide)
                    refine TK.drwX (h := [(b91, RL (α := Int) 3 l92), (b93, RL (α := Int) 3 l94), (b95, RL (α := Int) 3 l96), (b90, RV 118 [OL (α := Int) b91 l92, OL (α := Int) b93 l94, OL (α := Int) b95 l96]), (b97, RL (α := Int) 3 l98), (b99, RL (α := Int) 3 (pre100 ++ l101)), (b89, RV 84 [.ref b90 0 3, OL (α := Int) b97 l98, OQ (α := Int) b99 pre100 l101])]) (hS := [(b109, RV 76 [Enc.v (e108.Way : Int), Enc.v (e108.N : Int), Enc.v (e108.Fail : Bool), Enc.v (e108.Labels : (List Int))])]) [(0, 0), (0, 1), (0, 2), (0, 3), (0, 4), (0, 5), (0, 6), (2, 7), (0, 8)] mixed (by kernel_rfl) (HSub_app nd) ?_
                    refine DR0 (gc := true) rfl (vok_p (C := cx) (p_mv rfl)) rfl rfl ?_
                    refine DR0 (gc := true) rfl (vok_p (C := cx) (p_faV fs76_2 (by decide) rfl ndS (j := 0) rfl rfl)) rfl rfl ?_
                    refine DR0 (gc := true) rfl (vok_p (C := cx) (p_ldV (v := Enc.v (e108.Fail : Bool)) ty4 rfl rfl ndS (j := 0) rfl rfl rfl rfl rfl)) rfl rfl ?_
                    obtain ⟨r175, hr175, hX⟩ := bind_some hX
                    refine DR0 (gc := true) rfl (vok_c rfl (fun _ => ⟨rfl, ⟨rfl, ⟨rfl, trivial⟩⟩⟩) (fun e => ok_robot_Robot_Step_nil e108.Fail _ hr175)) rfl rfl ?_
                    refine DR0 (gc := true) rfl (vok_p (C := cx) (p_mv rfl)) rfl rfl ?_
                    refine DR0 (gc := true) rfl (vok_p (C := cx) (p_faV fs76_2 (by decide) rfl ndS (j := 0) rfl rfl)) rfl rfl ?_
                    refine DR0 (gc := true) rfl (vok_p (C := cx) (p_ldV (v := Enc.v (e108.Fail : Bool)) ty4 rfl rfl ndS (j := 0) rfl rfl rfl rfl rfl)) rfl rfl ?_
                    obtain ⟨r176, hr176, hX⟩ := bind_some hX
                    refine DR2 rfl rfl ?_
                    refine TL.pick [6, 3, 0, 1, 2, 4, 5, 7] nd (by decide) fun nd => ?_
                    refine TL.tcX [(b89, RV 84 [.ref b90 0 3, OL (α := Int) b97 l98, OQ (α := Int) b99 pre100 l101]), (b90, RV 118 [OL (α := Int) b91 l92, OL (α := Int) b93 l94, OL (α := Int) b95 l96]), (b91, RL (α := Int) 3 l92), (b93, RL (α := Int) 3 l94), (b95, RL (α := Int) 3 l96), (b97, RL (α := Int) 3 l98), (b99, RL (α := Int) 3 (pre100 ++ l101))] [(b109, RV 76 [Enc.v (e108.Way : Int), Enc.v (e108.N : Int), Enc.v (e108.Fail : Bool), Enc.v (e108.Labels : (List Int))])] rfl nd (dlt rfl) rfl ⟨rfl, ⟨rfl, ⟨rfl, trivial⟩⟩⟩ (ok_cartridgeref22_Robot_Step e108.Fail l92 l94 l96 l98 l101 b89 b90 b91 b93 b95 b97 b99 pre100 (Nd.take nd 7 rfl) _ hr176) ?_
                    rintro _ _ hQ nd
                    obtain ⟨b178, b179, b180, b181, b182, b183, pre184, rfl, rfl⟩ := hQ
                    refine TL.nil ⟨_, [(b89, RV 84 [.ref b178 0 3, OL (α := Int) b182 r176.2.2.2.2.1, OQ (α := Int) b183 pre184 r176.2.2.2.2.2]), (b178, RV 118 [OL (α := Int) b179 r176.2.1, OL (α := Int) b180 r176.2.2.1, OL (α := Int) b181 r176.2.2.2.1]), (b179, RL (α := Int) 3 r176.2.1), (b180, RL (α := Int) 3 r176.2.2.1), (b181, RL (α := Int) 3 r176.2.2.2.1), (b182, RL (α := Int) 3 r176.2.2.2.2.1), (b183, RL (α := Int) 3 (pre184 ++ r176.2.2.2.2.2))], rfl, rfl, HSub_app nd, ?_⟩
                    refine DR0 (gc := true) rfl (vok_p (C := cx) (p_neB kd4 rfl rfl)) rfl rfl ?_
                    refine DRend ?_
                    refine hK174 _ _ ?_
                    refine TK.cond (b := (r175 != r176.1)) rfl (fun hc => ?_) (fun hc => ?_)
                    · have hX := ite_t hc hX
                      refine TK.seq_k fun K185 hK185 => ?_
                      refine TK.reg ?_
                      refine TL.p (C := cx) (gc := true) (p_mv rfl) rfl rfl ?_
                      refine TL.nil ?_
                      refine hK185 _ _ ?_
                      refine TK.ret ?_
                      obtain rfl := hR88 _ (some_in hX).symm
                      replace hX := hA88
                      try dsimp only [thenQ]
                      exact ret1 (v := Enc.v (false : Bool)) rfl (by obtain rfl := some_in hX; rfl) (v_val _)
                    · have hX := ite_f hc hX
                      refine TK.skip ?_
                      exact J113 r176.2.1 r176.2.2.1 r176.2.2.2.1 r176.2.2.2.2.1 r176.2.2.2.2.2 _ _ ⟨b179, b180, b181, b178, b182, b183, pre184, b89, rfl, (Nd.pick nd (is := [2, 3, 4, 1, 5, 6, 0]) (by decide)), (HSub.pick nd (is := [2, 3, 4, 1, 5, 6, 0]) (by decide))⟩ hX
                  · have hX := ite_f hc hX
                    refine TK.seq_k fun K186 hK186 => ?_
                    refine TK.reg ?_
                    refine TL.p (C := cx) (gc := true) (p_eql rfl rfl) rfl rfl ?_
                    refine TL.p (C := cx) (gc := true) (p_mv rfl) rfl rfl ?_
                    refine TL.nil ?_
                    refine hK186 _ _ ?_
                    refine TK.cond (b := (e108.Way == (2 : Int))) rfl (fun hc => ?_) (fun hc => ?_)
                    · have hX := ite_t hc hX
                      refine TK.seq_k fun K187 hK187 => ?_
                      have ndS : Nd [(b109, RV 76 [Enc.v (e108.Way : Int), Enc.v (e108.N : Int), Enc.v (e108.Fail : Bool), Enc.v (e108.Labels : (List Int))]), (b91, RL (α := Int) 3 l92), (b93, RL (α := Int) 3 l94), (b95, RL (α := Int) 3 l96), (b90, RV 118 [OL (α := Int) b91 l92, OL (α := Int) b93 l94, OL (α := Int) b95 l96]), (b97, RL (α := Int) 3 l98), (b99, RL (α := Int) 3 (pre100 ++ l101)), (b89, RV 84 [.ref b90 0 3, OL (α := Int) b97 l98, OQ (α := Int) b99 pre100 l101])] := Nd.pick nd (is := [0, 1, 2, 3, 4, 5, 6, 7]) (by decide)
                      refine TK.drwX (h := []) (hS := [(b109, RV 76 [Enc.v (e108.Way : Int), Enc.v (e108.N : Int), Enc.v (e108.Fail : Bool), Enc.v (e108.Labels : (List Int))]), (b91, RL (α := Int) 3 l92), (b93, RL (α := Int) 3 l94), (b95, RL (α := Int) 3 l96), (b90, RV 118 [OL (α := Int) b91 l92, OL (α := Int) b93 l94, OL (α := Int) b95 l96]), (b97, RL (α := Int) 3 l98), (b99, RL (α := Int) 3 (pre100 ++ l101)), (b89, RV 84 [.ref b90 0 3, OL (α := Int) b97 l98, OQ (α := Int) b99 pre100 l101])]) [(0, 0), (0, 1), (0, 2), (0, 3), (0, 4), (0, 5), (0, 6), (0, 7), (0, 8), (0, 9), (0, 10), (0, 11)] mixed (by kernel_rfl) (HSub_app nd) ?_
                      refine DR0 (gc := true) rfl (vok_p (C := cx) (p_mv rfl)) rfl rfl ?_
                      refine DR0 (gc := true) rfl (vok_p (C := cx) (p_faV fs76_3 (by decide) rfl ndS (j := 0) rfl rfl)) rfl rfl ?_
                      refine DR0 (gc := true) rfl (vok_p (C := cx) (p_ldV (v := Enc.v (e108.Labels : (List Int))) ty46 rfl rfl ndS (j := 0) rfl rfl rfl rfl rfl)) rfl rfl ?_
                      obtain ⟨u188, hu188, hX⟩ := bind_some hX
                      refine DR0 (gc := true) rfl (vok_appV (C := cx) kd46 bo46 ty3 rfl rfl rfl (Src_L _) (by decide) (need_t hu188)) rfl rfl ?_
                      refine DR0 (gc := true) rfl (vok_p (C := cx) (p_faV fs76_1 (by decide) rfl ndS (j := 0) rfl rfl)) rfl rfl ?_
                      refine DR0 (gc := true) rfl (vok_p (C := cx) (p_ldV (v := Enc.v (e108.N : Int)) ty3 rfl rfl ndS (j := 0) rfl rfl rfl rfl rfl)) rfl rfl ?_
                      obtain ⟨r189, hr189, hX⟩ := bind_some hX
                      refine DR0 (gc := true) rfl (vok_c rfl (fun _ => ⟨rfl, ⟨rfl, ⟨rfl, ⟨rfl, trivial⟩⟩⟩⟩) (fun e => ok_robot_Robot_Serve_nil e108.Labels e108.N _ hr189)) rfl rfl ?_
                      refine DR0 (gc := true) rfl (vok_p (C := cx) (p_mv rfl)) rfl rfl ?_
                      refine DR0 (gc := true) rfl (vok_p (C := cx) (p_ex rfl rfl (by decide))) rfl rfl ?_
                      refine DR0 (gc := true) rfl (vok_p (C := cx) (p_ex rfl rfl (by decide))) rfl rfl ?_
                      refine DR0 (gc := true) rfl (vok_p (C := cx) (p_mv rfl)) rfl rfl ?_
                      refine DR0 (gc := true) rfl (vok_p (C := cx) (p_mv rfl)) rfl rfl ?_
                      refine DRend ?_
                      refine hK187 _ _ ?_
                      refine TK.seq_k fun K190 hK190 => ?_
                      refine TK.reg ?_
                      refine TL.p (C := cx) (gc := true) (p_mv rfl) rfl rfl ?_
                      refine TL.p (C := cx) (gc := true) (p_faV fs76_3 (by decide) rfl nd (j := 0) rfl rfl) rfl rfl ?_
                      refine TL.p (C := cx) (gc := true) (p_ldV (v := Enc.v (e108.Labels : (List Int))) ty46 rfl rfl nd (j := 0) rfl rfl rfl rfl rfl) rfl rfl ?_
                      refine TL.p (C := cx) (gc := true) (p_faV fs76_1 (by decide) rfl nd (j := 0) rfl rfl) rfl rfl ?_
                      refine TL.p (C := cx) (gc := true) (p_ldV (v := Enc.v (e108.N : Int)) ty3 rfl rfl nd (j := 0) rfl rfl rfl rfl rfl) rfl rfl ?_
                      obtain ⟨r191, hr191, hX⟩ := bind_some hX
                      refine TL.pick [7, 4, 1, 2, 3, 5, 6, 0] nd (by decide) fun nd => ?_
                      refine TL.tcX [(b89, RV 84 [.ref b90 0 3, OL (α := Int) b97 l98, OQ (α := Int) b99 pre100 l101]), (b90, RV 118 [OL (α := Int) b91 l92, OL (α := Int) b93 l94, OL (α := Int) b95 l96]), (b91, RL (α := Int) 3 l92), (b93, RL (α := Int) 3 l94), (b95, RL (α := Int) 3 l96), (b97, RL (α := Int) 3 l98), (b99, RL (α := Int) 3 (pre100 ++ l101))] [(b109, RV 76 [Enc.v (e108.Way : Int), Enc.v (e108.N : Int), Enc.v (e108.Fail : Bool), Enc.v (e108.Labels : (List Int))])] rfl nd (dlt rfl) rfl ⟨rfl, ⟨rfl, ⟨rfl, ⟨rfl, trivial⟩⟩⟩⟩ (ok_cartridgeref22_Robot_Serve e108.Labels e108.N l92 l94 l96 l98 l101 b89 b90 b91 b93 b95 b97 b99 pre100 (Nd.take nd 7 rfl) _ hr191) ?_
                      rintro _ _ hQ nd
                      obtain ⟨b193, b194, b195, b196, b197, b198, pre199, rfl, rfl⟩ := hQ
                      refine TL.p (C := cx) (gc := true) (p_mv rfl) rfl rfl ?_
                      refine TL.p (C := cx) (gc := true) (p_ex rfl rfl (by decide)) rfl rfl ?_
                      refine TL.p (C := cx) (gc := true) (p_ex rfl rfl (by decide)) rfl rfl ?_
                      refine TL.p (C := cx) (gc := true) (p_mv rfl) rfl rfl ?_
                      refine TL.p (C := cx) (gc := true) (p_mv rfl) rfl rfl ?_
                      refine TL.nil ?_
                      refine hK190 _ _ ?_
                      refine TK.seq_k fun K200 hK200 => ?_
                      refine TK.reg ?_
                      refine TL.p (C := cx) (gc := true) (p_mv rfl) rfl rfl ?_
                      refine TL.p (C := cx) (gc := true) (p_mv rfl) rfl rfl ?_
                      refine TL.p (C := cx) (gc := true) (p_neq rfl rfl) rfl rfl ?_
                      refine TL.p (C := cx) (gc := true) (p_mv rfl) rfl rfl ?_
                      refine TL.p (C := cx) (gc := (!((r189.1 != r191.1)))) (p_mv rfl (hg := fun e => rfl)) (gcF1 rfl) rfl ?_
                      obtain ⟨r201, hr201, hX⟩ := bind_some hX
                      refine TL.cvX (gcF1 rfl) rfl rfl (fun e => ⟨rfl, ⟨e, trivial⟩⟩) (fun e => ok_cartridgelaw24_num r189.2 _ (optG_t hr201 e)) ?_
                      refine TL.p (C := cx) (gc := (!((r189.1 != r191.1)))) (p_mv rfl (hg := fun e => rfl)) (gcF1 rfl) rfl ?_
                      refine TL.p (C := cx) (gc := (!((r189.1 != r191.1)))) (p_neq rfl rfl (hg := fun e => ⟨e, e⟩)) (gcF1 rfl) rfl ?_
                      refine TL.p (C := cx) (gc := true) (p_or rfl rfl (fun e => ⟨rfl, fun h => (not_t h)⟩)) rfl rfl ?_
                      refine TL.nil ?_
                      refine hK200 _ _ ?_
                      refine TK.cond (b := ((r189.1 != r191.1) || (r201 != r191.2.1))) rfl (fun hc => ?_) (fun hc => ?_)
                      · have hX := ite_t hc hX
                        refine TK.seq_k fun K202 hK202 => ?_
                        refine TK.reg ?_
                        refine TL.p (C := cx) (gc := true) (p_mv rfl) rfl rfl ?_
                        refine TL.nil ?_
                        refine hK202 _ _ ?_
                        refine TK.ret ?_
                        obtain rfl := hR88 _ (some_in hX).symm
                        replace hX := hA88
                        try dsimp only [thenQ]
                        exact ret1 (v := Enc.v (false : Bool)) rfl (by obtain rfl := some_in hX; rfl) (v_val _)
                      · have hX := ite_f hc hX
                        refine TK.skip ?_
                        exact J113 r191.2.2.1 r191.2.2.2.1 r191.2.2.2.2.1 r191.2.2.2.2.2.1 r191.2.2.2.2.2.2 _ _ ⟨b194, b195, b196, b193, b197, b198, pre199, b89, rfl, (Nd.pick nd (is := [2, 3, 4, 1, 5, 6, 0]) (by decide)), (HSub.pick nd (is := [2, 3, 4, 1, 5, 6, 0]) (by decide))⟩ hX
                    · have hX := ite_f hc hX
                      refine TK.skip ?_
                      exact J113 l92 l94 l96 l98 l101 _ _ ⟨b91, b93, b95, b90, b97, b99, pre100, b89, rfl, (Nd.pick nd (is := [1, 2, 3, 4, 5, 6, 7]) (by decide)), (HSub.pick nd (is := [1, 2, 3, 4, 5, 6, 7]) (by decide))⟩ hX
            · have hX := ite_f hc hX
              refine TK.exit ?_
              obtain rfl := hR88 _ (some_in hX).symm
              exact E88 _ _ ⟨(), rfl, (Nd.pick nd (is := []) (by decide)), (HSub.pick nd (is := []) (by decide))⟩ hA88
    | some o203 =>
      simp only [hqr13] at hQ hX
      obtain ⟨b204, b205, b206, b207, b208, pre209, rfl, rfl⟩ := hQ
      refine TL.p (C := cx) (gc := true) (p_mv rfl) rfl rfl ?_
      refine TL.p (C := cx) (gc := true) (p_ex rfl rfl (by decide)) rfl rfl ?_
      refine TL.p (C := cx) (gc := true) (p_ex rfl rfl (by decide)) rfl rfl ?_
      refine TL.p (C := cx) (gc := true) (p_mv rfl) rfl rfl ?_
      refine TL.p (C := cx) (gc := true) (p_mv rfl) rfl rfl ?_
      refine TL.nil ?_
      refine hK10 _ _ ?_
      refine TK.seq_k fun K210 hK210 => ?_
      refine TK.reg ?_
      refine TL.p (C := cx) (gc := true) (p_mv rfl) rfl rfl ?_
      refine TL.p (C := cx) (gc := true) (p_mv rfl) rfl rfl ?_
      obtain ⟨r211, hr211, hX⟩ := bind_some hX
      refine TL.tcX [] [(b204, RV 109 [.ref b205 0 2, Enc.v (o203.2.2.1 : Int), Enc.v (o203.2.2.2.1 : (List Int)), OL (α := Int) b207 o203.2.2.2.2.1, OQ (α := Int) b208 pre209 o203.2.2.2.2.2]), (b205, RV 127 [Enc.v (o203.1 : (List Int)), OL (α := Int) b206 o203.2.1]), (b206, RL (α := Int) 3 o203.2.1), (b207, RL (α := Int) 3 o203.2.2.2.2.1), (b208, RL (α := Int) 3 (pre209 ++ o203.2.2.2.2.2))] rfl nd (dlt rfl) rfl ⟨rfl, ⟨rfl, ⟨rfl, trivial⟩⟩⟩ (ok_cartridgeref22_NewRobot labels1 drives2 (Nd.take nd 0 rfl) _ hr211) ?_
      rintro _ _ hQ nd
      cases hqr211 : r211.1 with
      | none =>
        simp only [hqr211] at hQ hX
        obtain ⟨rfl, rfl⟩ := hQ
        refine TL.p (C := cx) (gc := true) (p_mv rfl) rfl rfl ?_
        refine TL.p (C := cx) (gc := true) (p_ex rfl rfl (by decide)) rfl rfl ?_
        refine TL.p (C := cx) (gc := true) (p_ex rfl rfl (by decide)) rfl rfl ?_
        refine TL.p (C := cx) (gc := true) (p_mv rfl) rfl rfl ?_
        refine TL.p (C := cx) (gc := true) (p_mv rfl) rfl rfl ?_
        refine TL.nil ?_
        refine hK210 _ _ ?_
        refine TK.seq_k fun K212 hK212 => ?_
        refine TK.seq_k fun K213 hK213 => ?_
        refine TK.reg ?_
        refine TL.p (C := cx) (gc := true) (p_mv rfl) rfl rfl ?_
        obtain ⟨r214, hr214, hX⟩ := bind_some hX
        refine TL.cvX rfl rfl rfl (fun _ => ⟨rfl, ⟨rfl, trivial⟩⟩) (fun e => ok_cartridgelaw24_num r13.2 _ hr214) ?_
        refine TL.p (C := cx) (gc := true) (p_mv rfl) rfl rfl ?_
        refine TL.p (C := cx) (gc := true) (p_neq rfl rfl) rfl rfl ?_
        refine TL.p (C := cx) (gc := true) (p_mv rfl) rfl rfl ?_
        refine TL.p (C := cx) (gc := (!((r214 != r211.2)))) (p_mv rfl (hg := fun e => rfl)) (gcF1 rfl) rfl ?_
        refine TL.p (C := cx) (gc := (!((r214 != r211.2)))) (p_eqP kd64 rfl rfl (fun _ => refOK_of nd (j := 0) rfl rfl) (hg := fun e => ⟨e, rfl⟩)) (gcF1 rfl) rfl ?_
        refine TL.p (C := cx) (gc := (!((r214 != r211.2)))) (p_mv rfl (hg := fun e => rfl)) (gcF1 rfl) rfl ?_
        refine TL.p (C := cx) (gc := (!((r214 != r211.2)))) (p_neq rfl rfl (hg := fun e => ⟨e, rfl⟩)) (gcF1 rfl) rfl ?_
        refine TL.p (C := cx) (gc := (!((r214 != r211.2)))) (p_neB kd4 rfl rfl (hg := fun e => ⟨e, e⟩)) (gcF1 rfl) rfl ?_
        refine TL.p (C := cx) (gc := true) (p_or rfl rfl (fun e => ⟨rfl, fun h => (not_t h)⟩)) rfl rfl ?_
        refine TL.nil ?_
        refine hK213 _ _ ?_
        refine TK.cond (b := ((r214 != r211.2) || (false != (r211.2 != (0 : Int))))) rfl (fun hc => ?_) (fun hc => ?_)
        · have hX := ite_t hc hX
          refine TK.seq_k fun K215 hK215 => ?_
          refine TK.reg ?_
          refine TL.p (C := cx) (gc := true) (p_mv rfl) rfl rfl ?_
          refine TL.nil ?_
          refine hK215 _ _ ?_
          refine TK.ret ?_
          try dsimp only [thenQ]
          exact ret1 (v := Enc.v (false : Bool)) rfl (by obtain rfl := some_in hX; rfl) (v_val _)
        · have hX := ite_f hc hX
          refine TK.skip ?_
          refine hK212 _ _ ?_
          refine TK.seq_k fun K216 hK216 => ?_
          refine TK.seq_k fun K217 hK217 => ?_
          refine TK.reg ?_
          refine TL.p (C := cx) (gc := true) (p_mv rfl) rfl rfl ?_
          refine TL.p (C := cx) (gc := true) (p_neq rfl rfl) rfl rfl ?_
          refine TL.nil ?_
          refine hK217 _ _ ?_
          refine TK.cond (b := (r211.2 != (0 : Int))) rfl (fun hc => ?_) (fun hc => ?_)
          · have hX := ite_t hc hX
            refine TK.seq_k fun K218 hK218 => ?_
            refine TK.reg ?_
            refine TL.p (C := cx) (gc := true) (p_mv rfl) rfl rfl ?_
            refine TL.nil ?_
            refine hK218 _ _ ?_
            refine TK.ret ?_
            try dsimp only [thenQ]
            exact ret1 (v := Enc.v (true : Bool)) rfl (by obtain rfl := some_in hX; rfl) (v_val _)
          · have hX := ite_f hc hX
            refine TK.skip ?_
            refine hK216 _ _ ?_
            refine TK.seq_k fun K219 hK219 => ?_
            refine TK.seq_k fun K220 hK220 => ?_
            refine TK.reg ?_
            refine TL.p (C := cx) (gc := true) (p_mv rfl) rfl rfl ?_
            refine TL.nil ?_
            refine hK220 _ _ ?_
            refine TK.block ?_
            obtain ⟨o221, hO221, hA221⟩ := bind_some hX
            have E221 : ∀ (env : Env) (h : Hp), (∃ _u : Unit, keepE [] env = [] ∧ Nd [] ∧ HSub [] h) → X.cartridgelaw24_RobotPlays_e221 = some r → K219 env h := by
              intro  env h hE hX
              obtain ⟨_u, henv, nd, hs⟩ := hE
              unfold X.cartridgelaw24_RobotPlays_e221 at hX
              refine hK219 _ _ (TK.keep [] ?_)
              rw [henv]
              refine TK.subH hs ?_
              refine TK.seq_k fun K235 hK235 => ?_
              refine TK.reg ?_
              refine TL.p (C := cx) (gc := true) (p_mv rfl) rfl rfl ?_
              refine TL.nil ?_
              refine hK235 _ _ ?_
              refine TK.ret ?_
              try dsimp only [thenQ]
              exact ret1 (v := Enc.v (true : Bool)) rfl (by obtain rfl := some_in hX; rfl) (v_val _)
            refine TK.iter [1, 2, 8, 10, 12] (fun s env h => match s with | (c224, l226, c227, c228, l230, l233, i234) => ∃ b225 b223 b229 b231 pre232 b222, env = [(1, true, Enc.v (drives2 : Int)), (2, true, Enc.v (l3 : (List Act_law24))), (8, true, .ref b222 0 5), (10, true, .nilp), (12, true, Enc.v (i234 : Int))] ∧ Nd [(b225, RL (α := Int) 3 l226), (b223, RV 127 [Enc.v (c224 : (List Int)), OL (α := Int) b225 l226]), (b229, RL (α := Int) 3 l230), (b231, RL (α := Int) 3 (pre232 ++ l233)), (b222, RV 109 [.ref b223 0 2, Enc.v (c227 : Int), Enc.v (c228 : (List Int)), OL (α := Int) b229 l230, OQ (α := Int) b231 pre232 l233])] ∧ HSub [(b225, RL (α := Int) 3 l226), (b223, RV 127 [Enc.v (c224 : (List Int)), OL (α := Int) b225 l226]), (b229, RL (α := Int) 3 l230), (b231, RL (α := Int) 3 (pre232 ++ l233)), (b222, RV 109 [.ref b223 0 2, Enc.v (c227 : Int), Enc.v (c228 : (List Int)), OL (α := Int) b229 l230, OQ (α := Int) b231 pre232 l233])] h) hO221 ⟨b206, b205, b207, b208, pre209, b204, rfl, (Nd.pick nd (is := [2, 1, 3, 4, 0]) (by decide)), (HSub.pick nd (is := [2, 1, 3, 4, 0]) (by decide))⟩ ?_
            rintro ⟨c224, l226, c227, c228, l230, l233, i234⟩ env h x221x ⟨b225, b223, b229, b231, pre232, b222, rfl, nd, hs⟩ hX hR221
            refine TK.subH hs ?_
            unfold X.cartridgelaw24_RobotPlays_s221 at hX
            try dsimp only at hX
            refine TK.seq_k fun K236 hK236 => ?_
            refine TK.seq_k fun K237 hK237 => ?_
            refine TK.reg ?_
            refine TL.p (C := cx) (gc := true) (p_mv rfl) rfl rfl ?_
            refine TL.p (C := cx) (gc := true) (p_mv rfl) rfl rfl ?_
            refine TL.p (C := cx) (gc := true) (p_lenL (xs := l3) kd71 rfl) rfl rfl ?_
            refine TL.p (C := cx) (gc := true) (p_lss rfl rfl) rfl rfl ?_
            refine TL.nil ?_
            refine hK237 _ _ ?_
            refine TK.cond (b := (decide (i234 < (l3.length : Int)))) rfl (fun hc => ?_) (fun hc => ?_)
            · have hX := ite_t hc hX
              refine TK.skip ?_
              refine hK236 _ _ ?_
              refine TK.seq_k fun K238 hK238 => ?_
              refine TK.block ?_
              refine TK.seq_k fun K239 hK239 => ?_
              refine TK.reg ?_
              refine TL.p (C := cx) (gc := true) (p_mv rfl) rfl rfl ?_
              refine TL.p (C := cx) (gc := true) (p_mv rfl) rfl rfl ?_
              obtain ⟨e240, he240, hX⟩ := bind_some hX
              refine TL.p (C := cx) (gc := true) (p_iaL (xs := l3) kd71 ty76 rfl rfl rfl (fun _ => he240)) rfl rfl ?_
              refine TL.p (C := cx) (gc := true) (p_ldE (xs := l3) (a := e240) (e240 : Act_law24) ty76 rfl rfl (fun _ => he240) rfl rfl rfl) rfl rfl ?_
              refine TL.alO (C := cx) (l := [Enc.v ((0 : Int) : Int), Enc.v ((0 : Int) : Int), Enc.v (false : Bool), .nils]) nd ty76 ti76_z rfl rfl fun b241 nd => ?_
              refine TL.stV (C := cx) (lu := Enc.cl (e240 : Act_law24)) nd ty76 rfl (j := 0) rfl rfl rfl (Cells_v (e240 : Act_law24)) rfl rfl [Enc.v (e240.Way : Int), Enc.v (e240.N : Int), Enc.v (e240.Fail : Bool), Enc.v (e240.Labels : (List Int))] rfl fun nd => ?_
              refine TL.nil ?_
              refine hK239 _ _ ?_
              refine TK.seq_k fun K242 hK242 => ?_
              refine TK.seq_k fun K243 hK243 => ?_
              refine TK.reg ?_
              refine TL.p (C := cx) (gc := true) (p_faV fs76_3 (by decide) rfl nd (j := 0) rfl rfl) rfl rfl ?_
              refine TL.p (C := cx) (gc := true) (p_ldV (v := Enc.v (e240.Labels : (List Int))) ty46 rfl rfl nd (j := 0) rfl rfl rfl rfl rfl) rfl rfl ?_
              refine TL.p (C := cx) (gc := true) (p_lenL (xs := e240.Labels) kd46 rfl) rfl rfl ?_
              refine TL.p (C := cx) (gc := true) (p_gtr rfl rfl) rfl rfl ?_
              refine TL.nil ?_
              refine hK243 _ _ ?_
              refine TK.cond (b := (decide ((e240.Labels.length : Int) > (40 : Int)))) rfl (fun hc => ?_) (fun hc => ?_)
              · have hX := ite_t hc hX
                refine TK.seq_k fun K244 hK244 => ?_
                refine TK.reg ?_
                refine TL.p (C := cx) (gc := true) (p_mv rfl) rfl rfl ?_
                refine TL.nil ?_
                refine hK244 _ _ ?_
                refine TK.ret ?_
                obtain rfl := hR221 _ (some_in hX).symm
                replace hX := hA221
                try dsimp only [thenQ]
                exact ret1 (v := Enc.v (true : Bool)) rfl (by obtain rfl := some_in hX; rfl) (v_val _)
              · have hX := ite_f hc hX
                refine TK.skip ?_
                refine hK242 _ _ ?_
                refine TK.seq_k fun K245 hK245 => ?_
                have J245 : ∀ (c248 : (List Int)) (l250 : List Int) (c251 : Int) (c252 : (List Int)) (l254 : List Int) (l257 : List Int) (env : Env) (h : Hp), (∃ b249 b247 b253 b255 pre256 b246, keepE [1, 2, 8, 10, 12] env = [(1, true, Enc.v (drives2 : Int)), (2, true, Enc.v (l3 : (List Act_law24))), (8, true, .ref b246 0 5), (10, true, .nilp), (12, true, Enc.v (i234 : Int))] ∧ Nd [(b249, RL (α := Int) 3 l250), (b247, RV 127 [Enc.v (c248 : (List Int)), OL (α := Int) b249 l250]), (b253, RL (α := Int) 3 l254), (b255, RL (α := Int) 3 (pre256 ++ l257)), (b246, RV 109 [.ref b247 0 2, Enc.v (c251 : Int), Enc.v (c252 : (List Int)), OL (α := Int) b253 l254, OQ (α := Int) b255 pre256 l257])] ∧ HSub [(b249, RL (α := Int) 3 l250), (b247, RV 127 [Enc.v (c248 : (List Int)), OL (α := Int) b249 l250]), (b253, RL (α := Int) 3 l254), (b255, RL (α := Int) 3 (pre256 ++ l257)), (b246, RV 109 [.ref b247 0 2, Enc.v (c251 : Int), Enc.v (c252 : (List Int)), OL (α := Int) b253 l254, OQ (α := Int) b255 pre256 l257])] h) → X.cartridgelaw24_RobotPlays_j245 drives2 i234 c248 l250 c251 c252 l254 l257 = some x221x → K245 env h := by
                  intro c248 l250 c251 c252 l254 l257 env h hE hX
                  obtain ⟨b249, b247, b253, b255, pre256, b246, henv, nd, hs⟩ := hE
                  unfold X.cartridgelaw24_RobotPlays_j245 at hX
                  refine hK245 _ _ (TK.keep [1, 2, 8, 10, 12] ?_)
                  rw [henv]
                  refine TK.subH hs ?_
                  refine TK.seq_k fun K258 hK258 => ?_
                  refine TK.seq_k fun K259 hK259 => ?_
                  refine TK.reg ?_
                  refine TL.p (C := cx) (gc := true) (p_mv rfl) rfl rfl ?_
                  obtain ⟨r260, hr260, hX⟩ := bind_some hX
                  refine TL.lookX [.vref (ofL [.vref (ofL [Enc.v (c248 : (List Int)), Enc.v (l250 : (List Int))]) 2 0, Enc.v (c251 : Int), Enc.v (c252 : (List Int)), Enc.v (l254 : (List Int)), Enc.v (l257 : (List Int))]) 5 0] rfl rfl rfl (fun _ => ⟨rfl, ⟨rfl, trivial⟩⟩) ⟨look_ref (l := [.ref b247 0 2, Enc.v (c251 : Int), Enc.v (c252 : (List Int)), OL (α := Int) b253 l254, OQ (α := Int) b255 pre256 l257]) nd (j := 4) rfl ⟨look_ref (l := [Enc.v (c248 : (List Int)), OL (α := Int) b249 l250]) nd (j := 1) rfl ⟨look_v (v := Enc.v (c248 : (List Int))) (v_val _), look_OL nd (j := 0) rfl, trivial⟩, look_v (v := Enc.v (c251 : Int)) (v_val _), look_v (v := Enc.v (c252 : (List Int))) (v_val _), look_OL nd (j := 2) rfl, look_OQ nd (j := 3) rfl, trivial⟩, trivial⟩ (fun e => ok_robot_Robot_Waiting c248 l250 c251 c252 l254 l257 _ hr260) (trivial) ?_
                  refine TL.p (C := cx) (gc := true) (p_mv rfl) rfl rfl ?_
                  obtain ⟨r261, hr261, hX⟩ := bind_some hX
                  refine TL.cvX rfl rfl rfl (fun _ => ⟨rfl, ⟨rfl, trivial⟩⟩) (fun e => ok_cartridgeref22_Robot_Waiting_nil  _ hr261) ?_
                  refine TL.p (C := cx) (gc := true) (p_neq rfl rfl) rfl rfl ?_
                  refine TL.nil ?_
                  refine hK259 _ _ ?_
                  refine TK.cond (b := (r260 != r261)) rfl (fun hc => ?_) (fun hc => ?_)
                  · have hX := ite_t hc hX
                    refine TK.seq_k fun K262 hK262 => ?_
                    refine TK.reg ?_
                    refine TL.p (C := cx) (gc := true) (p_mv rfl) rfl rfl ?_
                    refine TL.nil ?_
                    refine hK262 _ _ ?_
                    refine TK.ret ?_
                    obtain rfl := hR221 _ (some_in hX).symm
                    replace hX := hA221
                    try dsimp only [thenQ]
                    exact ret1 (v := Enc.v (false : Bool)) rfl (by obtain rfl := some_in hX; rfl) (v_val _)
                  · have hX := ite_f hc hX
                    refine TK.skip ?_
                    refine hK258 _ _ ?_
                    refine TK.seq_k fun K263 hK263 => ?_
                    refine TK.reg ?_
                    refine TL.p (C := cx) (gc := true) (p_mv rfl) rfl rfl ?_
                    refine TL.nil ?_
                    refine hK263 _ _ ?_
                    refine TK.block ?_
                    obtain ⟨o264, hO264, hA264⟩ := bind_some hX
                    have E264 : ∀ (env : Env) (h : Hp), (∃ b273 b272 b274 b275 pre276 b271, keepE [1, 2, 8, 10, 12] env = [(1, true, Enc.v (drives2 : Int)), (2, true, Enc.v (l3 : (List Act_law24))), (8, true, .ref b271 0 5), (10, true, .nilp), (12, true, Enc.v (i234 : Int))] ∧ Nd [(b273, RL (α := Int) 3 l250), (b272, RV 127 [Enc.v (c248 : (List Int)), OL (α := Int) b273 l250]), (b274, RL (α := Int) 3 l254), (b275, RL (α := Int) 3 (pre276 ++ l257)), (b271, RV 109 [.ref b272 0 2, Enc.v (c251 : Int), Enc.v (c252 : (List Int)), OL (α := Int) b274 l254, OQ (α := Int) b275 pre276 l257])] ∧ HSub [(b273, RL (α := Int) 3 l250), (b272, RV 127 [Enc.v (c248 : (List Int)), OL (α := Int) b273 l250]), (b274, RL (α := Int) 3 l254), (b275, RL (α := Int) 3 (pre276 ++ l257)), (b271, RV 109 [.ref b272 0 2, Enc.v (c251 : Int), Enc.v (c252 : (List Int)), OL (α := Int) b274 l254, OQ (α := Int) b275 pre276 l257])] h) → X.cartridgelaw24_RobotPlays_e264 c248 l250 c251 c252 l254 l257 i234 = some x221x → K238 env h := by
                      intro  env h hE hX
                      obtain ⟨b273, b272, b274, b275, pre276, b271, henv, nd, hs⟩ := hE
                      unfold X.cartridgelaw24_RobotPlays_e264 at hX
                      refine hK238 _ _ (TK.keep [1, 2, 8, 10, 12] ?_)
                      rw [henv]
                      refine TK.subH hs ?_
                      refine TK.reg ?_
                      refine TL.p (C := cx) (gc := true) (p_mv rfl) rfl rfl ?_
                      refine TL.p (C := cx) (gc := true) (p_add rfl rfl) rfl rfl ?_
                      refine TL.p (C := cx) (gc := true) (p_mv rfl) rfl rfl ?_
                      refine TL.nil ?_
                      exact ⟨_, (some_in hX).symm, b273, b272, b274, b275, pre276, b271, rfl, (Nd.pick nd (is := [0, 1, 2, 3, 4]) (by decide)), (HSub.pick nd (is := [0, 1, 2, 3, 4]) (by decide))⟩
                    refine TK.iter [1, 2, 8, 10, 12, 18] (fun s env h => match s with | _ => ∃ b267 b266 b268 b269 pre270 b265, env = [(1, true, Enc.v (drives2 : Int)), (2, true, Enc.v (l3 : (List Act_law24))), (8, true, .ref b265 0 5), (10, true, .nilp), (12, true, Enc.v (i234 : Int)), (18, true, Enc.v (((-1) : Int) : Int))] ∧ Nd [(b267, RL (α := Int) 3 l250), (b266, RV 127 [Enc.v (c248 : (List Int)), OL (α := Int) b267 l250]), (b268, RL (α := Int) 3 l254), (b269, RL (α := Int) 3 (pre270 ++ l257)), (b265, RV 109 [.ref b266 0 2, Enc.v (c251 : Int), Enc.v (c252 : (List Int)), OL (α := Int) b268 l254, OQ (α := Int) b269 pre270 l257])] ∧ HSub [(b267, RL (α := Int) 3 l250), (b266, RV 127 [Enc.v (c248 : (List Int)), OL (α := Int) b267 l250]), (b268, RL (α := Int) 3 l254), (b269, RL (α := Int) 3 (pre270 ++ l257)), (b265, RV 109 [.ref b266 0 2, Enc.v (c251 : Int), Enc.v (c252 : (List Int)), OL (α := Int) b268 l254, OQ (α := Int) b269 pre270 l257])] h) hO264 ⟨b249, b247, b253, b255, pre256, b246, rfl, (Nd.pick nd (is := [0, 1, 2, 3, 4]) (by decide)), (HSub.pick nd (is := [0, 1, 2, 3, 4]) (by decide))⟩ ?_
                    rintro ⟨⟩ env h x264x ⟨b267, b266, b268, b269, pre270, b265, rfl, nd, hs⟩ hX hR264
                    refine TK.subH hs ?_
                    unfold X.cartridgelaw24_RobotPlays_s264 at hX
                    try dsimp only at hX
                    refine TK.seq_k fun K277 hK277 => ?_
                    refine TK.seq_k fun K278 hK278 => ?_
                    refine TK.reg ?_
                    refine TL.p (C := cx) (gc := true) (p_mv rfl) rfl rfl ?_
                    refine TL.p (C := cx) (gc := true) (p_mv rfl) rfl rfl ?_
                    refine TL.p (C := cx) (gc := true) (p_leq rfl rfl) rfl rfl ?_
                    refine TL.nil ?_
                    refine hK278 _ _ ?_
                    refine TK.cond (b := (decide (((-1) : Int) ≤ drives2))) rfl (fun hc => ?_) (fun hc => ?_)
                    · have hX := ite_t hc hX
                      refine TK.skip ?_
                      refine hK277 _ _ ?_
                      refine TK.seq_k fun K279 hK279 => ?_
                      refine TK.block ?_
                      refine TK.seq_k fun K280 hK280 => ?_
                      cases hX
                    · have hX := ite_f hc hX
                      refine TK.exit ?_
                      obtain rfl := hR264 _ (some_in hX).symm
                      exact E264 _ _ ⟨b267, b266, b268, b269, pre270, b265, rfl, (Nd.pick nd (is := [0, 1, 2, 3, 4]) (by decide)), (HSub.pick nd (is := [0, 1, 2, 3, 4]) (by decide))⟩ hA264
                refine TK.seq_k fun K281 hK281 => ?_
                refine TK.reg ?_
                refine TL.p (C := cx) (gc := true) (p_faV fs76_0 (by decide) rfl nd (j := 0) rfl rfl) rfl rfl ?_
                refine TL.p (C := cx) (gc := true) (p_ldV (v := Enc.v (e240.Way : Int)) ty3 rfl rfl nd (j := 0) rfl rfl rfl rfl rfl) rfl rfl ?_
                refine TL.nil ?_
                refine hK281 _ _ ?_
                refine TK.block ?_
                refine TK.seq_k fun K282 hK282 => ?_
                refine TK.reg ?_
                refine TL.p (C := cx) (gc := true) (p_eql rfl rfl) rfl rfl ?_
                refine TL.p (C := cx) (gc := true) (p_mv rfl) rfl rfl ?_
                refine TL.nil ?_
                refine hK282 _ _ ?_
                refine TK.cond (b := (e240.Way == (0 : Int))) rfl (fun hc => ?_) (fun hc => ?_)
                · have hX := ite_t hc hX
                  refine TK.seq_k fun K283 hK283 => ?_
                  refine TK.pick [1, 2, 3, 4, 5, 0] nd (by decide) fun nd => ?_
                  have ndS : Nd [(b241, RV 76 [Enc.v (e240.Way : Int), Enc.v (e240.N : Int), Enc.v (e240.Fail : Bool), Enc.v (e240.Labels : (List Int))])] := Nd.pick nd (is := [5]) (by decide)
                  refine TK.drwX (h := [(b225, RL (α := Int) 3 l226), (b223, RV 127 [Enc.v (c224 : (List Int)), OL (α := Int) b225 l226]), (b229, RL (α := Int) 3 l230), (b231, RL (α := Int) 3 (pre232 ++ l233)), (b222, RV 109 [.ref b223 0 2, Enc.v (c227 : Int), Enc.v (c228 : (List Int)), OL (α := Int) b229 l230, OQ (α := Int) b231 pre232 l233])]) (hS := [(b241, RV 76 [Enc.v (e240.Way : Int), Enc.v (e240.N : Int), Enc.v (e240.Fail : Bool), Enc.v (e240.Labels : (List Int))])]) [(0, 0), (0, 1), (0, 2), (0, 5), (0, 6), (0, 7), (2, 3), (0, 4), (0, 8), (0, 9)] mixed (by kernel_rfl) (HSub_app nd) ?_
                  refine DR0 (gc := true) rfl (vok_p (C := cx) (p_mv rfl)) rfl rfl ?_
                  refine DR0 (gc := true) rfl (vok_p (C := cx) (p_faV fs76_1 (by decide) rfl ndS (j := 0) rfl rfl)) rfl rfl ?_
                  refine DR0 (gc := true) rfl (vok_p (C := cx) (p_ldV (v := Enc.v (e240.N : Int)) ty3 rfl rfl ndS (j := 0) rfl rfl rfl rfl rfl)) rfl rfl ?_
                  refine DR0 (gc := true) rfl (vok_p (C := cx) (p_mv rfl)) rfl rfl ?_
                  refine DR0 (gc := true) rfl (vok_p (C := cx) (p_faV fs76_1 (by decide) rfl ndS (j := 0) rfl rfl)) rfl rfl ?_
                  refine DR0 (gc := true) rfl (vok_p (C := cx) (p_ldV (v := Enc.v (e240.N : Int)) ty3 rfl rfl ndS (j := 0) rfl rfl rfl rfl rfl)) rfl rfl ?_
                  obtain ⟨r284, hr284, hX⟩ := bind_some hX
                  refine DR2 rfl rfl ?_
                  refine TL.pick [4, 1, 0, 2, 3, 5] nd (by decide) fun nd => ?_
                  refine TL.tcX [(b222, RV 109 [.ref b223 0 2, Enc.v (c227 : Int), Enc.v (c228 : (List Int)), OL (α := Int) b229 l230, OQ (α := Int) b231 pre232 l233]), (b223, RV 127 [Enc.v (c224 : (List Int)), OL (α := Int) b225 l226]), (b225, RL (α := Int) 3 l226), (b229, RL (α := Int) 3 l230), (b231, RL (α := Int) 3 (pre232 ++ l233))] [(b241, RV 76 [Enc.v (e240.Way : Int), Enc.v (e240.N : Int), Enc.v (e240.Fail : Bool), Enc.v (e240.Labels : (List Int))])] rfl nd (dlt rfl) rfl ⟨rfl, ⟨rfl, ⟨rfl, trivial⟩⟩⟩ (ok_robot_Robot_Ask e240.N c224 l226 c227 c228 l230 l233 b222 b223 b225 b229 b231 pre232 (Nd.take nd 5 rfl) _ hr284) ?_
                  rintro _ _ hQ nd
                  obtain ⟨b286, b287, b288, b289, pre290, rfl, rfl⟩ := hQ
                  refine TL.nil ⟨_, [(b222, RV 109 [.ref b286 0 2, Enc.v (r284.2.2.2.1 : Int), Enc.v (r284.2.2.2.2.1 : (List Int)), OL (α := Int) b288 r284.2.2.2.2.2.1, OQ (α := Int) b289 pre290 r284.2.2.2.2.2.2]), (b286, RV 127 [Enc.v (r284.2.1 : (List Int)), OL (α := Int) b287 r284.2.2.1]), (b287, RL (α := Int) 3 r284.2.2.1), (b288, RL (α := Int) 3 r284.2.2.2.2.2.1), (b289, RL (α := Int) 3 (pre290 ++ r284.2.2.2.2.2.2))], rfl, rfl, HSub_app nd, ?_⟩
                  obtain ⟨r291, hr291, hX⟩ := bind_some hX
                  refine DR0 (gc := true) rfl (vok_c rfl (fun _ => ⟨rfl, ⟨rfl, trivial⟩⟩) (fun e => ok_cartridgelaw24_num r284.1 _ hr291)) rfl rfl ?_
                  obtain ⟨r292, hr292, hX⟩ := bind_some hX
                  refine DR0 (gc := true) rfl (vok_c rfl (fun _ => ⟨rfl, ⟨rfl, ⟨rfl, trivial⟩⟩⟩) (fun e => ok_cartridgeref22_Robot_Ask_nil e240.N _ hr292)) rfl rfl ?_
                  refine DR0 (gc := true) rfl (vok_p (C := cx) (p_neq rfl rfl)) rfl rfl ?_
                  refine DRend ?_
                  refine hK283 _ _ ?_
                  refine TK.cond (b := (r291 != r292)) rfl (fun hc => ?_) (fun hc => ?_)
                  · have hX := ite_t hc hX
                    refine TK.seq_k fun K293 hK293 => ?_
                    refine TK.reg ?_
                    refine TL.p (C := cx) (gc := true) (p_mv rfl) rfl rfl ?_
                    refine TL.nil ?_
                    refine hK293 _ _ ?_
                    refine TK.ret ?_
                    obtain rfl := hR221 _ (some_in hX).symm
                    replace hX := hA221
                    try dsimp only [thenQ]
                    exact ret1 (v := Enc.v (false : Bool)) rfl (by obtain rfl := some_in hX; rfl) (v_val _)
                  · have hX := ite_f hc hX
                    refine TK.skip ?_
                    exact J245 r284.2.1 r284.2.2.1 r284.2.2.2.1 r284.2.2.2.2.1 r284.2.2.2.2.2.1 r284.2.2.2.2.2.2 _ _ ⟨b287, b286, b288, b289, pre290, b222, rfl, (Nd.pick nd (is := [2, 1, 3, 4, 0]) (by decide)), (HSub.pick nd (is := [2, 1, 3, 4, 0]) (by decide))⟩ hX
                · have hX := ite_f hc hX
                  refine TK.seq_k fun K294 hK294 => ?_
                  refine TK.reg ?_
                  refine TL.p (C := cx) (gc := true) (p_eql rfl rfl) rfl rfl ?_
                  refine TL.p (C := cx) (gc := true) (p_mv rfl) rfl rfl ?_
                  refine TL.nil ?_
                  refine hK294 _ _ ?_
                  refine TK.cond (b := (e240.Way == (1 : Int))) rfl (fun hc => ?_) (fun hc => ?_)
                  · have hX := ite_t hc hX
                    refine TK.seq_k fun K295 hK295 => ?_
                    refine TK.pick [1, 2, 3, 4, 5, 0] nd (by decide) fun nd => ?_
                    have ndS : Nd [(b241, RV 76 [Enc.v (e240.Way : Int), Enc.v (e240.N : Int), Enc.v (e240.Fail : Bool), Enc.v (e240.Labels : (List Int))])] := Nd.pick nd (is := [5]) (by decide)
                    refine TK.drwX (h := [(b225, RL (α := Int) 3 l226), (b223, RV 127 [Enc.v (c224 : (List Int)), OL (α := Int) b225 l226]), (b229, RL (α := Int) 3 l230), (b231, RL (α := Int) 3 (pre232 ++ l233)), (b222, RV 109 [.ref b223 0 2, Enc.v (c227 : Int), Enc.v (c228 : (List Int)), OL (α := Int) b229 l230, OQ (α := Int) b231 pre232 l233])]) (hS := [(b241, RV 76 [Enc.v (e240.Way : Int), Enc.v (e240.N : Int), Enc.v (e240.Fail : Bool), Enc.v (e240.Labels : (List Int))])]) [(0, 0), (0, 1), (0, 2), (0, 4), (0, 5), (0, 6), (2, 3), (0, 7), (0, 8)] mixed (by kernel_rfl) (HSub_app nd) ?_
                    refine DR0 (gc := true) rfl (vok_p (C := cx) (p_mv rfl)) rfl rfl ?_
                    refine DR0 (gc := true) rfl (vok_p (C := cx) (p_faV fs76_2 (by decide) rfl ndS (j := 0) rfl rfl)) rfl rfl ?_
                    refine DR0 (gc := true) rfl (vok_p (C := cx) (p_ldV (v := Enc.v (e240.Fail : Bool)) ty4 rfl rfl ndS (j := 0) rfl rfl rfl rfl rfl)) rfl rfl ?_
                    refine DR0 (gc := true) rfl (vok_p (C := cx) (p_mv rfl)) rfl rfl ?_
                    refine DR0 (gc := true) rfl (vok_p (C := cx) (p_faV fs76_2 (by decide) rfl ndS (j := 0) rfl rfl)) rfl rfl ?_
                    refine DR0 (gc := true) rfl (vok_p (C := cx) (p_ldV (v := Enc.v (e240.Fail : Bool)) ty4 rfl rfl ndS (j := 0) rfl rfl rfl rfl rfl)) rfl rfl ?_
                    obtain ⟨r296, hr296, hX⟩ := bind_some hX
                    refine DR2 rfl rfl ?_
                    refine TL.pick [4, 1, 0, 2, 3, 5] nd (by decide) fun nd => ?_
                    refine TL.tcX [(b222, RV 109 [.ref b223 0 2, Enc.v (c227 : Int), Enc.v (c228 : (List Int)), OL (α := Int) b229 l230, OQ (α := Int) b231 pre232 l233]), (b223, RV 127 [Enc.v (c224 : (List Int)), OL (α := Int) b225 l226]), (b225, RL (α := Int) 3 l226), (b229, RL (α := Int) 3 l230), (b231, RL (α := Int) 3 (pre232 ++ l233))] [(b241, RV 76 [Enc.v (e240.Way : Int), Enc.v (e240.N : Int), Enc.v (e240.Fail : Bool), Enc.v (e240.Labels : (List Int))])] rfl nd (dlt rfl) rfl ⟨rfl, ⟨rfl, ⟨rfl, trivial⟩⟩⟩ (ok_robot_Robot_Step e240.Fail c224 l226 c227 c228 l230 l233 b222 b223 b225 b229 b231 pre232 (Nd.take nd 5 rfl) _ hr296) ?_
                    rintro _ _ hQ nd
                    obtain ⟨b298, b299, b300, b301, pre302, rfl, rfl⟩ := hQ
                    refine TL.nil ⟨_, [(b222, RV 109 [.ref b298 0 2, Enc.v (r296.2.2.2.1 : Int), Enc.v (r296.2.2.2.2.1 : (List Int)), OL (α := Int) b300 r296.2.2.2.2.2.1, OQ (α := Int) b301 pre302 r296.2.2.2.2.2.2]), (b298, RV 127 [Enc.v (r296.2.1 : (List Int)), OL (α := Int) b299 r296.2.2.1]), (b299, RL (α := Int) 3 r296.2.2.1), (b300, RL (α := Int) 3 r296.2.2.2.2.2.1), (b301, RL (α := Int) 3 (pre302 ++ r296.2.2.2.2.2.2))], rfl, rfl, HSub_app nd, ?_⟩
                    obtain ⟨r303, hr303, hX⟩ := bind_some hX
                    refine DR0 (gc := true) rfl (vok_c rfl (fun _ => ⟨rfl, ⟨rfl, ⟨rfl, trivial⟩⟩⟩) (fun e => ok_cartridgeref22_Robot_Step_nil e240.Fail _ hr303)) rfl rfl ?_
                    refine DR0 (gc := true) rfl (vok_p (C := cx) (p_neB kd4 rfl rfl)) rfl rfl ?_
                    refine DRend ?_
                    refine hK295 _ _ ?_
                    refine TK.cond (b := (r296.1 != r303)) rfl (fun hc => ?_) (fun hc => ?_)
                    · have hX := ite_t hc hX
                      refine TK.seq_k fun K304 hK304 => ?_
                      refine TK.reg ?_
                      refine TL.p (C := cx) (gc := true) (p_mv rfl) rfl rfl ?_
                      refine TL.nil ?_
                      refine hK304 _ _ ?_
                      refine TK.ret ?_
                      obtain rfl := hR221 _ (some_in hX).symm
                      replace hX := hA221
                      try dsimp only [thenQ]
                      exact ret1 (v := Enc.v (false : Bool)) rfl (by obtain rfl := some_in hX; rfl) (v_val _)
                    · have hX := ite_f hc hX
                      refine TK.skip ?_
                      exact J245 r296.2.1 r296.2.2.1 r296.2.2.2.1 r296.2.2.2.2.1 r296.2.2.2.2.2.1 r296.2.2.2.2.2.2 _ _ ⟨b299, b298, b300, b301, pre302, b222, rfl, (Nd.pick nd (is := [2, 1, 3, 4, 0]) (by decide)), (HSub.pick nd (is := [2, 1, 3, 4, 0]) (by decide))⟩ hX
                  · have hX := ite_f hc hX
                    refine TK.seq_k fun K305 hK305 => ?_
                    refine TK.reg ?_
                    refine TL.p (C := cx) (gc := true) (p_eql rfl rfl) rfl rfl ?_
                    refine TL.p (C := cx) (gc := true) (p_mv rfl) rfl rfl ?_
                    refine TL.nil ?_
                    refine hK305 _ _ ?_
                    refine TK.cond (b := (e240.Way == (2 : Int))) rfl (fun hc => ?_) (fun hc => ?_)
                    · have hX := ite_t hc hX
                      refine TK.seq_k fun K306 hK306 => ?_
                      refine TK.pick [1, 2, 3, 4, 5, 0] nd (by decide) fun nd => ?_
                      have ndS : Nd [(b241, RV 76 [Enc.v (e240.Way : Int), Enc.v (e240.N : Int), Enc.v (e240.Fail : Bool), Enc.v (e240.Labels : (List Int))])] := Nd.pick nd (is := [5]) (by decide)
                      refine TK.drwX (h := [(b225, RL (α := Int) 3 l226), (b223, RV 127 [Enc.v (c224 : (List Int)), OL (α := Int) b225 l226]), (b229, RL (α := Int) 3 l230), (b231, RL (α := Int) 3 (pre232 ++ l233)), (b222, RV 109 [.ref b223 0 2, Enc.v (c227 : Int), Enc.v (c228 : (List Int)), OL (α := Int) b229 l230, OQ (α := Int) b231 pre232 l233])]) (hS := [(b241, RV 76 [Enc.v (e240.Way : Int), Enc.v (e240.N : Int), Enc.v (e240.Fail : Bool), Enc.v (e240.Labels : (List Int))])]) [(0, 0), (0, 1), (0, 2), (0, 3), (0, 4), (0, 5), (2, 6), (0, 7), (0, 8), (0, 9), (0, 10), (0, 11)] mixed (by kernel_rfl) (HSub_app nd) ?_
                      refine DR0 (gc := true) rfl (vok_p (C := cx) (p_mv rfl)) rfl rfl ?_
                      refine DR0 (gc := true) rfl (vok_p (C := cx) (p_faV fs76_3 (by decide) rfl ndS (j := 0) rfl rfl)) rfl rfl ?_
                      refine DR0 (gc := true) rfl (vok_p (C := cx) (p_ldV (v := Enc.v (e240.Labels : (List Int))) ty46 rfl rfl ndS (j := 0) rfl rfl rfl rfl rfl)) rfl rfl ?_
                      obtain ⟨u307, hu307, hX⟩ := bind_some hX
                      refine DR0 (gc := true) rfl (vok_appV (C := cx) kd46 bo46 ty3 rfl rfl rfl (Src_L _) (by decide) (need_t hu307)) rfl rfl ?_
                      refine DR0 (gc := true) rfl (vok_p (C := cx) (p_faV fs76_1 (by decide) rfl ndS (j := 0) rfl rfl)) rfl rfl ?_
                      refine DR0 (gc := true) rfl (vok_p (C := cx) (p_ldV (v := Enc.v (e240.N : Int)) ty3 rfl rfl ndS (j := 0) rfl rfl rfl rfl rfl)) rfl rfl ?_
                      obtain ⟨r308, hr308, hX⟩ := bind_some hX
                      refine DR2 rfl rfl ?_
                      refine TL.pick [4, 1, 0, 2, 3, 5] nd (by decide) fun nd => ?_
                      refine TL.tcX [(b222, RV 109 [.ref b223 0 2, Enc.v (c227 : Int), Enc.v (c228 : (List Int)), OL (α := Int) b229 l230, OQ (α := Int) b231 pre232 l233]), (b223, RV 127 [Enc.v (c224 : (List Int)), OL (α := Int) b225 l226]), (b225, RL (α := Int) 3 l226), (b229, RL (α := Int) 3 l230), (b231, RL (α := Int) 3 (pre232 ++ l233))] [(b241, RV 76 [Enc.v (e240.Way : Int), Enc.v (e240.N : Int), Enc.v (e240.Fail : Bool), Enc.v (e240.Labels : (List Int))])] rfl nd (dlt rfl) rfl ⟨rfl, ⟨rfl, ⟨rfl, ⟨rfl, trivial⟩⟩⟩⟩ (ok_robot_Robot_Serve e240.Labels e240.N c224 l226 c227 c228 l230 l233 b222 b223 b225 b229 b231 pre232 (Nd.take nd 5 rfl) _ hr308) ?_
                      rintro _ _ hQ nd
                      obtain ⟨b310, b311, b312, b313, pre314, rfl, rfl⟩ := hQ
                      refine TL.nil ⟨_, [(b222, RV 109 [.ref b310 0 2, Enc.v (r308.2.2.2.2.1 : Int), Enc.v (r308.2.2.2.2.2.1 : (List Int)), OL (α := Int) b312 r308.2.2.2.2.2.2.1, OQ (α := Int) b313 pre314 r308.2.2.2.2.2.2.2]), (b310, RV 127 [Enc.v (r308.2.2.1 : (List Int)), OL (α := Int) b311 r308.2.2.2.1]), (b311, RL (α := Int) 3 r308.2.2.2.1), (b312, RL (α := Int) 3 r308.2.2.2.2.2.2.1), (b313, RL (α := Int) 3 (pre314 ++ r308.2.2.2.2.2.2.2))], rfl, rfl, HSub_app nd, ?_⟩
                      refine DR0 (gc := true) rfl (vok_p (C := cx) (p_mv rfl)) rfl rfl ?_
                      refine DR0 (gc := true) rfl (vok_p (C := cx) (p_ex rfl rfl (by decide))) rfl rfl ?_
                      refine DR0 (gc := true) rfl (vok_p (C := cx) (p_ex rfl rfl (by decide))) rfl rfl ?_
                      refine DR0 (gc := true) rfl (vok_p (C := cx) (p_mv rfl)) rfl rfl ?_
                      refine DR0 (gc := true) rfl (vok_p (C := cx) (p_mv rfl)) rfl rfl ?_
                      refine DRend ?_
                      refine hK306 _ _ ?_
                      refine TK.seq_k fun K315 hK315 => ?_
                      refine TK.reg ?_
                      refine TL.p (C := cx) (gc := true) (p_mv rfl) rfl rfl ?_
                      refine TL.p (C := cx) (gc := true) (p_faV fs76_3 (by decide) rfl nd (j := 5) rfl rfl) rfl rfl ?_
                      refine TL.p (C := cx) (gc := true) (p_ldV (v := Enc.v (e240.Labels : (List Int))) ty46 rfl rfl nd (j := 5) rfl rfl rfl rfl rfl) rfl rfl ?_
                      refine TL.p (C := cx) (gc := true) (p_faV fs76_1 (by decide) rfl nd (j := 5) rfl rfl) rfl rfl ?_
                      refine TL.p (C := cx) (gc := true) (p_ldV (v := Enc.v (e240.N : Int)) ty3 rfl rfl nd (j := 5) rfl rfl rfl rfl rfl) rfl rfl ?_
                      obtain ⟨r316, hr316, hX⟩ := bind_some hX
                      refine TL.cvX rfl rfl rfl (fun _ => ⟨rfl, ⟨rfl, ⟨rfl, ⟨rfl, trivial⟩⟩⟩⟩) (fun e => ok_cartridgeref22_Robot_Serve_nil e240.Labels e240.N _ hr316) ?_
                      refine TL.p (C := cx) (gc := true) (p_mv rfl) rfl rfl ?_
                      refine TL.p (C := cx) (gc := true) (p_ex rfl rfl (by decide)) rfl rfl ?_
                      refine TL.p (C := cx) (gc := true) (p_ex rfl rfl (by decide)) rfl rfl ?_
                      refine TL.p (C := cx) (gc := true) (p_mv rfl) rfl rfl ?_
                      refine TL.p (C := cx) (gc := true) (p_mv rfl) rfl rfl ?_
                      refine TL.nil ?_
                      refine hK315 _ _ ?_
                      refine TK.seq_k fun K317 hK317 => ?_
                      refine TK.reg ?_
                      refine TL.p (C := cx) (gc := true) (p_mv rfl) rfl rfl ?_
                      refine TL.p (C := cx) (gc := true) (p_mv rfl) rfl rfl ?_
                      refine TL.p (C := cx) (gc := true) (p_neq rfl rfl) rfl rfl ?_
                      refine TL.p (C := cx) (gc := true) (p_mv rfl) rfl rfl ?_
                      refine TL.p (C := cx) (gc := (!((r308.1 != r316.1)))) (p_mv rfl (hg := fun e => rfl)) (gcF1 rfl) rfl ?_
                      obtain ⟨r318, hr318, hX⟩ := bind_some hX
                      refine TL.cvX (gcF1 rfl) rfl rfl (fun e => ⟨rfl, ⟨e, trivial⟩⟩) (fun e => ok_cartridgelaw24_num r308.2.1 _ (optG_t hr318 e)) ?_
                      refine TL.p (C := cx) (gc := (!((r308.1 != r316.1)))) (p_mv rfl (hg := fun e => rfl)) (gcF1 rfl) rfl ?_
                      refine TL.p (C := cx) (gc := (!((r308.1 != r316.1)))) (p_neq rfl rfl (hg := fun e => ⟨e, e⟩)) (gcF1 rfl) rfl ?_
                      refine TL.p (C := cx) (gc := true) (p_or rfl rfl (fun e => ⟨rfl, fun h => (not_t h)⟩)) rfl rfl ?_
                      refine TL.nil ?_
                      refine hK317 _ _ ?_
                      refine TK.cond (b := ((r308.1 != r316.1) || (r318 != r316.2))) rfl (fun hc => ?_) (fun hc => ?_)
                      · have hX := ite_t hc hX
                        refine TK.seq_k fun K319 hK319 => ?_
                        refine TK.reg ?_
                        refine TL.p (C := cx) (gc := true) (p_mv rfl) rfl rfl ?_
                        refine TL.nil ?_
                        refine hK319 _ _ ?_
                        refine TK.ret ?_
                        obtain rfl := hR221 _ (some_in hX).symm
                        replace hX := hA221
                        try dsimp only [thenQ]
                        exact ret1 (v := Enc.v (false : Bool)) rfl (by obtain rfl := some_in hX; rfl) (v_val _)
                      · have hX := ite_f hc hX
                        refine TK.skip ?_
                        exact J245 r308.2.2.1 r308.2.2.2.1 r308.2.2.2.2.1 r308.2.2.2.2.2.1 r308.2.2.2.2.2.2.1 r308.2.2.2.2.2.2.2 _ _ ⟨b311, b310, b312, b313, pre314, b222, rfl, (Nd.pick nd (is := [2, 1, 3, 4, 0]) (by decide)), (HSub.pick nd (is := [2, 1, 3, 4, 0]) (by decide))⟩ hX
                    · have hX := ite_f hc hX
                      refine TK.skip ?_
                      exact J245 c224 l226 c227 c228 l230 l233 _ _ ⟨b225, b223, b229, b231, pre232, b222, rfl, (Nd.pick nd (is := [1, 2, 3, 4, 5]) (by decide)), (HSub.pick nd (is := [1, 2, 3, 4, 5]) (by decide))⟩ hX
            · have hX := ite_f hc hX
              refine TK.exit ?_
              obtain rfl := hR221 _ (some_in hX).symm
              exact E221 _ _ ⟨(), rfl, (Nd.pick nd (is := []) (by decide)), (HSub.pick nd (is := []) (by decide))⟩ hA221
      | some o320 =>
        simp only [hqr211] at hQ hX
        obtain ⟨b321, b322, b323, b324, b325, b326, b327, pre328, rfl, rfl⟩ := hQ
        refine TL.p (C := cx) (gc := true) (p_mv rfl) rfl rfl ?_
        refine TL.p (C := cx) (gc := true) (p_ex rfl rfl (by decide)) rfl rfl ?_
        refine TL.p (C := cx) (gc := true) (p_ex rfl rfl (by decide)) rfl rfl ?_
        refine TL.p (C := cx) (gc := true) (p_mv rfl) rfl rfl ?_
        refine TL.p (C := cx) (gc := true) (p_mv rfl) rfl rfl ?_
        refine TL.nil ?_
        refine hK210 _ _ ?_
        refine TK.seq_k fun K329 hK329 => ?_
        refine TK.seq_k fun K330 hK330 => ?_
        refine TK.reg ?_
        refine TL.p (C := cx) (gc := true) (p_mv rfl) rfl rfl ?_
        obtain ⟨r331, hr331, hX⟩ := bind_some hX
        refine TL.cvX rfl rfl rfl (fun _ => ⟨rfl, ⟨rfl, trivial⟩⟩) (fun e => ok_cartridgelaw24_num r13.2 _ hr331) ?_
        refine TL.p (C := cx) (gc := true) (p_mv rfl) rfl rfl ?_
        refine TL.p (C := cx) (gc := true) (p_neq rfl rfl) rfl rfl ?_
        refine TL.p (C := cx) (gc := true) (p_mv rfl) rfl rfl ?_
        refine TL.p (C := cx) (gc := (!((r331 != r211.2)))) (p_mv rfl (hg := fun e => rfl)) (gcF1 rfl) rfl ?_
        refine TL.p (C := cx) (gc := (!((r331 != r211.2)))) (p_eqP kd64 rfl rfl (fun _ => refOK_of nd (j := 7) rfl rfl) (hg := fun e => ⟨e, rfl⟩)) (gcF1 rfl) rfl ?_
        refine TL.p (C := cx) (gc := (!((r331 != r211.2)))) (p_mv rfl (hg := fun e => rfl)) (gcF1 rfl) rfl ?_
        refine TL.p (C := cx) (gc := (!((r331 != r211.2)))) (p_neq rfl rfl (hg := fun e => ⟨e, rfl⟩)) (gcF1 rfl) rfl ?_
        refine TL.p (C := cx) (gc := (!((r331 != r211.2)))) (p_neB kd4 rfl rfl (hg := fun e => ⟨e, e⟩)) (gcF1 rfl) rfl ?_
        refine TL.p (C := cx) (gc := true) (p_or rfl rfl (fun e => ⟨rfl, fun h => (not_t h)⟩)) rfl rfl ?_
        refine TL.nil ?_
        refine hK330 _ _ ?_
        refine TK.cond (b := ((r331 != r211.2) || (false != (r211.2 != (0 : Int))))) rfl (fun hc => ?_) (fun hc => ?_)
        · have hX := ite_t hc hX
          refine TK.seq_k fun K332 hK332 => ?_
          refine TK.reg ?_
          refine TL.p (C := cx) (gc := true) (p_mv rfl) rfl rfl ?_
          refine TL.nil ?_
          refine hK332 _ _ ?_
          refine TK.ret ?_
          try dsimp only [thenQ]
          exact ret1 (v := Enc.v (false : Bool)) rfl (by obtain rfl := some_in hX; rfl) (v_val _)
        · have hX := ite_f hc hX
          refine TK.skip ?_
          refine hK329 _ _ ?_
          refine TK.seq_k fun K333 hK333 => ?_
          refine TK.seq_k fun K334 hK334 => ?_
          refine TK.reg ?_
          refine TL.p (C := cx) (gc := true) (p_mv rfl) rfl rfl ?_
          refine TL.p (C := cx) (gc := true) (p_neq rfl rfl) rfl rfl ?_
          refine TL.nil ?_
          refine hK334 _ _ ?_
          refine TK.cond (b := (r211.2 != (0 : Int))) rfl (fun hc => ?_) (fun hc => ?_)
          · have hX := ite_t hc hX
            refine TK.seq_k fun K335 hK335 => ?_
            refine TK.reg ?_
            refine TL.p (C := cx) (gc := true) (p_mv rfl) rfl rfl ?_
            refine TL.nil ?_
            refine hK335 _ _ ?_
            refine TK.ret ?_
            try dsimp only [thenQ]
            exact ret1 (v := Enc.v (true : Bool)) rfl (by obtain rfl := some_in hX; rfl) (v_val _)
          · have hX := ite_f hc hX
            refine TK.skip ?_
            refine hK333 _ _ ?_
            refine TK.seq_k fun K336 hK336 => ?_
            refine TK.seq_k fun K337 hK337 => ?_
            refine TK.reg ?_
            refine TL.p (C := cx) (gc := true) (p_mv rfl) rfl rfl ?_
            refine TL.nil ?_
            refine hK337 _ _ ?_
            refine TK.block ?_
            obtain ⟨o338, hO338, hA338⟩ := bind_some hX
            have E338 : ∀ (env : Env) (h : Hp), (∃ _u : Unit, keepE [] env = [] ∧ Nd [] ∧ HSub [] h) → X.cartridgelaw24_RobotPlays_e338 = some r → K336 env h := by
              intro  env h hE hX
              obtain ⟨_u, henv, nd, hs⟩ := hE
              unfold X.cartridgelaw24_RobotPlays_e338 at hX
              refine hK336 _ _ (TK.keep [] ?_)
              rw [henv]
              refine TK.subH hs ?_
              refine TK.seq_k fun K365 hK365 => ?_
              refine TK.reg ?_
              refine TL.p (C := cx) (gc := true) (p_mv rfl) rfl rfl ?_
              refine TL.nil ?_
              refine hK365 _ _ ?_
              refine TK.ret ?_
              try dsimp only [thenQ]
              exact ret1 (v := Enc.v (true : Bool)) rfl (by obtain rfl := some_in hX; rfl) (v_val _)
            refine TK.iter [1, 2, 8, 10, 12] (fun s env h => match s with | (c341, l343, c344, c345, l347, l350, l354, l356, l358, l360, l363, i364) => ∃ b342 b340 b346 b348 pre349 b339 b353 b355 b357 b352 b359 b361 pre362 b351, env = [(1, true, Enc.v (drives2 : Int)), (2, true, Enc.v (l3 : (List Act_law24))), (8, true, .ref b339 0 5), (10, true, .ref b351 0 3), (12, true, Enc.v (i364 : Int))] ∧ Nd [(b342, RL (α := Int) 3 l343), (b340, RV 127 [Enc.v (c341 : (List Int)), OL (α := Int) b342 l343]), (b346, RL (α := Int) 3 l347), (b348, RL (α := Int) 3 (pre349 ++ l350)), (b339, RV 109 [.ref b340 0 2, Enc.v (c344 : Int), Enc.v (c345 : (List Int)), OL (α := Int) b346 l347, OQ (α := Int) b348 pre349 l350]), (b353, RL (α := Int) 3 l354), (b355, RL (α := Int) 3 l356), (b357, RL (α := Int) 3 l358), (b352, RV 118 [OL (α := Int) b353 l354, OL (α := Int) b355 l356, OL (α := Int) b357 l358]), (b359, RL (α := Int) 3 l360), (b361, RL (α := Int) 3 (pre362 ++ l363)), (b351, RV 84 [.ref b352 0 3, OL (α := Int) b359 l360, OQ (α := Int) b361 pre362 l363])] ∧ HSub [(b342, RL (α := Int) 3 l343), (b340, RV 127 [Enc.v (c341 : (List Int)), OL (α := Int) b342 l343]), (b346, RL (α := Int) 3 l347), (b348, RL (α := Int) 3 (pre349 ++ l350)), (b339, RV 109 [.ref b340 0 2, Enc.v (c344 : Int), Enc.v (c345 : (List Int)), OL (α := Int) b346 l347, OQ (α := Int) b348 pre349 l350]), (b353, RL (α := Int) 3 l354), (b355, RL (α := Int) 3 l356), (b357, RL (α := Int) 3 l358), (b352, RV 118 [OL (α := Int) b353 l354, OL (α := Int) b355 l356, OL (α := Int) b357 l358]), (b359, RL (α := Int) 3 l360), (b361, RL (α := Int) 3 (pre362 ++ l363)), (b351, RV 84 [.ref b352 0 3, OL (α := Int) b359 l360, OQ (α := Int) b361 pre362 l363])] h) hO338 ⟨b206, b205, b207, b208, pre209, b204, b323, b324, b325, b322, b326, b327, pre328, b321, rfl, (Nd.pick nd (is := [9, 8, 10, 11, 7, 2, 3, 4, 1, 5, 6, 0]) (by decide)), (HSub.pick nd (is := [9, 8, 10, 11, 7, 2, 3, 4, 1, 5, 6, 0]) (by decide))⟩ ?_
            rintro ⟨c341, l343, c344, c345, l347, l350, l354, l356, l358, l360, l363, i364⟩ env h x338x ⟨b342, b340, b346, b348, pre349, b339, b353, b355, b357, b352, b359, b361, pre362, b351, rfl, nd, hs⟩ hX hR338
            refine TK.subH hs ?_
            unfold X.cartridgelaw24_RobotPlays_s338 at hX
            try dsimp only at hX
            refine TK.seq_k fun K366 hK366 => ?_
            refine TK.seq_k fun K367 hK367 => ?_
            refine TK.reg ?_
            refine TL.p (C := cx) (gc := true) (p_mv rfl) rfl rfl ?_
            refine TL.p (C := cx) (gc := true) (p_mv rfl) rfl rfl ?_
            refine TL.p (C := cx) (gc := true) (p_lenL (xs := l3) kd71 rfl) rfl rfl ?_
            refine TL.p (C := cx) (gc := true) (p_lss rfl rfl) rfl rfl ?_
            refine TL.nil ?_
            refine hK367 _ _ ?_
            refine TK.cond (b := (decide (i364 < (l3.length : Int)))) rfl (fun hc => ?_) (fun hc => ?_)
            · have hX := ite_t hc hX
              refine TK.skip ?_
              refine hK366 _ _ ?_
              refine TK.seq_k fun K368 hK368 => ?_
              refine TK.block ?_
              refine TK.seq_k fun K369 hK369 => ?_
              refine TK.reg ?_
              refine TL.p (C := cx) (gc := true) (p_mv rfl) rfl rfl ?_
              refine TL.p (C := cx) (gc := true) (p_mv rfl) rfl rfl ?_
              obtain ⟨e370, he370, hX⟩ := bind_some hX
              refine TL.p (C := cx) (gc := true) (p_iaL (xs := l3) kd71 ty76 rfl rfl rfl (fun _ => he370)) rfl rfl ?_
              refine TL.p (C := cx) (gc := true) (p_ldE (xs := l3) (a := e370) (e370 : Act_law24) ty76 rfl rfl (fun _ => he370) rfl rfl rfl) rfl rfl ?_
              refine TL.alO (C := cx) (l := [Enc.v ((0 : Int) : Int), Enc.v ((0 : Int) : Int), Enc.v (false : Bool), .nils]) nd ty76 ti76_z rfl rfl fun b371 nd => ?_
              refine TL.stV (C := cx) (lu := Enc.cl (e370 : Act_law24)) nd ty76 rfl (j := 0) rfl rfl rfl (Cells_v (e370 : Act_law24)) rfl rfl [Enc.v (e370.Way : Int), Enc.v (e370.N : Int), Enc.v (e370.Fail : Bool), Enc.v (e370.Labels : (List Int))] rfl fun nd => ?_
              refine TL.nil ?_
              refine hK369 _ _ ?_
              refine TK.seq_k fun K372 hK372 => ?_
              refine TK.seq_k fun K373 hK373 => ?_
              refine TK.reg ?_
              refine TL.p (C := cx) (gc := true) (p_faV fs76_3 (by decide) rfl nd (j := 0) rfl rfl) rfl rfl ?_
              refine TL.p (C := cx) (gc := true) (p_ldV (v := Enc.v (e370.Labels : (List Int))) ty46 rfl rfl nd (j := 0) rfl rfl rfl rfl rfl) rfl rfl ?_
              refine TL.p (C := cx) (gc := true) (p_lenL (xs := e370.Labels) kd46 rfl) rfl rfl ?_
              refine TL.p (C := cx) (gc := true) (p_gtr rfl rfl) rfl rfl ?_
              refine TL.nil ?_
              refine hK373 _ _ ?_
              refine TK.cond (b := (decide ((e370.Labels.length : Int) > (40 : Int)))) rfl (fun hc => ?_) (fun hc => ?_)
              · have hX := ite_t hc hX
                refine TK.seq_k fun K374 hK374 => ?_
                refine TK.reg ?_
                refine TL.p (C := cx) (gc := true) (p_mv rfl) rfl rfl ?_
                refine TL.nil ?_
                refine hK374 _ _ ?_
                refine TK.ret ?_
                obtain rfl := hR338 _ (some_in hX).symm
                replace hX := hA338
                try dsimp only [thenQ]
                exact ret1 (v := Enc.v (true : Bool)) rfl (by obtain rfl := some_in hX; rfl) (v_val _)
              · have hX := ite_f hc hX
                refine TK.skip ?_
                refine hK372 _ _ ?_
                refine TK.seq_k fun K375 hK375 => ?_
                have J375 : ∀ (c378 : (List Int)) (l380 : List Int) (c381 : Int) (c382 : (List Int)) (l384 : List Int) (l387 : List Int) (l391 : List Int) (l393 : List Int) (l395 : List Int) (l397 : List Int) (l400 : List Int) (env : Env) (h : Hp), (∃ b379 b377 b383 b385 pre386 b376 b390 b392 b394 b389 b396 b398 pre399 b388, keepE [1, 2, 8, 10, 12] env = [(1, true, Enc.v (drives2 : Int)), (2, true, Enc.v (l3 : (List Act_law24))), (8, true, .ref b376 0 5), (10, true, .ref b388 0 3), (12, true, Enc.v (i364 : Int))] ∧ Nd [(b379, RL (α := Int) 3 l380), (b377, RV 127 [Enc.v (c378 : (List Int)), OL (α := Int) b379 l380]), (b383, RL (α := Int) 3 l384), (b385, RL (α := Int) 3 (pre386 ++ l387)), (b376, RV 109 [.ref b377 0 2, Enc.v (c381 : Int), Enc.v (c382 : (List Int)), OL (α := Int) b383 l384, OQ (α := Int) b385 pre386 l387]), (b390, RL (α := Int) 3 l391), (b392, RL (α := Int) 3 l393), (b394, RL (α := Int) 3 l395), (b389, RV 118 [OL (α := Int) b390 l391, OL (α := Int) b392 l393, OL (α := Int) b394 l395]), (b396, RL (α := Int) 3 l397), (b398, RL (α := Int) 3 (pre399 ++ l400)), (b388, RV 84 [.ref b389 0 3, OL (α := Int) b396 l397, OQ (α := Int) b398 pre399 l400])] ∧ HSub [(b379, RL (α := Int) 3 l380), (b377, RV 127 [Enc.v (c378 : (List Int)), OL (α := Int) b379 l380]), (b383, RL (α := Int) 3 l384), (b385, RL (α := Int) 3 (pre386 ++ l387)), (b376, RV 109 [.ref b377 0 2, Enc.v (c381 : Int), Enc.v (c382 : (List Int)), OL (α := Int) b383 l384, OQ (α := Int) b385 pre386 l387]), (b390, RL (α := Int) 3 l391), (b392, RL (α := Int) 3 l393), (b394, RL (α := Int) 3 l395), (b389, RV 118 [OL (α := Int) b390 l391, OL (α := Int) b392 l393, OL (α := Int) b394 l395]), (b396, RL (α := Int) 3 l397), (b398, RL (α := Int) 3 (pre399 ++ l400)), (b388, RV 84 [.ref b389 0 3, OL (α := Int) b396 l397, OQ (α := Int) b398 pre399 l400])] h) → X.cartridgelaw24_RobotPlays_j375 drives2 i364 c378 l380 c381 c382 l384 l387 l391 l393 l395 l397 l400 = some x338x → K375 env h := by
                  intro c378 l380 c381 c382 l384 l387 l391 l393 l395 l397 l400 env h hE hX
                  obtain ⟨b379, b377, b383, b385, pre386, b376, b390, b392, b394, b389, b396, b398, pre399, b388, henv, nd, hs⟩ := hE
                  unfold X.cartridgelaw24_RobotPlays_j375 at hX
                  refine hK375 _ _ (TK.keep [1, 2, 8, 10, 12] ?_)
                  rw [henv]
                  refine TK.subH hs ?_
                  refine TK.seq_k fun K401 hK401 => ?_
                  refine TK.seq_k fun K402 hK402 => ?_
                  refine TK.reg ?_
                  refine TL.p (C := cx) (gc := true) (p_mv rfl) rfl rfl ?_
                  obtain ⟨r403, hr403, hX⟩ := bind_some hX
                  refine TL.lookX [.vref (ofL [.vref (ofL [Enc.v (c378 : (List Int)), Enc.v (l380 : (List Int))]) 2 0, Enc.v (c381 : Int), Enc.v (c382 : (List Int)), Enc.v (l384 : (List Int)), Enc.v (l387 : (List Int))]) 5 0] rfl rfl rfl (fun _ => ⟨rfl, ⟨rfl, trivial⟩⟩) ⟨look_ref (l := [.ref b377 0 2, Enc.v (c381 : Int), Enc.v (c382 : (List Int)), OL (α := Int) b383 l384, OQ (α := Int) b385 pre386 l387]) nd (j := 4) rfl ⟨look_ref (l := [Enc.v (c378 : (List Int)), OL (α := Int) b379 l380]) nd (j := 1) rfl ⟨look_v (v := Enc.v (c378 : (List Int))) (v_val _), look_OL nd (j := 0) rfl, trivial⟩, look_v (v := Enc.v (c381 : Int)) (v_val _), look_v (v := Enc.v (c382 : (List Int))) (v_val _), look_OL nd (j := 2) rfl, look_OQ nd (j := 3) rfl, trivial⟩, trivial⟩ (fun e => ok_robot_Robot_Waiting c378 l380 c381 c382 l384 l387 _ hr403) (trivial) ?_
                  refine TL.p (C := cx) (gc := true) (p_mv rfl) rfl rfl ?_
                  obtain ⟨r404, hr404, hX⟩ := bind_some hX
                  refine TL.lookX [.vref (ofL [.vref (ofL [Enc.v (l391 : (List Int)), Enc.v (l393 : (List Int)), Enc.v (l395 : (List Int))]) 3 0, Enc.v (l397 : (List Int)), Enc.v (l400 : (List Int))]) 3 0] rfl rfl rfl (fun _ => ⟨rfl, ⟨rfl, trivial⟩⟩) ⟨look_ref (l := [.ref b389 0 3, OL (α := Int) b396 l397, OQ (α := Int) b398 pre399 l400]) nd (j := 11) rfl ⟨look_ref (l := [OL (α := Int) b390 l391, OL (α := Int) b392 l393, OL (α := Int) b394 l395]) nd (j := 8) rfl ⟨look_OL nd (j := 5) rfl, look_OL nd (j := 6) rfl, look_OL nd (j := 7) rfl, trivial⟩, look_OL nd (j := 9) rfl, look_OQ nd (j := 10) rfl, trivial⟩, trivial⟩ (fun e => ok_cartridgeref22_Robot_Waiting l391 l393 l395 l397 l400 _ hr404) (trivial) ?_
                  refine TL.p (C := cx) (gc := true) (p_neq rfl rfl) rfl rfl ?_
                  refine TL.nil ?_
                  refine hK402 _ _ ?_
                  refine TK.cond (b := (r403 != r404)) rfl (fun hc => ?_) (fun hc => ?_)
                  · have hX := ite_t hc hX
                    refine TK.seq_k fun K405 hK405 => ?_
                    refine TK.reg ?_
                    refine TL.p (C := cx) (gc := true) (p_mv rfl) rfl rfl ?_
                    refine TL.nil ?_
                    refine hK405 _ _ ?_
                    refine TK.ret ?_
                    obtain rfl := hR338 _ (some_in hX).symm
                    replace hX := hA338
                    try dsimp only [thenQ]
                    exact ret1 (v := Enc.v (false : Bool)) rfl (by obtain rfl := some_in hX; rfl) (v_val _)
                  · have hX := ite_f hc hX
                    refine TK.skip ?_
                    refine hK401 _ _ ?_
                    refine TK.seq_k fun K406 hK406 => ?_
                    refine TK.reg ?_
                    refine TL.p (C := cx) (gc := true) (p_mv rfl) rfl rfl ?_
                    refine TL.nil ?_
                    refine hK406 _ _ ?_
                    refine TK.block ?_
                    obtain ⟨o407, hO407, hA407⟩ := bind_some hX
                    have E407 : ∀ (env : Env) (h : Hp), (∃ b425 b424 b426 b427 pre428 b423 b431 b432 b433 b430 b434 b435 pre436 b429, keepE [1, 2, 8, 10, 12] env = [(1, true, Enc.v (drives2 : Int)), (2, true, Enc.v (l3 : (List Act_law24))), (8, true, .ref b423 0 5), (10, true, .ref b429 0 3), (12, true, Enc.v (i364 : Int))] ∧ Nd [(b425, RL (α := Int) 3 l380), (b424, RV 127 [Enc.v (c378 : (List Int)), OL (α := Int) b425 l380]), (b426, RL (α := Int) 3 l384), (b427, RL (α := Int) 3 (pre428 ++ l387)), (b423, RV 109 [.ref b424 0 2, Enc.v (c381 : Int), Enc.v (c382 : (List Int)), OL (α := Int) b426 l384, OQ (α := Int) b427 pre428 l387]), (b431, RL (α := Int) 3 l391), (b432, RL (α := Int) 3 l393), (b433, RL (α := Int) 3 l395), (b430, RV 118 [OL (α := Int) b431 l391, OL (α := Int) b432 l393, OL (α := Int) b433 l395]), (b434, RL (α := Int) 3 l397), (b435, RL (α := Int) 3 (pre436 ++ l400)), (b429, RV 84 [.ref b430 0 3, OL (α := Int) b434 l397, OQ (α := Int) b435 pre436 l400])] ∧ HSub [(b425, RL (α := Int) 3 l380), (b424, RV 127 [Enc.v (c378 : (List Int)), OL (α := Int) b425 l380]), (b426, RL (α := Int) 3 l384), (b427, RL (α := Int) 3 (pre428 ++ l387)), (b423, RV 109 [.ref b424 0 2, Enc.v (c381 : Int), Enc.v (c382 : (List Int)), OL (α := Int) b426 l384, OQ (α := Int) b427 pre428 l387]), (b431, RL (α := Int) 3 l391), (b432, RL (α := Int) 3 l393), (b433, RL (α := Int) 3 l395), (b430, RV 118 [OL (α := Int) b431 l391, OL (α := Int) b432 l393, OL (α := Int) b433 l395]), (b434, RL (α := Int) 3 l397), (b435, RL (α := Int) 3 (pre436 ++ l400)), (b429, RV 84 [.ref b430 0 3, OL (α := Int) b434 l397, OQ (α := Int) b435 pre436 l400])] h) → X.cartridgelaw24_RobotPlays_e407 c378 l380 c381 c382 l384 l387 l391 l393 l395 l397 l400 i364 = some x338x → K368 env h := by
                      intro  env h hE hX
                      obtain ⟨b425, b424, b426, b427, pre428, b423, b431, b432, b433, b430, b434, b435, pre436, b429, henv, nd, hs⟩ := hE
                      unfold X.cartridgelaw24_RobotPlays_e407 at hX
                      refine hK368 _ _ (TK.keep [1, 2, 8, 10, 12] ?_)
                      rw [henv]
                      refine TK.subH hs ?_
                      refine TK.reg ?_
                      refine TL.p (C := cx) (gc := true) (p_mv rfl) rfl rfl ?_
                      refine TL.p (C := cx) (gc := true) (p_add rfl rfl) rfl rfl ?_
                      refine TL.p (C := cx) (gc := true) (p_mv rfl) rfl rfl ?_
                      refine TL.nil ?_
                      exact ⟨_, (some_in hX).symm, b425, b424, b426, b427, pre428, b423, b431, b432, b433, b430, b434, b435, pre436, b429, rfl, (Nd.pick nd (is := [0, 1, 2, 3, 4, 5, 6, 7, 8, 9, 10, 11]) (by decide)), (HSub.pick nd (is := [0, 1, 2, 3, 4, 5, 6, 7, 8, 9, 10, 11]) (by decide))⟩
                    refine TK.iter [1, 2, 8, 10, 12, 18] (fun s env h => match s with | d422 => ∃ b410 b409 b411 b412 pre413 b408 b416 b417 b418 b415 b419 b420 pre421 b414, env = [(1, true, Enc.v (drives2 : Int)), (2, true, Enc.v (l3 : (List Act_law24))), (8, true, .ref b408 0 5), (10, true, .ref b414 0 3), (12, true, Enc.v (i364 : Int)), (18, true, Enc.v (d422 : Int))] ∧ Nd [(b410, RL (α := Int) 3 l380), (b409, RV 127 [Enc.v (c378 : (List Int)), OL (α := Int) b410 l380]), (b411, RL (α := Int) 3 l384), (b412, RL (α := Int) 3 (pre413 ++ l387)), (b408, RV 109 [.ref b409 0 2, Enc.v (c381 : Int), Enc.v (c382 : (List Int)), OL (α := Int) b411 l384, OQ (α := Int) b412 pre413 l387]), (b416, RL (α := Int) 3 l391), (b417, RL (α := Int) 3 l393), (b418, RL (α := Int) 3 l395), (b415, RV 118 [OL (α := Int) b416 l391, OL (α := Int) b417 l393, OL (α := Int) b418 l395]), (b419, RL (α := Int) 3 l397), (b420, RL (α := Int) 3 (pre421 ++ l400)), (b414, RV 84 [.ref b415 0 3, OL (α := Int) b419 l397, OQ (α := Int) b420 pre421 l400])] ∧ HSub [(b410, RL (α := Int) 3 l380), (b409, RV 127 [Enc.v (c378 : (List Int)), OL (α := Int) b410 l380]), (b411, RL (α := Int) 3 l384), (b412, RL (α := Int) 3 (pre413 ++ l387)), (b408, RV 109 [.ref b409 0 2, Enc.v (c381 : Int), Enc.v (c382 : (List Int)), OL (α := Int) b411 l384, OQ (α := Int) b412 pre413 l387]), (b416, RL (α := Int) 3 l391), (b417, RL (α := Int) 3 l393), (b418, RL (α := Int) 3 l395), (b415, RV 118 [OL (α := Int) b416 l391, OL (α := Int) b417 l393, OL (α := Int) b418 l395]), (b419, RL (α := Int) 3 l397), (b420, RL (α := Int) 3 (pre421 ++ l400)), (b414, RV 84 [.ref b415 0 3, OL (α := Int) b419 l397, OQ (α := Int) b420 pre421 l400])] h) hO407 ⟨b379, b377, b383, b385, pre386, b376, b390, b392, b394, b389, b396, b398, pre399, b388, rfl, (Nd.pick nd (is := [0, 1, 2, 3, 4, 5, 6, 7, 8, 9, 10, 11]) (by decide)), (HSub.pick nd (is := [0, 1, 2, 3, 4, 5, 6, 7, 8, 9, 10, 11]) (by decide))⟩ ?_
                    rintro d422 env h x407x ⟨b410, b409, b411, b412, pre413, b408, b416, b417, b418, b415, b419, b420, pre421, b414, rfl, nd, hs⟩ hX hR407
                    refine TK.subH hs ?_
                    unfold X.cartridgelaw24_RobotPlays_s407 at hX
                    try dsimp only at hX
                    refine TK.seq_k fun K437 hK437 => ?_
                    refine TK.seq_k fun K438 hK438 => ?_
                    refine TK.reg ?_
                    refine TL.p (C := cx) (gc := true) (p_mv rfl) rfl rfl ?_
                    refine TL.p (C := cx) (gc := true) (p_mv rfl) rfl rfl ?_
                    refine TL.p (C := cx) (gc := true) (p_leq rfl rfl) rfl rfl ?_
                    refine TL.nil ?_
                    refine hK438 _ _ ?_
                    refine TK.cond (b := (decide (d422 ≤ drives2))) rfl (fun hc => ?_) (fun hc => ?_)
                    · have hX := ite_t hc hX
                      refine TK.skip ?_
                      refine hK437 _ _ ?_
                      refine TK.seq_k fun K439 hK439 => ?_
                      refine TK.block ?_
                      refine TK.seq_k fun K440 hK440 => ?_
                      have ndS : Nd [(b410, RL (α := Int) 3 l380), (b409, RV 127 [Enc.v (c378 : (List Int)), OL (α := Int) b410 l380]), (b411, RL (α := Int) 3 l384), (b412, RL (α := Int) 3 (pre413 ++ l387)), (b408, RV 109 [.ref b409 0 2, Enc.v (c381 : Int), Enc.v (c382 : (List Int)), OL (α := Int) b411 l384, OQ (α := Int) b412 pre413 l387]), (b416, RL (α := Int) 3 l391), (b417, RL (α := Int) 3 l393), (b418, RL (α := Int) 3 l395), (b415, RV 118 [OL (α := Int) b416 l391, OL (α := Int) b417 l393, OL (α := Int) b418 l395]), (b419, RL (α := Int) 3 l397), (b420, RL (α := Int) 3 (pre421 ++ l400)), (b414, RV 84 [.ref b415 0 3, OL (α := Int) b419 l397, OQ (α := Int) b420 pre421 l400])] := Nd.pick nd (is := [0, 1, 2, 3, 4, 5, 6, 7, 8, 9, 10, 11]) (by decide)
                      refine TK.drwX (h := []) (hS := [(b410, RL (α := Int) 3 l380), (b409, RV 127 [Enc.v (c378 : (List Int)), OL (α := Int) b410 l380]), (b411, RL (α := Int) 3 l384), (b412, RL (α := Int) 3 (pre413 ++ l387)), (b408, RV 109 [.ref b409 0 2, Enc.v (c381 : Int), Enc.v (c382 : (List Int)), OL (α := Int) b411 l384, OQ (α := Int) b412 pre413 l387]), (b416, RL (α := Int) 3 l391), (b417, RL (α := Int) 3 l393), (b418, RL (α := Int) 3 l395), (b415, RV 118 [OL (α := Int) b416 l391, OL (α := Int) b417 l393, OL (α := Int) b418 l395]), (b419, RL (α := Int) 3 l397), (b420, RL (α := Int) 3 (pre421 ++ l400)), (b414, RV 84 [.ref b415 0 3, OL (α := Int) b419 l397, OQ (α := Int) b420 pre421 l400])]) [(0, 0), (0, 1), (0, 2), (0, 3), (0, 4), (0, 5), (0, 6), (0, 7), (0, 8), (0, 9)] mixed (by kernel_rfl) (HSub_app nd) ?_
                      refine DR0 (gc := true) rfl (vok_p (C := cx) (p_mv rfl)) rfl rfl ?_
                      refine DR0 (gc := true) rfl (vok_p (C := cx) (p_mv rfl)) rfl rfl ?_
                      obtain ⟨r441, hr441, hX⟩ := bind_some hX
                      refine DR0 (gc := true) rfl (vok_lookX [.vref (ofL [.vref (ofL [Enc.v (c378 : (List Int)), Enc.v (l380 : (List Int))]) 2 0, Enc.v (c381 : Int), Enc.v (c382 : (List Int)), Enc.v (l384 : (List Int)), Enc.v (l387 : (List Int))]) 5 0, Enc.v (d422 : Int)] rfl (fun _ => ⟨rfl, ⟨rfl, ⟨rfl, trivial⟩⟩⟩) ⟨look_ref (l := [.ref b409 0 2, Enc.v (c381 : Int), Enc.v (c382 : (List Int)), OL (α := Int) b411 l384, OQ (α := Int) b412 pre413 l387]) ndS (j := 4) rfl ⟨look_ref (l := [Enc.v (c378 : (List Int)), OL (α := Int) b410 l380]) ndS (j := 1) rfl ⟨look_v (v := Enc.v (c378 : (List Int))) (v_val _), look_OL ndS (j := 0) rfl, trivial⟩, look_v (v := Enc.v (c381 : Int)) (v_val _), look_v (v := Enc.v (c382 : (List Int))) (v_val _), look_OL ndS (j := 2) rfl, look_OQ ndS (j := 3) rfl, trivial⟩, look_v (v := Enc.v (d422 : Int)) (v_val _), trivial⟩ (fun e => ok_robot_Robot_Mounted c378 l380 c381 c382 l384 l387 d422 _ hr441) (trivial)) rfl rfl ?_
                      refine DR0 (gc := true) rfl (vok_p (C := cx) (p_mv rfl)) rfl rfl ?_
                      refine DR0 (gc := true) rfl (vok_p (C := cx) (p_ncR rfl (fun _ => refOK_of ndS (j := 11) rfl rfl))) rfl rfl ?_
                      refine DR0 (gc := true) rfl (vok_p (C := cx) (p_faV fs84_0 (by decide) rfl ndS (j := 11) rfl rfl)) rfl rfl ?_
                      refine DR0 (gc := true) rfl (vok_p (C := cx) (p_ldV (v := .ref b415 0 3) ty82 rfl rfl ndS (j := 11) rfl rfl rfl rfl rfl)) rfl rfl ?_
                      refine DR0 (gc := true) rfl (vok_p (C := cx) (p_mv rfl)) rfl rfl ?_
                      obtain ⟨r442, hr442, hX⟩ := bind_some hX
                      refine DR0 (gc := true) rfl (vok_lookX [.vref (ofL [Enc.v (l391 : (List Int)), Enc.v (l393 : (List Int)), Enc.v (l395 : (List Int))]) 3 0, Enc.v (d422 : Int)] rfl (fun _ => ⟨rfl, ⟨rfl, ⟨rfl, trivial⟩⟩⟩) ⟨look_ref (l := [OL (α := Int) b416 l391, OL (α := Int) b417 l393, OL (α := Int) b418 l395]) ndS (j := 8) rfl ⟨look_OL ndS (j := 5) rfl, look_OL ndS (j := 6) rfl, look_OL ndS (j := 7) rfl, trivial⟩, look_v (v := Enc.v (d422 : Int)) (v_val _), trivial⟩ (fun e => ok_cartridgeref22_Shelf_Mounted l391 l393 l395 d422 _ hr442) (trivial)) rfl rfl ?_
                      refine DR0 (gc := true) rfl (vok_p (C := cx) (p_neq rfl rfl)) rfl rfl ?_
                      refine DRend ?_
                      refine hK440 _ _ ?_
                      refine TK.cond (b := (r441 != r442)) rfl (fun hc => ?_) (fun hc => ?_)
                      · have hX := ite_t hc hX
                        refine TK.seq_k fun K443 hK443 => ?_
                        refine TK.reg ?_
                        refine TL.p (C := cx) (gc := true) (p_mv rfl) rfl rfl ?_
                        refine TL.nil ?_
                        refine hK443 _ _ ?_
                        refine TK.ret ?_
                        obtain rfl := hR407 _ (some_in hX).symm
                        replace hX := hA407
                        obtain rfl := hR338 _ (some_in hX).symm
                        replace hX := hA338
                        try dsimp only [thenQ]
                        exact ret1 (v := Enc.v (false : Bool)) rfl (by obtain rfl := some_in hX; rfl) (v_val _)
                      · have hX := ite_f hc hX
                        refine TK.skip ?_
                        refine hK439 _ _ ?_
                        refine TK.reg ?_
                        refine TL.p (C := cx) (gc := true) (p_mv rfl) rfl rfl ?_
                        refine TL.p (C := cx) (gc := true) (p_add rfl rfl) rfl rfl ?_
                        refine TL.p (C := cx) (gc := true) (p_mv rfl) rfl rfl ?_
                        refine TL.nil ?_
                        exact ⟨_, (some_in hX).symm, b410, b409, b411, b412, pre413, b408, b416, b417, b418, b415, b419, b420, pre421, b414, rfl, (Nd.pick nd (is := [0, 1, 2, 3, 4, 5, 6, 7, 8, 9, 10, 11]) (by decide)), (HSub.pick nd (is := [0, 1, 2, 3, 4, 5, 6, 7, 8, 9, 10, 11]) (by decide))⟩
                    · have hX := ite_f hc hX
                      refine TK.exit ?_
                      obtain rfl := hR407 _ (some_in hX).symm
                      exact E407 _ _ ⟨b410, b409, b411, b412, pre413, b408, b416, b417, b418, b415, b419, b420, pre421, b414, rfl, (Nd.pick nd (is := [0, 1, 2, 3, 4, 5, 6, 7, 8, 9, 10, 11]) (by decide)), (HSub.pick nd (is := [0, 1, 2, 3, 4, 5, 6, 7, 8, 9, 10, 11]) (by decide))⟩ hA407
                refine TK.seq_k fun K444 hK444 => ?_
                refine TK.reg ?_
                refine TL.p (C := cx) (gc := true) (p_faV fs76_0 (by decide) rfl nd (j := 0) rfl rfl) rfl rfl ?_
                refine TL.p (C := cx) (gc := true) (p_ldV (v := Enc.v (e370.Way : Int)) ty3 rfl rfl nd (j := 0) rfl rfl rfl rfl rfl) rfl rfl ?_
                refine TL.nil ?_
                refine hK444 _ _ ?_
                refine TK.block ?_
                refine TK.seq_k fun K445 hK445 => ?_
                refine TK.reg ?_
                refine TL.p (C := cx) (gc := true) (p_eql rfl rfl) rfl rfl ?_
                refine TL.p (C := cx) (gc := true) (p_mv rfl) rfl rfl ?_
                refine TL.nil ?_
                refine hK445 _ _ ?_
                refine TK.cond (b := (e370.Way == (0 : Int))) rfl (fun hc => ?_) (fun hc => ?_)
                · have hX := ite_t hc hX
                  refine TK.seq_k fun K446 hK446 => ?_
                  refine TK.pick [1, 2, 3, 4, 5, 6, 7, 8, 9, 10, 11, 12, 0] nd (by decide) fun nd => ?_
                  have ndS : Nd [(b371, RV 76 [Enc.v (e370.Way : Int), Enc.v (e370.N : Int), Enc.v (e370.Fail : Bool), Enc.v (e370.Labels : (List Int))])] := Nd.pick nd (is := [12]) (by decide)
                  refine TK.drwX (h := [(b342, RL (α := Int) 3 l343), (b340, RV 127 [Enc.v (c341 : (List Int)), OL (α := Int) b342 l343]), (b346, RL (α := Int) 3 l347), (b348, RL (α := Int) 3 (pre349 ++ l350)), (b339, RV 109 [.ref b340 0 2, Enc.v (c344 : Int), Enc.v (c345 : (List Int)), OL (α := Int) b346 l347, OQ (α := Int) b348 pre349 l350]), (b353, RL (α := Int) 3 l354), (b355, RL (α := Int) 3 l356), (b357, RL (α := Int) 3 l358), (b352, RV 118 [OL (α := Int) b353 l354, OL (α := Int) b355 l356, OL (α := Int) b357 l358]), (b359, RL (α := Int) 3 l360), (b361, RL (α := Int) 3 (pre362 ++ l363)), (b351, RV 84 [.ref b352 0 3, OL (α := Int) b359 l360, OQ (α := Int) b361 pre362 l363])]) (hS := [(b371, RV 76 [Enc.v (e370.Way : Int), Enc.v (e370.N : Int), Enc.v (e370.Fail : Bool), Enc.v (e370.Labels : (List Int))])]) [(0, 0), (0, 1), (0, 2), (0, 5), (0, 6), (0, 7), (2, 3), (0, 4), (2, 8), (0, 9)] mixed (by kernel_rfl) (HSub_app nd) ?_
                  refine DR0 (gc := true) rfl (vok_p (C := cx) (p_mv rfl)) rfl rfl ?_
                  refine DR0 (gc := true) rfl (vok_p (C := cx) (p_faV fs76_1 (by decide) rfl ndS (j := 0) rfl rfl)) rfl rfl ?_
                  refine DR0 (gc := true) rfl (vok_p (C := cx) (p_ldV (v := Enc.v (e370.N : Int)) ty3 rfl rfl ndS (j := 0) rfl rfl rfl rfl rfl)) rfl rfl ?_
                  refine DR0 (gc := true) rfl (vok_p (C := cx) (p_mv rfl)) rfl rfl ?_
                  refine DR0 (gc := true) rfl (vok_p (C := cx) (p_faV fs76_1 (by decide) rfl ndS (j := 0) rfl rfl)) rfl rfl ?_
                  refine DR0 (gc := true) rfl (vok_p (C := cx) (p_ldV (v := Enc.v (e370.N : Int)) ty3 rfl rfl ndS (j := 0) rfl rfl rfl rfl rfl)) rfl rfl ?_
                  obtain ⟨r447, hr447, hX⟩ := bind_some hX
                  refine DR2 rfl rfl ?_
                  refine TL.pick [4, 1, 0, 2, 3, 5, 6, 7, 8, 9, 10, 11, 12] nd (by decide) fun nd => ?_
                  refine TL.tcX [(b339, RV 109 [.ref b340 0 2, Enc.v (c344 : Int), Enc.v (c345 : (List Int)), OL (α := Int) b346 l347, OQ (α := Int) b348 pre349 l350]), (b340, RV 127 [Enc.v (c341 : (List Int)), OL (α := Int) b342 l343]), (b342, RL (α := Int) 3 l343), (b346, RL (α := Int) 3 l347), (b348, RL (α := Int) 3 (pre349 ++ l350))] [(b353, RL (α := Int) 3 l354), (b355, RL (α := Int) 3 l356), (b357, RL (α := Int) 3 l358), (b352, RV 118 [OL (α := Int) b353 l354, OL (α := Int) b355 l356, OL (α := Int) b357 l358]), (b359, RL (α := Int) 3 l360), (b361, RL (α := Int) 3 (pre362 ++ l363)), (b351, RV 84 [.ref b352 0 3, OL (α := Int) b359 l360, OQ (α := Int) b361 pre362 l363]), (b371, RV 76 [Enc.v (e370.Way : Int), Enc.v (e370.N : Int), Enc.v (e370.Fail : Bool), Enc.v (e370.Labels : (List Int))])] rfl nd (dlt rfl) rfl ⟨rfl, ⟨rfl, ⟨rfl, trivial⟩⟩⟩ (ok_robot_Robot_Ask e370.N c341 l343 c344 c345 l347 l350 b339 b340 b342 b346 b348 pre349 (Nd.take nd 5 rfl) _ hr447) ?_
                  rintro _ _ hQ nd
                  obtain ⟨b449, b450, b451, b452, pre453, rfl, rfl⟩ := hQ
                  refine TL.nil ⟨_, [(b339, RV 109 [.ref b449 0 2, Enc.v (r447.2.2.2.1 : Int), Enc.v (r447.2.2.2.2.1 : (List Int)), OL (α := Int) b451 r447.2.2.2.2.2.1, OQ (α := Int) b452 pre453 r447.2.2.2.2.2.2]), (b449, RV 127 [Enc.v (r447.2.1 : (List Int)), OL (α := Int) b450 r447.2.2.1]), (b450, RL (α := Int) 3 r447.2.2.1), (b451, RL (α := Int) 3 r447.2.2.2.2.2.1), (b452, RL (α := Int) 3 (pre453 ++ r447.2.2.2.2.2.2)), (b353, RL (α := Int) 3 l354), (b355, RL (α := Int) 3 l356), (b357, RL (α := Int) 3 l358), (b352, RV 118 [OL (α := Int) b353 l354, OL (α := Int) b355 l356, OL (α := Int) b357 l358]), (b359, RL (α := Int) 3 l360), (b361, RL (α := Int) 3 (pre362 ++ l363)), (b351, RV 84 [.ref b352 0 3, OL (α := Int) b359 l360, OQ (α := Int) b361 pre362 l363])], rfl, rfl, HSub_app nd, ?_⟩
                  obtain ⟨r454, hr454, hX⟩ := bind_some hX
                  refine DR0 (gc := true) rfl (vok_c rfl (fun _ => ⟨rfl, ⟨rfl, trivial⟩⟩) (fun e => ok_cartridgelaw24_num r447.1 _ hr454)) rfl rfl ?_
                  obtain ⟨r455, hr455, hX⟩ := bind_some hX
                  refine DR2 rfl rfl ?_
                  refine TL.pick [11, 8, 5, 6, 7, 9, 10, 0, 1, 2, 3, 4, 12] nd (by decide) fun nd => ?_
                  refine TL.tcX [(b351, RV 84 [.ref b352 0 3, OL (α := Int) b359 l360, OQ (α := Int) b361 pre362 l363]), (b352, RV 118 [OL (α := Int) b353 l354, OL (α := Int) b355 l356, OL (α := Int) b357 l358]), (b353, RL (α := Int) 3 l354), (b355, RL (α := Int) 3 l356), (b357, RL (α := Int) 3 l358), (b359, RL (α := Int) 3 l360), (b361, RL (α := Int) 3 (pre362 ++ l363))] [(b339, RV 109 [.ref b449 0 2, Enc.v (r447.2.2.2.1 : Int), Enc.v (r447.2.2.2.2.1 : (List Int)), OL (α := Int) b451 r447.2.2.2.2.2.1, OQ (α := Int) b452 pre453 r447.2.2.2.2.2.2]), (b449, RV 127 [Enc.v (r447.2.1 : (List Int)), OL (α := Int) b450 r447.2.2.1]), (b450, RL (α := Int) 3 r447.2.2.1), (b451, RL (α := Int) 3 r447.2.2.2.2.2.1), (b452, RL (α := Int) 3 (pre453 ++ r447.2.2.2.2.2.2)), (b371, RV 76 [Enc.v (e370.Way : Int), Enc.v (e370.N : Int), Enc.v (e370.Fail : Bool), Enc.v (e370.Labels : (List Int))])] rfl nd (dlt rfl) rfl ⟨rfl, ⟨rfl, ⟨rfl, trivial⟩⟩⟩ (ok_cartridgeref22_Robot_Ask e370.N l354 l356 l358 l360 l363 b351 b352 b353 b355 b357 b359 b361 pre362 (Nd.take nd 7 rfl) _ hr455) ?_
                  rintro _ _ hQ nd
                  obtain ⟨b457, b458, b459, b460, b461, b462, pre463, rfl, rfl⟩ := hQ
                  refine TL.nil ⟨_, [(b351, RV 84 [.ref b457 0 3, OL (α := Int) b461 r455.2.2.2.2.1, OQ (α := Int) b462 pre463 r455.2.2.2.2.2]), (b457, RV 118 [OL (α := Int) b458 r455.2.1, OL (α := Int) b459 r455.2.2.1, OL (α := Int) b460 r455.2.2.2.1]), (b458, RL (α := Int) 3 r455.2.1), (b459, RL (α := Int) 3 r455.2.2.1), (b460, RL (α := Int) 3 r455.2.2.2.1), (b461, RL (α := Int) 3 r455.2.2.2.2.1), (b462, RL (α := Int) 3 (pre463 ++ r455.2.2.2.2.2)), (b339, RV 109 [.ref b449 0 2, Enc.v (r447.2.2.2.1 : Int), Enc.v (r447.2.2.2.2.1 : (List Int)), OL (α := Int) b451 r447.2.2.2.2.2.1, OQ (α := Int) b452 pre453 r447.2.2.2.2.2.2]), (b449, RV 127 [Enc.v (r447.2.1 : (List Int)), OL (α := Int) b450 r447.2.2.1]), (b450, RL (α := Int) 3 r447.2.2.1), (b451, RL (α := Int) 3 r447.2.2.2.2.2.1), (b452, RL (α := Int) 3 (pre453 ++ r447.2.2.2.2.2.2))], rfl, rfl, HSub_app nd, ?_⟩
                  refine DR0 (gc := true) rfl (vok_p (C := cx) (p_neq rfl rfl)) rfl rfl ?_
                  refine DRend ?_
                  refine hK446 _ _ ?_
                  refine TK.cond (b := (r454 != r455.1)) rfl (fun hc => ?_) (fun hc => ?_)
                  · have hX := ite_t hc hX
                    refine TK.seq_k fun K464 hK464 => ?_
                    refine TK.reg ?_
                    refine TL.p (C := cx) (gc := true) (p_mv rfl) rfl rfl ?_
                    refine TL.nil ?_
                    refine hK464 _ _ ?_
                    refine TK.ret ?_
                    obtain rfl := hR338 _ (some_in hX).symm
                    replace hX := hA338
                    try dsimp only [thenQ]
                    exact ret1 (v := Enc.v (false : Bool)) rfl (by obtain rfl := some_in hX; rfl) (v_val _)
                  · have hX := ite_f hc hX
                    refine TK.skip ?_
                    exact J375 r447.2.1 r447.2.2.1 r447.2.2.2.1 r447.2.2.2.2.1 r447.2.2.2.2.2.1 r447.2.2.2.2.2.2 r455.2.1 r455.2.2.1 r455.2.2.2.1 r455.2.2.2.2.1 r455.2.2.2.2.2 _ _ ⟨b450, b449, b451, b452, pre453, b339, b458, b459, b460, b457, b461, b462, pre463, b351, rfl, (Nd.pick nd (is := [9, 8, 10, 11, 7, 2, 3, 4, 1, 5, 6, 0]) (by decide)), (HSub.pick nd (is := [9, 8, 10, 11, 7, 2, 3, 4, 1, 5, 6, 0]) (by decide))⟩ hX
                · have hX := ite_f hc hX
                  refine TK.seq_k fun K465 hK465 => ?_
                  refine TK.reg ?_
                  refine TL.p (C := cx) (gc := true) (p_eql rfl rfl) rfl rfl ?_
                  refine TL.p (C := cx) (gc := true) (p_mv rfl) rfl rfl ?_
                  refine TL.nil ?_
                  refine hK465 _ _ ?_
                  refine TK.cond (b := (e370.Way == (1 : Int))) rfl (fun hc => ?_) (fun hc => ?_)
                  · have hX := ite_t hc hX
                    refine TK.seq_k fun K466 hK466 => ?_
                    refine TK.pick [1, 2, 3, 4, 5, 6, 7, 8, 9, 10, 11, 12, 0] nd (by decide) fun nd => ?_
                    have ndS : Nd [(b371, RV 76 [Enc.v (e370.Way : Int), Enc.v (e370.N : Int), Enc.v (e370.Fail : Bool), Enc.v (e370.Labels : (List Int))])] := Nd.pick nd (is := [12]) (by decide)
                    refine TK.drwX (h := [(b342, RL (α := Int) 3 l343), (b340, RV 127 [Enc.v (c341 : (List Int)), OL (α := Int) b342 l343]), (b346, RL (α := Int) 3 l347), (b348, RL (α := Int) 3 (pre349 ++ l350)), (b339, RV 109 [.ref b340 0 2, Enc.v (c344 : Int), Enc.v (c345 : (List Int)), OL (α := Int) b346 l347, OQ (α := Int) b348 pre349 l350]), (b353, RL (α := Int) 3 l354), (b355, RL (α := Int) 3 l356), (b357, RL (α := Int) 3 l358), (b352, RV 118 [OL (α := Int) b353 l354, OL (α := Int) b355 l356, OL (α := Int) b357 l358]), (b359, RL (α := Int) 3 l360), (b361, RL (α := Int) 3 (pre362 ++ l363)), (b351, RV 84 [.ref b352 0 3, OL (α := Int) b359 l360, OQ (α := Int) b361 pre362 l363])]) (hS := [(b371, RV 76 [Enc.v (e370.Way : Int), Enc.v (e370.N : Int), Enc.v (e370.Fail : Bool), Enc.v (e370.Labels : (List Int))])]) [(0, 0), (0, 1), (0, 2), (0, 4), (0, 5), (0, 6), (2, 3), (2, 7), (0, 8)] mixed (by kernel_rfl) (HSub_app nd) ?_
                    refine DR0 (gc := true) rfl (vok_p (C := cx) (p_mv rfl)) rfl rfl ?_
                    refine DR0 (gc := true) rfl (vok_p (C := cx) (p_faV fs76_2 (by decide) rfl ndS (j := 0) rfl rfl)) rfl rfl ?_
                    refine DR0 (gc := true) rfl (vok_p (C := cx) (p_ldV (v := Enc.v (e370.Fail : Bool)) ty4 rfl rfl ndS (j := 0) rfl rfl rfl rfl rfl)) rfl rfl ?_
                    refine DR0 (gc := true) rfl (vok_p (C := cx) (p_mv rfl)) rfl rfl ?_
                    refine DR0 (gc := true) rfl (vok_p (C := cx) (p_faV fs76_2 (by decide) rfl ndS (j := 0) rfl rfl)) rfl rfl ?_
                    refine DR0 (gc := true) rfl (vok_p (C := cx) (p_ldV (v := Enc.v (e370.Fail : Bool)) ty4 rfl rfl ndS (j := 0) rfl rfl rfl rfl rfl)) rfl rfl ?_
                    obtain ⟨r467, hr467, hX⟩ := bind_some hX
                    refine DR2 rfl rfl ?_
                    refine TL.pick [4, 1, 0, 2, 3, 5, 6, 7, 8, 9, 10, 11, 12] nd (by decide) fun nd => ?_
                    refine TL.tcX [(b339, RV 109 [.ref b340 0 2, Enc.v (c344 : Int), Enc.v (c345 : (List Int)), OL (α := Int) b346 l347, OQ (α := Int) b348 pre349 l350]), (b340, RV 127 [Enc.v (c341 : (List Int)), OL (α := Int) b342 l343]), (b342, RL (α := Int) 3 l343), (b346, RL (α := Int) 3 l347), (b348, RL (α := Int) 3 (pre349 ++ l350))] [(b353, RL (α := Int) 3 l354), (b355, RL (α := Int) 3 l356), (b357, RL (α := Int) 3 l358), (b352, RV 118 [OL (α := Int) b353 l354, OL (α := Int) b355 l356, OL (α := Int) b357 l358]), (b359, RL (α := Int) 3 l360), (b361, RL (α := Int) 3 (pre362 ++ l363)), (b351, RV 84 [.ref b352 0 3, OL (α := Int) b359 l360, OQ (α := Int) b361 pre362 l363]), (b371, RV 76 [Enc.v (e370.Way : Int), Enc.v (e370.N : Int), Enc.v (e370.Fail : Bool), Enc.v (e370.Labels : (List Int))])] rfl nd (dlt rfl) rfl ⟨rfl, ⟨rfl, ⟨rfl, trivial⟩⟩⟩ (ok_robot_Robot_Step e370.Fail c341 l343 c344 c345 l347 l350 b339 b340 b342 b346 b348 pre349 (Nd.take nd 5 rfl) _ hr467) ?_
                    rintro _ _ hQ nd
                    obtain ⟨b469, b470, b471, b472, pre473, rfl, rfl⟩ := hQ
                    refine TL.nil ⟨_, [(b339, RV 109 [.ref b469 0 2, Enc.v (r467.2.2.2.1 : Int), Enc.v (r467.2.2.2.2.1 : (List Int)), OL (α := Int) b471 r467.2.2.2.2.2.1, OQ (α := Int) b472 pre473 r467.2.2.2.2.2.2]), (b469, RV 127 [Enc.v (r467.2.1 : (List Int)), OL (α := Int) b470 r467.2.2.1]), (b470, RL (α := Int) 3 r467.2.2.1), (b471, RL (α := Int) 3 r467.2.2.2.2.2.1), (b472, RL (α := Int) 3 (pre473 ++ r467.2.2.2.2.2.2)), (b353, RL (α := Int) 3 l354), (b355, RL (α := Int) 3 l356), (b357, RL (α := Int) 3 l358), (b352, RV 118 [OL (α := Int) b353 l354, OL (α := Int) b355 l356, OL (α := Int) b357 l358]), (b359, RL (α := Int) 3 l360), (b361, RL (α := Int) 3 (pre362 ++ l363)), (b351, RV 84 [.ref b352 0 3, OL (α := Int) b359 l360, OQ (α := Int) b361 pre362 l363])], rfl, rfl, HSub_app nd, ?_⟩
                    obtain ⟨r474, hr474, hX⟩ := bind_some hX
                    refine DR2 rfl rfl ?_
                    refine TL.pick [11, 8, 5, 6, 7, 9, 10, 0, 1, 2, 3, 4, 12] nd (by decide) fun nd => ?_
                    refine TL.tcX [(b351, RV 84 [.ref b352 0 3, OL (α := Int) b359 l360, OQ (α := Int) b361 pre362 l363]), (b352, RV 118 [OL (α := Int) b353 l354, OL (α := Int) b355 l356, OL (α := Int) b357 l358]), (b353, RL (α := Int) 3 l354), (b355, RL (α := Int) 3 l356), (b357, RL (α := Int) 3 l358), (b359, RL (α := Int) 3 l360), (b361, RL (α := Int) 3 (pre362 ++ l363))] [(b339, RV 109 [.ref b469 0 2, Enc.v (r467.2.2.2.1 : Int), Enc.v (r467.2.2.2.2.1 : (List Int)), OL (α := Int) b471 r467.2.2.2.2.2.1, OQ (α := Int) b472 pre473 r467.2.2.2.2.2.2]), (b469, RV 127 [Enc.v (r467.2.1 : (List Int)), OL (α := Int) b470 r467.2.2.1]), (b470, RL (α := Int) 3 r467.2.2.1), (b471, RL (α := Int) 3 r467.2.2.2.2.2.1), (b472, RL (α := Int) 3 (pre473 ++ r467.2.2.2.2.2.2)), (b371, RV 76 [Enc.v (e370.Way : Int), Enc.v (e370.N : Int), Enc.v (e370.Fail : Bool), Enc.v (e370.Labels : (List Int))])] rfl nd (dlt rfl) rfl ⟨rfl, ⟨rfl, ⟨rfl, trivial⟩⟩⟩ (ok_cartridgeref22_Robot_Step e370.Fail l354 l356 l358 l360 l363 b351 b352 b353 b355 b357 b359 b361 pre362 (Nd.take nd 7 rfl) _ hr474) ?_
                    rintro _ _ hQ nd
                    obtain ⟨b476, b477, b478, b479, b480, b481, pre482, rfl, rfl⟩ := hQ
                    refine TL.nil ⟨_, [(b351, RV 84 [.ref b476 0 3, OL (α := Int) b480 r474.2.2.2.2.1, OQ (α := Int) b481 pre482 r474.2.2.2.2.2]), (b476, RV 118 [OL (α := Int) b477 r474.2.1, OL (α := Int) b478 r474.2.2.1, OL (α := Int) b479 r474.2.2.2.1]), (b477, RL (α := Int) 3 r474.2.1), (b478, RL (α := Int) 3 r474.2.2.1), (b479, RL (α := Int) 3 r474.2.2.2.1), (b480, RL (α := Int) 3 r474.2.2.2.2.1), (b481, RL (α := Int) 3 (pre482 ++ r474.2.2.2.2.2)), (b339, RV 109 [.ref b469 0 2, Enc.v (r467.2.2.2.1 : Int), Enc.v (r467.2.2.2.2.1 : (List Int)), OL (α := Int) b471 r467.2.2.2.2.2.1, OQ (α := Int) b472 pre473 r467.2.2.2.2.2.2]), (b469, RV 127 [Enc.v (r467.2.1 : (List Int)), OL (α := Int) b470 r467.2.2.1]), (b470, RL (α := Int) 3 r467.2.2.1), (b471, RL (α := Int) 3 r467.2.2.2.2.2.1), (b472, RL (α := Int) 3 (pre473 ++ r467.2.2.2.2.2.2))], rfl, rfl, HSub_app nd, ?_⟩
                    refine DR0 (gc := true) rfl (vok_p (C := cx) (p_neB kd4 rfl rfl)) rfl rfl ?_
                    refine DRend ?_
                    refine hK466 _ _ ?_
                    refine TK.cond (b := (r467.1 != r474.1)) rfl (fun hc => ?_) (fun hc => ?_)
                    · have hX := ite_t hc hX
                      refine TK.seq_k fun K483 hK483 => ?_
                      refine TK.reg ?_
                      refine TL.p (C := cx) (gc := true) (p_mv rfl) rfl rfl ?_
                      refine TL.nil ?_
                      refine hK483 _ _ ?_
                      refine TK.ret ?_
                      obtain rfl := hR338 _ (some_in hX).symm
                      replace hX := hA338
                      try dsimp only [thenQ]
                      exact ret1 (v := Enc.v (false : Bool)) rfl (by obtain rfl := some_in hX; rfl) (v_val _)
                    · have hX := ite_f hc hX
                      refine TK.skip ?_
                      exact J375 r467.2.1 r467.2.2.1 r467.2.2.2.1 r467.2.2.2.2.1 r467.2.2.2.2.2.1 r467.2.2.2.2.2.2 r474.2.1 r474.2.2.1 r474.2.2.2.1 r474.2.2.2.2.1 r474.2.2.2.2.2 _ _ ⟨b470, b469, b471, b472, pre473, b339, b477, b478, b479, b476, b480, b481, pre482, b351, rfl, (Nd.pick nd (is := [9, 8, 10, 11, 7, 2, 3, 4, 1, 5, 6, 0]) (by decide)), (HSub.pick nd (is := [9, 8, 10, 11, 7, 2, 3, 4, 1, 5, 6, 0]) (by decide))⟩ hX
                  · have hX := ite_f hc hX
                    refine TK.seq_k fun K484 hK484 => ?_
                    refine TK.reg ?_
                    refine TL.p (C := cx) (gc := true) (p_eql rfl rfl) rfl rfl ?_
                    refine TL.p (C := cx) (gc := true) (p_mv rfl) rfl rfl ?_
                    refine TL.nil ?_
                    refine hK484 _ _ ?_
                    refine TK.cond (b := (e370.Way == (2 : Int))) rfl (fun hc => ?_) (fun hc => ?_)
                    · have hX := ite_t hc hX
                      refine TK.seq_k fun K485 hK485 => ?_
                      refine TK.pick [1, 2, 3, 4, 5, 0, 6, 7, 8, 9, 10, 11, 12] nd (by decide) fun nd => ?_
                      have ndS : Nd [(b371, RV 76 [Enc.v (e370.Way : Int), Enc.v (e370.N : Int), Enc.v (e370.Fail : Bool), Enc.v (e370.Labels : (List Int))]), (b353, RL (α := Int) 3 l354), (b355, RL (α := Int) 3 l356), (b357, RL (α := Int) 3 l358), (b352, RV 118 [OL (α := Int) b353 l354, OL (α := Int) b355 l356, OL (α := Int) b357 l358]), (b359, RL (α := Int) 3 l360), (b361, RL (α := Int) 3 (pre362 ++ l363)), (b351, RV 84 [.ref b352 0 3, OL (α := Int) b359 l360, OQ (α := Int) b361 pre362 l363])] := Nd.pick nd (is := [5, 6, 7, 8, 9, 10, 11, 12]) (by decide)
                      refine TK.drwX (h := [(b342, RL (α := Int) 3 l343), (b340, RV 127 [Enc.v (c341 : (List Int)), OL (α := Int) b342 l343]), (b346, RL (α := Int) 3 l347), (b348, RL (α := Int) 3 (pre349 ++ l350)), (b339, RV 109 [.ref b340 0 2, Enc.v (c344 : Int), Enc.v (c345 : (List Int)), OL (α := Int) b346 l347, OQ (α := Int) b348 pre349 l350])]) (hS := [(b371, RV 76 [Enc.v (e370.Way : Int), Enc.v (e370.N : Int), Enc.v (e370.Fail : Bool), Enc.v (e370.Labels : (List Int))]), (b353, RL (α := Int) 3 l354), (b355, RL (α := Int) 3 l356), (b357, RL (α := Int) 3 l358), (b352, RV 118 [OL (α := Int) b353 l354, OL (α := Int) b355 l356, OL (α := Int) b357 l358]), (b359, RL (α := Int) 3 l360), (b361, RL (α := Int) 3 (pre362 ++ l363)), (b351, RV 84 [.ref b352 0 3, OL (α := Int) b359 l360, OQ (α := Int) b361 pre362 l363])]) [(0, 0), (0, 1), (0, 2), (0, 3), (0, 4), (0, 5), (2, 6), (0, 7), (0, 8), (0, 9), (0, 10), (0, 11)] mixed (by kernel_rfl) (HSub_app nd) ?_
                      refine DR0 (gc := true) rfl (vok_p (C := cx) (p_mv rfl)) rfl rfl ?_
                      refine DR0 (gc := true) rfl (vok_p (C := cx) (p_faV fs76_3 (by decide) rfl ndS (j := 0) rfl rfl)) rfl rfl ?_
                      refine DR0 (gc := true) rfl (vok_p (C := cx) (p_ldV (v := Enc.v (e370.Labels : (List Int))) ty46 rfl rfl ndS (j := 0) rfl rfl rfl rfl rfl)) rfl rfl ?_
                      obtain ⟨u486, hu486, hX⟩ := bind_some hX
                      refine DR0 (gc := true) rfl (vok_appV (C := cx) kd46 bo46 ty3 rfl rfl rfl (Src_L _) (by decide) (need_t hu486)) rfl rfl ?_
                      refine DR0 (gc := true) rfl (vok_p (C := cx) (p_faV fs76_1 (by decide) rfl ndS (j := 0) rfl rfl)) rfl rfl ?_
                      refine DR0 (gc := true) rfl (vok_p (C := cx) (p_ldV (v := Enc.v (e370.N : Int)) ty3 rfl rfl ndS (j := 0) rfl rfl rfl rfl rfl)) rfl rfl ?_
                      obtain ⟨r487, hr487, hX⟩ := bind_some hX
                      refine DR2 rfl rfl ?_
                      refine TL.pick [4, 1, 0, 2, 3, 5, 6, 7, 8, 9, 10, 11, 12] nd (by decide) fun nd => ?_
                      refine TL.tcX [(b339, RV 109 [.ref b340 0 2, Enc.v (c344 : Int), Enc.v (c345 : (List Int)), OL (α := Int) b346 l347, OQ (α := Int) b348 pre349 l350]), (b340, RV 127 [Enc.v (c341 : (List Int)), OL (α := Int) b342 l343]), (b342, RL (α := Int) 3 l343), (b346, RL (α := Int) 3 l347), (b348, RL (α := Int) 3 (pre349 ++ l350))] [(b371, RV 76 [Enc.v (e370.Way : Int), Enc.v (e370.N : Int), Enc.v (e370.Fail : Bool), Enc.v (e370.Labels : (List Int))]), (b353, RL (α := Int) 3 l354), (b355, RL (α := Int) 3 l356), (b357, RL (α := Int) 3 l358), (b352, RV 118 [OL (α := Int) b353 l354, OL (α := Int) b355 l356, OL (α := Int) b357 l358]), (b359, RL (α := Int) 3 l360), (b361, RL (α := Int) 3 (pre362 ++ l363)), (b351, RV 84 [.ref b352 0 3, OL (α := Int) b359 l360, OQ (α := Int) b361 pre362 l363])] rfl nd (dlt rfl) rfl ⟨rfl, ⟨rfl, ⟨rfl, ⟨rfl, trivial⟩⟩⟩⟩ (ok_robot_Robot_Serve e370.Labels e370.N c341 l343 c344 c345 l347 l350 b339 b340 b342 b346 b348 pre349 (Nd.take nd 5 rfl) _ hr487) ?_
                      rintro _ _ hQ nd
                      obtain ⟨b489, b490, b491, b492, pre493, rfl, rfl⟩ := hQ
                      refine TL.nil ⟨_, [(b339, RV 109 [.ref b489 0 2, Enc.v (r487.2.2.2.2.1 : Int), Enc.v (r487.2.2.2.2.2.1 : (List Int)), OL (α := Int) b491 r487.2.2.2.2.2.2.1, OQ (α := Int) b492 pre493 r487.2.2.2.2.2.2.2]), (b489, RV 127 [Enc.v (r487.2.2.1 : (List Int)), OL (α := Int) b490 r487.2.2.2.1]), (b490, RL (α := Int) 3 r487.2.2.2.1), (b491, RL (α := Int) 3 r487.2.2.2.2.2.2.1), (b492, RL (α := Int) 3 (pre493 ++ r487.2.2.2.2.2.2.2))], rfl, rfl, HSub_app nd, ?_⟩
                      refine DR0 (gc := true) rfl (vok_p (C := cx) (p_mv rfl)) rfl rfl ?_
                      refine DR0 (gc := true) rfl (vok_p (C := cx) (p_ex rfl rfl (by decide))) rfl rfl ?_
                      refine DR0 (gc := true) rfl (vok_p (C := cx) (p_ex rfl rfl (by decide))) rfl rfl ?_
                      refine DR0 (gc := true) rfl (vok_p (C := cx) (p_mv rfl)) rfl rfl ?_
                      refine DR0 (gc := true) rfl (vok_p (C := cx) (p_mv rfl)) rfl rfl ?_
                      refine DRend ?_
                      refine hK485 _ _ ?_
                      refine TK.seq_k fun K494 hK494 => ?_
                      refine TK.reg ?_
                      refine TL.p (C := cx) (gc := true) (p_mv rfl) rfl rfl ?_
                      refine TL.p (C := cx) (gc := true) (p_faV fs76_3 (by decide) rfl nd (j := 5) rfl rfl) rfl rfl ?_
                      refine TL.p (C := cx) (gc := true) (p_ldV (v := Enc.v (e370.Labels : (List Int))) ty46 rfl rfl nd (j := 5) rfl rfl rfl rfl rfl) rfl rfl ?_
                      refine TL.p (C := cx) (gc := true) (p_faV fs76_1 (by decide) rfl nd (j := 5) rfl rfl) rfl rfl ?_
                      refine TL.p (C := cx) (gc := true) (p_ldV (v := Enc.v (e370.N : Int)) ty3 rfl rfl nd (j := 5) rfl rfl rfl rfl rfl) rfl rfl ?_
                      obtain ⟨r495, hr495, hX⟩ := bind_some hX
                      refine TL.pick [12, 9, 6, 7, 8, 10, 11, 0, 1, 2, 3, 4, 5] nd (by decide) fun nd => ?_
                      refine TL.tcX [(b351, RV 84 [.ref b352 0 3, OL (α := Int) b359 l360, OQ (α := Int) b361 pre362 l363]), (b352, RV 118 [OL (α := Int) b353 l354, OL (α := Int) b355 l356, OL (α := Int) b357 l358]), (b353, RL (α := Int) 3 l354), (b355, RL (α := Int) 3 l356), (b357, RL (α := Int) 3 l358), (b359, RL (α := Int) 3 l360), (b361, RL (α := Int) 3 (pre362 ++ l363))] [(b339, RV 109 [.ref b489 0 2, Enc.v (r487.2.2.2.2.1 : Int), Enc.v (r487.2.2.2.2.2.1 : (List Int)), OL (α := Int) b491 r487.2.2.2.2.2.2.1, OQ (α := Int) b492 pre493 r487.2.2.2.2.2.2.2]), (b489, RV 127 [Enc.v (r487.2.2.1 : (List Int)), OL (α := Int) b490 r487.2.2.2.1]), (b490, RL (α := Int) 3 r487.2.2.2.1), (b491, RL (α := Int) 3 r487.2.2.2.2.2.2.1), (b492, RL (α := Int) 3 (pre493 ++ r487.2.2.2.2.2.2.2)), (b371, RV 76 [Enc.v (e370.Way : Int), Enc.v (e370.N : Int), Enc.v (e370.Fail : Bool), Enc.v (e370.Labels : (List Int))])] rfl nd (dlt rfl) rfl ⟨rfl, ⟨rfl, ⟨rfl, ⟨rfl, trivial⟩⟩⟩⟩ (ok_cartridgeref22_Robot_Serve e370.Labels e370.N l354 l356 l358 l360 l363 b351 b352 b353 b355 b357 b359 b361 pre362 (Nd.take nd 7 rfl) _ hr495) ?_
                      rintro _ _ hQ nd
                      obtain ⟨b497, b498, b499, b500, b501, b502, pre503, rfl, rfl⟩ := hQ
                      refine TL.p (C := cx) (gc := true) (p_mv rfl) rfl rfl ?_
                      refine TL.p (C := cx) (gc := true) (p_ex rfl rfl (by decide)) rfl rfl ?_
                      refine TL.p (C := cx) (gc := true) (p_ex rfl rfl (by decide)) rfl rfl ?_
                      refine TL.p (C := cx) (gc := true) (p_mv rfl) rfl rfl ?_
                      refine TL.p (C := cx) (gc := true) (p_mv rfl) rfl rfl ?_
                      refine TL.nil ?_
                      refine hK494 _ _ ?_
                      refine TK.seq_k fun K504 hK504 => ?_
                      refine TK.reg ?_
                      refine TL.p (C := cx) (gc := true) (p_mv rfl) rfl rfl ?_
                      refine TL.p (C := cx) (gc := true) (p_mv rfl) rfl rfl ?_
                      refine TL.p (C := cx) (gc := true) (p_neq rfl rfl) rfl rfl ?_
                      refine TL.p (C := cx) (gc := true) (p_mv rfl) rfl rfl ?_
                      refine TL.p (C := cx) (gc := (!((r487.1 != r495.1)))) (p_mv rfl (hg := fun e => rfl)) (gcF1 rfl) rfl ?_
                      obtain ⟨r505, hr505, hX⟩ := bind_some hX
                      refine TL.cvX (gcF1 rfl) rfl rfl (fun e => ⟨rfl, ⟨e, trivial⟩⟩) (fun e => ok_cartridgelaw24_num r487.2.1 _ (optG_t hr505 e)) ?_
                      refine TL.p (C := cx) (gc := (!((r487.1 != r495.1)))) (p_mv rfl (hg := fun e => rfl)) (gcF1 rfl) rfl ?_
                      refine TL.p (C := cx) (gc := (!((r487.1 != r495.1)))) (p_neq rfl rfl (hg := fun e => ⟨e, e⟩)) (gcF1 rfl) rfl ?_
                      refine TL.p (C := cx) (gc := true) (p_or rfl rfl (fun e => ⟨rfl, fun h => (not_t h)⟩)) rfl rfl ?_
                      refine TL.nil ?_
                      refine hK504 _ _ ?_
                      refine TK.cond (b := ((r487.1 != r495.1) || (r505 != r495.2.1))) rfl (fun hc => ?_) (fun hc => ?_)
                      · have hX := ite_t hc hX
                        refine TK.seq_k fun K506 hK506 => ?_
                        refine TK.reg ?_
                        refine TL.p (C := cx) (gc := true) (p_mv rfl) rfl rfl ?_
                        refine TL.nil ?_
                        refine hK506 _ _ ?_
                        refine TK.ret ?_
                        obtain rfl := hR338 _ (some_in hX).symm
                        replace hX := hA338
                        try dsimp only [thenQ]
                        exact ret1 (v := Enc.v (false : Bool)) rfl (by obtain rfl := some_in hX; rfl) (v_val _)
                      · have hX := ite_f hc hX
                        refine TK.skip ?_
                        exact J375 r487.2.2.1 r487.2.2.2.1 r487.2.2.2.2.1 r487.2.2.2.2.2.1 r487.2.2.2.2.2.2.1 r487.2.2.2.2.2.2.2 r495.2.2.1 r495.2.2.2.1 r495.2.2.2.2.1 r495.2.2.2.2.2.1 r495.2.2.2.2.2.2 _ _ ⟨b490, b489, b491, b492, pre493, b339, b498, b499, b500, b497, b501, b502, pre503, b351, rfl, (Nd.pick nd (is := [9, 8, 10, 11, 7, 2, 3, 4, 1, 5, 6, 0]) (by decide)), (HSub.pick nd (is := [9, 8, 10, 11, 7, 2, 3, 4, 1, 5, 6, 0]) (by decide))⟩ hX
                    · have hX := ite_f hc hX
                      refine TK.skip ?_
                      exact J375 c341 l343 c344 c345 l347 l350 l354 l356 l358 l360 l363 _ _ ⟨b342, b340, b346, b348, pre349, b339, b353, b355, b357, b352, b359, b361, pre362, b351, rfl, (Nd.pick nd (is := [1, 2, 3, 4, 5, 6, 7, 8, 9, 10, 11, 12]) (by decide)), (HSub.pick nd (is := [1, 2, 3, 4, 5, 6, 7, 8, 9, 10, 11, 12]) (by decide))⟩ hX
            · have hX := ite_f hc hX
              refine TK.exit ?_
              obtain rfl := hR338 _ (some_in hX).symm
              exact E338 _ _ ⟨(), rfl, (Nd.pick nd (is := []) (by decide)), (HSub.pick nd (is := []) (by decide))⟩ hA338

end Go.Proofs.Ytgkbjnhpmlfgdaa
