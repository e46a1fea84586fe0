import Derived.Test.YtjkjoihlpnahdaaXFn
import Derived.Test.YtjkjoihlpnahdaaXS
import Derived.Test.YtjkjoihlpnahdaaAmK0
import Derived.Test.YtjkjoihlpnahdaaAmK1
import Derived.Test.YtjkjoihlpnahdaaXP0
/- That they do. -/
namespace Go.Proofs.Ytjkjoihlpnahdaa
open Go.AM Go.AX
set_option linter.unusedVariables false
set_option maxRecDepth 20000

/-- cartridge/cartridgelaw22.ShelfOne -/
theorem ok_cartridgelaw22_ShelfOne (n1 : Int) (drives2 : Int) (l3 : (List Act_law22)) (r : Bool) (hX : X.cartridgelaw22_ShelfOne n1 drives2 l3 = some r) : Fun Try.prog 7 [Enc.v (n1 : Int), Enc.v (drives2 : Int), Enc.v (l3 : (List Act_law22))] (· = Enc.v (r : Bool)) := by
  refine Fun.of b7 (Nat.le_of_ble_eq_true rfl) (allVal.mem ⟨(by exact (v_val _)), (by exact (v_val _)), (by exact (v_val _)), trivial⟩) ?_
  unfold k7
  have nd : Nd [] := Nd_nil
  unfold X.cartridgelaw22_ShelfOne at hX
  refine TK.seq_k fun K4 hK4 => ?_
  refine TK.reg ?_
  refine TL.p (C := cx) (gc := true) (p_mv rfl) rfl rfl ?_
  refine TL.nil ?_
  refine hK4 _ _ ?_
  refine TK.seq_k fun K5 hK5 => ?_
  refine TK.reg ?_
  obtain ⟨r6, hr6, hX⟩ := bind_some hX
  refine TL.cvX rfl rfl rfl (fun _ => ⟨rfl, trivial⟩) (fun e => ok_cartridgelaw22_alive  _ hr6) ?_
  refine TL.p (C := cx) (gc := true) (p_mv rfl) rfl rfl ?_
  refine TL.nil ?_
  refine hK5 _ _ ?_
  refine TK.seq_k fun K7 hK7 => ?_
  refine TK.seq_k fun K8 hK8 => ?_
  refine TK.reg ?_
  refine TL.p (C := cx) (gc := true) (p_mv rfl) rfl rfl ?_
  refine TL.p (C := cx) (gc := true) (p_not rfl) rfl rfl ?_
  refine TL.p (C := cx) (gc := true) (p_mv rfl) rfl rfl ?_
  refine TL.p (C := cx) (gc := (!((!r6)))) (p_mv rfl (hg := fun e => rfl)) (gcF1 rfl) rfl ?_
  refine TL.p (C := cx) (gc := (!((!r6)))) (p_lss rfl rfl (hg := fun e => ⟨e, rfl⟩)) (gcF1 rfl) rfl ?_
  refine TL.p (C := cx) (gc := true) (p_or rfl rfl (fun e => ⟨rfl, fun h => (not_t h)⟩)) rfl rfl ?_
  refine TL.p (C := cx) (gc := true) (p_mv rfl) rfl rfl ?_
  refine TL.p (C := cx) (gc := (!(((!r6) || (decide (n1 < (0 : Int))))))) (p_mv rfl (hg := fun e => rfl)) (gcF1 rfl) rfl ?_
  refine TL.p (C := cx) (gc := (!(((!r6) || (decide (n1 < (0 : Int))))))) (p_gtr rfl rfl (hg := fun e => ⟨e, rfl⟩)) (gcF1 rfl) rfl ?_
  refine TL.p (C := cx) (gc := true) (p_or rfl rfl (fun e => ⟨rfl, fun h => (not_t h)⟩)) rfl rfl ?_
  refine TL.p (C := cx) (gc := true) (p_mv rfl) rfl rfl ?_
  refine TL.p (C := cx) (gc := (!((((!r6) || (decide (n1 < (0 : Int)))) || (decide (n1 > (30 : Int))))))) (p_mv rfl (hg := fun e => rfl)) (gcF1 rfl) rfl ?_
  refine TL.p (C := cx) (gc := (!((((!r6) || (decide (n1 < (0 : Int)))) || (decide (n1 > (30 : Int))))))) (p_lss rfl rfl (hg := fun e => ⟨e, rfl⟩)) (gcF1 rfl) rfl ?_
  refine TL.p (C := cx) (gc := true) (p_or rfl rfl (fun e => ⟨rfl, fun h => (not_t h)⟩)) rfl rfl ?_
  refine TL.p (C := cx) (gc := true) (p_mv rfl) rfl rfl ?_
  refine TL.p (C := cx) (gc := (!(((((!r6) || (decide (n1 < (0 : Int)))) || (decide (n1 > (30 : Int)))) || (decide (drives2 < (1 : Int))))))) (p_mv rfl (hg := fun e => rfl)) (gcF1 rfl) rfl ?_
  refine TL.p (C := cx) (gc := (!(((((!r6) || (decide (n1 < (0 : Int)))) || (decide (n1 > (30 : Int)))) || (decide (drives2 < (1 : Int))))))) (p_gtr rfl rfl (hg := fun e => ⟨e, rfl⟩)) (gcF1 rfl) rfl ?_
  refine TL.p (C := cx) (gc := true) (p_or rfl rfl (fun e => ⟨rfl, fun h => (not_t h)⟩)) rfl rfl ?_
  refine TL.p (C := cx) (gc := true) (p_mv rfl) rfl rfl ?_
  refine TL.p (C := cx) (gc := (!((((((!r6) || (decide (n1 < (0 : Int)))) || (decide (n1 > (30 : Int)))) || (decide (drives2 < (1 : Int)))) || (decide (drives2 > (4 : Int))))))) (p_mv rfl (hg := fun e => rfl)) (gcF1 rfl) rfl ?_
  refine TL.p (C := cx) (gc := (!((((((!r6) || (decide (n1 < (0 : Int)))) || (decide (n1 > (30 : Int)))) || (decide (drives2 < (1 : Int)))) || (decide (drives2 > (4 : Int))))))) (p_lenL (xs := l3) kd47 rfl (hg := fun e => e)) (gcF1 rfl) rfl ?_
  refine TL.p (C := cx) (gc := (!((((((!r6) || (decide (n1 < (0 : Int)))) || (decide (n1 > (30 : Int)))) || (decide (drives2 < (1 : Int)))) || (decide (drives2 > (4 : Int))))))) (p_gtr rfl rfl (hg := fun e => ⟨e, rfl⟩)) (gcF1 rfl) rfl ?_
  refine TL.p (C := cx) (gc := true) (p_or rfl rfl (fun e => ⟨rfl, fun h => (not_t h)⟩)) rfl rfl ?_
  refine TL.nil ?_
  refine hK8 _ _ ?_
  refine TK.cond (b := ((((((!r6) || (decide (n1 < (0 : Int)))) || (decide (n1 > (30 : Int)))) || (decide (drives2 < (1 : Int)))) || (decide (drives2 > (4 : Int)))) || (decide ((l3.length : Int) > (100 : Int))))) rfl (fun hc => ?_) (fun hc => ?_)
  · have hX := ite_t hc hX
    refine TK.seq_k fun K9 hK9 => ?_
    refine TK.reg ?_
    refine TL.p (C := cx) (gc := true) (p_mv rfl) rfl rfl ?_
    refine TL.p (C := cx) (gc := true) (p_mv rfl) rfl rfl ?_
    refine TL.nil ?_
    refine hK9 _ _ ?_
    refine TK.ret ?_
    try dsimp only [thenQ]
    exact ret1 (v := Enc.v (r6 : Bool)) rfl (by obtain rfl := some_in hX; rfl) (v_val _)
  · have hX := ite_f hc hX
    refine TK.skip ?_
    refine hK7 _ _ ?_
    refine TK.seq_k fun K10 hK10 => ?_
    refine TK.reg ?_
    refine TL.p (C := cx) (gc := true) (p_mv rfl) rfl rfl ?_
    refine TL.nil ?_
    refine hK10 _ _ ?_
    refine TK.ownL (α := Int) 8 3 nd rfl (.inl rfl) fun b11 nd => ?_
    refine TK.seq_k fun K12 hK12 => ?_
    refine TK.seq_k fun K13 hK13 => ?_
    refine TK.reg ?_
    refine TL.p (C := cx) (gc := true) (p_mv rfl) rfl rfl ?_
    refine TL.nil ?_
    refine hK13 _ _ ?_
    refine TK.block ?_
    obtain ⟨o14, hO14, hA14⟩ := bind_some hX
    have E14 : ∀ (l19 : List Int) (env : Env) (h : Hp), (∃ b18, keepE [0, 1, 2, 8] env = [(0, true, Enc.v (n1 : Int)), (1, true, Enc.v (drives2 : Int)), (2, true, Enc.v (l3 : (List Act_law22))), (8, true, OL (α := Int) b18 l19)] ∧ Nd [(b18, RL (α := Int) 3 l19)] ∧ HSub [(b18, RL (α := Int) 3 l19)] h) → X.cartridgelaw22_ShelfOne_e14 drives2 l3 n1 l19 = some r → K12 env h := by
      intro l19 env h hE hX
      obtain ⟨b18, henv, nd, hs⟩ := hE
      unfold X.cartridgelaw22_ShelfOne_e14 at hX
      refine hK12 _ _ (TK.keep [0, 1, 2, 8] ?_)
      rw [henv]
      refine TK.subH hs ?_
      refine TK.seq_k fun K20 hK20 => ?_
      refine TK.reg ?_
      refine TL.p (C := cx) (gc := true) (p_mv rfl) rfl rfl ?_
      refine TL.p (C := cx) (gc := true) (p_mv rfl) rfl rfl ?_
      refine TL.lay [(8, L l19), (53, L l19)] nd (j := 0) rfl ⟨⟨_, rfl, fix_OL nd (j := 0) rfl, rfl⟩, ⟨⟨_, rfl, fix_OL nd (j := 0) rfl, rfl⟩, trivial⟩⟩ fun nd => ?_
      obtain ⟨r21, hr21, hX⟩ := bind_some hX
      refine TL.tcX [] [] rfl nd (dlt rfl) rfl ⟨rfl, ⟨rfl, ⟨rfl, trivial⟩⟩⟩ (ok_shelf_New l19 drives2 (Nd.take nd 0 rfl) _ hr21) ?_
      rintro _ _ hQ nd
      cases hqr21 : r21.1 with
      | none =>
        simp only [hqr21] at hQ hX
        obtain ⟨rfl, rfl⟩ := hQ
        refine TL.p (C := cx) (gc := true) (p_mv rfl) rfl rfl ?_
        refine TL.p (C := cx) (gc := true) (p_ex rfl rfl (by decide)) rfl rfl ?_
        refine TL.p (C := cx) (gc := true) (p_ex rfl rfl (by decide)) rfl rfl ?_
        refine TL.p (C := cx) (gc := true) (p_mv rfl) rfl rfl ?_
        refine TL.p (C := cx) (gc := true) (p_mv rfl) rfl rfl ?_
        refine TL.nil ?_
        refine hK20 _ _ ?_
        refine TK.seq_k fun K22 hK22 => ?_
        refine TK.seq_k fun K23 hK23 => ?_
        refine TK.reg ?_
        refine TL.p (C := cx) (gc := true) (p_mv rfl) rfl rfl ?_
        obtain ⟨r24, hr24, hX⟩ := bind_some hX
        refine TL.cvX rfl rfl rfl (fun _ => ⟨rfl, ⟨rfl, trivial⟩⟩) (fun e => ok_cartridgelaw22_num r21.2 _ hr24) ?_
        refine TL.p (C := cx) (gc := true) (p_neq rfl rfl) rfl rfl ?_
        refine TL.p (C := cx) (gc := true) (p_mv rfl) rfl rfl ?_
        refine TL.p (C := cx) (gc := (!((r24 != (0 : Int))))) (p_mv rfl (hg := fun e => rfl)) (gcF1 rfl) rfl ?_
        refine TL.p (C := cx) (gc := (!((r24 != (0 : Int))))) (p_eqN kd48 rfl rfl (hg := fun e => ⟨e, rfl⟩)) (gcF1 rfl) rfl ?_
        refine TL.p (C := cx) (gc := true) (p_or rfl rfl (fun e => ⟨rfl, fun h => (not_t h)⟩)) rfl rfl ?_
        refine TL.nil ?_
        refine hK23 _ _ ?_
        refine TK.cond (b := ((r24 != (0 : Int)) || true)) rfl (fun _ => ?_) (fun hc => by simp at hc)
        refine TK.seq_k fun K25 hK25 => ?_
        refine TK.reg ?_
        refine TL.p (C := cx) (gc := true) (p_mv rfl) rfl rfl ?_
        refine TL.nil ?_
        refine hK25 _ _ ?_
        refine TK.ret ?_
        try dsimp only [thenQ]
        exact ret1 (v := Enc.v (false : Bool)) rfl (by obtain rfl := some_in hX; rfl) (v_val _)
      | some o26 =>
        simp only [hqr21] at hQ hX
        obtain ⟨b27, b28, rfl, rfl⟩ := hQ
        refine TL.p (C := cx) (gc := true) (p_mv rfl) rfl rfl ?_
        refine TL.p (C := cx) (gc := true) (p_ex rfl rfl (by decide)) rfl rfl ?_
        refine TL.p (C := cx) (gc := true) (p_ex rfl rfl (by decide)) rfl rfl ?_
        refine TL.p (C := cx) (gc := true) (p_mv rfl) rfl rfl ?_
        refine TL.p (C := cx) (gc := true) (p_mv rfl) rfl rfl ?_
        refine TL.nil ?_
        refine hK20 _ _ ?_
        refine TK.seq_k fun K29 hK29 => ?_
        refine TK.seq_k fun K30 hK30 => ?_
        refine TK.reg ?_
        refine TL.p (C := cx) (gc := true) (p_mv rfl) rfl rfl ?_
        obtain ⟨r31, hr31, hX⟩ := bind_some hX
        refine TL.cvX rfl rfl rfl (fun _ => ⟨rfl, ⟨rfl, trivial⟩⟩) (fun e => ok_cartridgelaw22_num r21.2 _ hr31) ?_
        refine TL.p (C := cx) (gc := true) (p_neq rfl rfl) rfl rfl ?_
        refine TL.p (C := cx) (gc := true) (p_mv rfl) rfl rfl ?_
        refine TL.p (C := cx) (gc := (!((r31 != (0 : Int))))) (p_mv rfl (hg := fun e => rfl)) (gcF1 rfl) rfl ?_
        refine TL.p (C := cx) (gc := (!((r31 != (0 : Int))))) (p_eqP kd48 rfl rfl (fun _ => refOK_of nd (j := 0) rfl rfl) (hg := fun e => ⟨e, rfl⟩)) (gcF1 rfl) rfl ?_
        refine TL.p (C := cx) (gc := true) (p_or rfl rfl (fun e => ⟨rfl, fun h => (not_t h)⟩)) rfl rfl ?_
        refine TL.nil ?_
        refine hK30 _ _ ?_
        refine TK.cond (b := ((r31 != (0 : Int)) || false)) rfl (fun hc => ?_) (fun hc => ?_)
        · have hX := ite_t hc hX
          refine TK.seq_k fun K32 hK32 => ?_
          refine TK.reg ?_
          refine TL.p (C := cx) (gc := true) (p_mv rfl) rfl rfl ?_
          refine TL.nil ?_
          refine hK32 _ _ ?_
          refine TK.ret ?_
          try dsimp only [thenQ]
          exact ret1 (v := Enc.v (false : Bool)) rfl (by obtain rfl := some_in hX; rfl) (v_val _)
        · have hX := ite_f hc hX
          refine TK.skip ?_
          refine hK29 _ _ ?_
          refine TK.seq_k fun K33 hK33 => ?_
          refine TK.seq_k fun K34 hK34 => ?_
          refine TK.reg ?_
          refine TL.p (C := cx) (gc := true) (p_mv rfl) rfl rfl ?_
          refine TL.nil ?_
          refine hK34 _ _ ?_
          refine TK.block ?_
          obtain ⟨o35, hO35, hA35⟩ := bind_some hX
          have E35 : ∀ (env : Env) (h : Hp), (∃ _u : Unit, keepE [] env = [] ∧ Nd [] ∧ HSub [] h) → X.cartridgelaw22_ShelfOne_e35 = some r → K33 env h := by
            intro  env h hE hX
            obtain ⟨_u, henv, nd, hs⟩ := hE
            unfold X.cartridgelaw22_ShelfOne_e35 at hX
            refine hK33 _ _ (TK.keep [] ?_)
            rw [henv]
            refine TK.subH hs ?_
            refine TK.seq_k fun K41 hK41 => ?_
            refine TK.reg ?_
            refine TL.p (C := cx) (gc := true) (p_mv rfl) rfl rfl ?_
            refine TL.nil ?_
            refine hK41 _ _ ?_
            refine TK.ret ?_
            try dsimp only [thenQ]
            exact ret1 (v := Enc.v (true : Bool)) rfl (by obtain rfl := some_in hX; rfl) (v_val _)
          refine TK.iter [0, 1, 2, 8, 10, 12] (fun s env h => match s with | (c37, l39, i40) => ∃ b38 b36, env = [(0, true, Enc.v (n1 : Int)), (1, true, Enc.v (drives2 : Int)), (2, true, Enc.v (l3 : (List Act_law22))), (8, true, Enc.v (l19 : (List Int))), (10, true, .ref b36 0 2), (12, true, Enc.v (i40 : Int))] ∧ Nd [(b38, RL (α := Int) 3 l39), (b36, RV 65 [Enc.v (c37 : (List Int)), OL (α := Int) b38 l39])] ∧ HSub [(b38, RL (α := Int) 3 l39), (b36, RV 65 [Enc.v (c37 : (List Int)), OL (α := Int) b38 l39])] h) hO35 ⟨b28, b27, rfl, (Nd.pick nd (is := [1, 0]) (by decide)), (HSub.pick nd (is := [1, 0]) (by decide))⟩ ?_
          rintro ⟨c37, l39, i40⟩ env h x35x ⟨b38, b36, rfl, nd, hs⟩ hX hR35
          refine TK.subH hs ?_
          unfold X.cartridgelaw22_ShelfOne_s35 at hX
          try dsimp only at hX
          refine TK.seq_k fun K42 hK42 => ?_
          refine TK.seq_k fun K43 hK43 => ?_
          refine TK.reg ?_
          refine TL.p (C := cx) (gc := true) (p_mv rfl) rfl rfl ?_
          refine TL.p (C := cx) (gc := true) (p_mv rfl) rfl rfl ?_
          refine TL.p (C := cx) (gc := true) (p_lenL (xs := l3) kd47 rfl) rfl rfl ?_
          refine TL.p (C := cx) (gc := true) (p_lss rfl rfl) rfl rfl ?_
          refine TL.nil ?_
          refine hK43 _ _ ?_
          refine TK.cond (b := (decide (i40 < (l3.length : Int)))) rfl (fun hc => ?_) (fun hc => ?_)
          · have hX := ite_t hc hX
            refine TK.skip ?_
            refine hK42 _ _ ?_
            refine TK.seq_k fun K44 hK44 => ?_
            refine TK.block ?_
            refine TK.seq_k fun K45 hK45 => ?_
            have J45 : ∀ (c47 : (List Int)) (l49 : List Int) (env : Env) (h : Hp), (∃ b48 b46, keepE [0, 1, 2, 8, 10, 12] env = [(0, true, Enc.v (n1 : Int)), (1, true, Enc.v (drives2 : Int)), (2, true, Enc.v (l3 : (List Act_law22))), (8, true, Enc.v (l19 : (List Int))), (10, true, .ref b46 0 2), (12, true, Enc.v (i40 : Int))] ∧ Nd [(b48, RL (α := Int) 3 l49), (b46, RV 65 [Enc.v (c47 : (List Int)), OL (α := Int) b48 l49])] ∧ HSub [(b48, RL (α := Int) 3 l49), (b46, RV 65 [Enc.v (c47 : (List Int)), OL (α := Int) b48 l49])] h) → X.cartridgelaw22_ShelfOne_j45 n1 l19 drives2 i40 c47 l49 = some x35x → K45 env h := by
              intro c47 l49 env h hE hX
              obtain ⟨b48, b46, henv, nd, hs⟩ := hE
              unfold X.cartridgelaw22_ShelfOne_j45 at hX
              refine hK45 _ _ (TK.keep [0, 1, 2, 8, 10, 12] ?_)
              rw [henv]
              refine TK.subH hs ?_
              refine TK.seq_k fun K50 hK50 => ?_
              refine TK.seq_k fun K51 hK51 => ?_
              refine TK.reg ?_
              refine TL.p (C := cx) (gc := true) (p_mv rfl) rfl rfl ?_
              refine TL.nil ?_
              refine hK51 _ _ ?_
              refine TK.block ?_
              obtain ⟨o52, hO52, hA52⟩ := bind_some hX
              have E52 : ∀ (env : Env) (h : Hp), (∃ b57 b56, keepE [0, 1, 2, 8, 10, 12] env = [(0, true, Enc.v (n1 : Int)), (1, true, Enc.v (drives2 : Int)), (2, true, Enc.v (l3 : (List Act_law22))), (8, true, Enc.v (l19 : (List Int))), (10, true, .ref b56 0 2), (12, true, Enc.v (i40 : Int))] ∧ Nd [(b57, RL (α := Int) 3 l49), (b56, RV 65 [Enc.v (c47 : (List Int)), OL (α := Int) b57 l49])] ∧ HSub [(b57, RL (α := Int) 3 l49), (b56, RV 65 [Enc.v (c47 : (List Int)), OL (α := Int) b57 l49])] h) → X.cartridgelaw22_ShelfOne_e52 drives2 c47 l49 i40 = some x35x → K50 env h := by
                intro  env h hE hX
                obtain ⟨b57, b56, henv, nd, hs⟩ := hE
                unfold X.cartridgelaw22_ShelfOne_e52 at hX
                refine hK50 _ _ (TK.keep [0, 1, 2, 8, 10, 12] ?_)
                rw [henv]
                refine TK.subH hs ?_
                refine TK.seq_k fun K58 hK58 => ?_
                refine TK.reg ?_
                refine TL.p (C := cx) (gc := true) (p_mv rfl) rfl rfl ?_
                refine TL.nil ?_
                refine hK58 _ _ ?_
                refine TK.block ?_
                obtain ⟨o59, hO59, hA59⟩ := bind_some hX
                have E59 : ∀ (env : Env) (h : Hp), (∃ b64 b63, keepE [0, 1, 2, 8, 10, 12] env = [(0, true, Enc.v (n1 : Int)), (1, true, Enc.v (drives2 : Int)), (2, true, Enc.v (l3 : (List Act_law22))), (8, true, Enc.v (l19 : (List Int))), (10, true, .ref b63 0 2), (12, true, Enc.v (i40 : Int))] ∧ Nd [(b64, RL (α := Int) 3 l49), (b63, RV 65 [Enc.v (c47 : (List Int)), OL (α := Int) b64 l49])] ∧ HSub [(b64, RL (α := Int) 3 l49), (b63, RV 65 [Enc.v (c47 : (List Int)), OL (α := Int) b64 l49])] h) → X.cartridgelaw22_ShelfOne_e59 c47 l49 i40 = some x35x → K44 env h := by
                  intro  env h hE hX
                  obtain ⟨b64, b63, henv, nd, hs⟩ := hE
                  unfold X.cartridgelaw22_ShelfOne_e59 at hX
                  refine hK44 _ _ (TK.keep [0, 1, 2, 8, 10, 12] ?_)
                  rw [henv]
                  refine TK.subH hs ?_
                  refine TK.reg ?_
                  refine TL.p (C := cx) (gc := true) (p_mv rfl) rfl rfl ?_
                  refine TL.p (C := cx) (gc := true) (p_add rfl rfl) rfl rfl ?_
                  refine TL.p (C := cx) (gc := true) (p_mv rfl) rfl rfl ?_
                  refine TL.nil ?_
                  exact ⟨_, (some_in hX).symm, b64, b63, rfl, (Nd.pick nd (is := [0, 1]) (by decide)), (HSub.pick nd (is := [0, 1]) (by decide))⟩
                refine TK.iter [0, 1, 2, 8, 10, 12, 15] (fun s env h => match s with | d62 => ∃ b61 b60, env = [(0, true, Enc.v (n1 : Int)), (1, true, Enc.v (drives2 : Int)), (2, true, Enc.v (l3 : (List Act_law22))), (8, true, Enc.v (l19 : (List Int))), (10, true, .ref b60 0 2), (12, true, Enc.v (i40 : Int)), (15, true, Enc.v (d62 : Int))] ∧ Nd [(b61, RL (α := Int) 3 l49), (b60, RV 65 [Enc.v (c47 : (List Int)), OL (α := Int) b61 l49])] ∧ HSub [(b61, RL (α := Int) 3 l49), (b60, RV 65 [Enc.v (c47 : (List Int)), OL (α := Int) b61 l49])] h) hO59 ⟨b57, b56, rfl, (Nd.pick nd (is := [0, 1]) (by decide)), (HSub.pick nd (is := [0, 1]) (by decide))⟩ ?_
                rintro d62 env h x59x ⟨b61, b60, rfl, nd, hs⟩ hX hR59
                refine TK.subH hs ?_
                unfold X.cartridgelaw22_ShelfOne_s59 at hX
                try dsimp only at hX
                refine TK.seq_k fun K65 hK65 => ?_
                refine TK.seq_k fun K66 hK66 => ?_
                refine TK.reg ?_
                refine TL.p (C := cx) (gc := true) (p_mv rfl) rfl rfl ?_
                refine TL.p (C := cx) (gc := true) (p_mv rfl) rfl rfl ?_
                refine TL.p (C := cx) (gc := true) (p_lss rfl rfl) rfl rfl ?_
                refine TL.nil ?_
                refine hK66 _ _ ?_
                refine TK.cond (b := (decide (d62 < drives2))) rfl (fun hc => ?_) (fun hc => ?_)
                · have hX := ite_t hc hX
                  refine TK.skip ?_
                  refine hK65 _ _ ?_
                  refine TK.seq_k fun K67 hK67 => ?_
                  refine TK.block ?_
                  refine TK.seq_k fun K68 hK68 => ?_
                  refine TK.reg ?_
                  refine TL.p (C := cx) (gc := true) (p_mv rfl) rfl rfl ?_
                  refine TL.p (C := cx) (gc := true) (p_mv rfl) rfl rfl ?_
                  obtain ⟨r69, hr69, hX⟩ := bind_some hX
                  refine TL.lookX [.vref (ofL [Enc.v (c47 : (List Int)), Enc.v (l49 : (List Int))]) 2 0, Enc.v (d62 : Int)] rfl rfl rfl (fun _ => ⟨rfl, ⟨rfl, ⟨rfl, trivial⟩⟩⟩) ⟨look_ref (l := [Enc.v (c47 : (List Int)), OL (α := Int) b61 l49]) nd (j := 1) rfl ⟨look_v (v := Enc.v (c47 : (List Int))) (v_val _), look_OL nd (j := 0) rfl, trivial⟩, look_v (v := Enc.v (d62 : Int)) (v_val _), trivial⟩ (fun e => ok_shelf_Shelf_Mounted c47 l49 d62 _ hr69) (trivial) ?_
                  refine TL.p (C := cx) (gc := true) (p_mv rfl) rfl rfl ?_
                  refine TL.nil ?_
                  refine hK68 _ _ ?_
                  refine TK.seq_k fun K70 hK70 => ?_
                  refine TK.reg ?_
                  refine TL.p (C := cx) (gc := true) (p_mv rfl) rfl rfl ?_
                  refine TL.p (C := cx) (gc := true) (p_neq rfl rfl) rfl rfl ?_
                  refine TL.p (C := cx) (gc := true) (p_mv rfl) rfl rfl ?_
                  refine TL.p (C := cx) (gc := ((r69 != (0 : Int)))) (p_mv rfl (hg := fun e => rfl)) (gcT1 rfl) rfl ?_
                  refine TL.p (C := cx) (gc := ((r69 != (0 : Int)))) (p_mv rfl (hg := fun e => rfl)) (gcT1 rfl) rfl ?_
                  obtain ⟨r71, hr71, hX⟩ := bind_some hX
                  refine TL.lookX [.vref (ofL [Enc.v (c47 : (List Int)), Enc.v (l49 : (List Int))]) 2 0, Enc.v (r69 : Int)] (gcT1 rfl) rfl rfl (fun e => ⟨rfl, ⟨e, ⟨e, trivial⟩⟩⟩) ⟨look_ref (l := [Enc.v (c47 : (List Int)), OL (α := Int) b61 l49]) nd (j := 1) rfl ⟨look_v (v := Enc.v (c47 : (List Int))) (v_val _), look_OL nd (j := 0) rfl, trivial⟩, look_v (v := Enc.v (r69 : Int)) (v_val _), trivial⟩ (fun e => ok_shelf_Shelf_Drive c47 l49 r69 _ (optG_t hr71 e)) (trivial) ?_
                  refine TL.p (C := cx) (gc := ((r69 != (0 : Int)))) (p_mv rfl (hg := fun e => rfl)) (gcT1 rfl) rfl ?_
                  refine TL.p (C := cx) (gc := ((r69 != (0 : Int)))) (p_neq rfl rfl (hg := fun e => ⟨e, e⟩)) (gcT1 rfl) rfl ?_
                  refine TL.p (C := cx) (gc := true) (p_and rfl rfl (fun e => ⟨rfl, fun h => h⟩)) rfl rfl ?_
                  refine TL.nil ?_
                  refine hK70 _ _ ?_
                  refine TK.cond (b := ((r69 != (0 : Int)) && (r71 != d62))) rfl (fun hc => ?_) (fun hc => ?_)
                  · have hX := ite_t hc hX
                    refine TK.seq_k fun K72 hK72 => ?_
                    refine TK.reg ?_
                    refine TL.p (C := cx) (gc := true) (p_mv rfl) rfl rfl ?_
                    refine TL.nil ?_
                    refine hK72 _ _ ?_
                    refine TK.ret ?_
                    obtain rfl := hR59 _ (some_in hX).symm
                    replace hX := hA59
                    obtain rfl := hR35 _ (some_in hX).symm
                    replace hX := hA35
                    try dsimp only [thenQ]
                    exact ret1 (v := Enc.v (false : Bool)) rfl (by obtain rfl := some_in hX; rfl) (v_val _)
                  · have hX := ite_f hc hX
                    refine TK.skip ?_
                    refine hK67 _ _ ?_
                    refine TK.reg ?_
                    refine TL.p (C := cx) (gc := true) (p_mv rfl) rfl rfl ?_
                    refine TL.p (C := cx) (gc := true) (p_add rfl rfl) rfl rfl ?_
                    refine TL.p (C := cx) (gc := true) (p_mv rfl) rfl rfl ?_
                    refine TL.nil ?_
                    exact ⟨_, (some_in hX).symm, b61, b60, rfl, (Nd.pick nd (is := [0, 1]) (by decide)), (HSub.pick nd (is := [0, 1]) (by decide))⟩
                · have hX := ite_f hc hX
                  refine TK.exit ?_
                  obtain rfl := hR59 _ (some_in hX).symm
                  exact E59 _ _ ⟨b61, b60, rfl, (Nd.pick nd (is := [0, 1]) (by decide)), (HSub.pick nd (is := [0, 1]) (by decide))⟩ hA59
              refine TK.iter [0, 1, 2, 8, 10, 12, 13] (fun s env h => match s with | k55 => ∃ b54 b53, env = [(0, true, Enc.v (n1 : Int)), (1, true, Enc.v (drives2 : Int)), (2, true, Enc.v (l3 : (List Act_law22))), (8, true, Enc.v (l19 : (List Int))), (10, true, .ref b53 0 2), (12, true, Enc.v (i40 : Int)), (13, true, Enc.v (k55 : Int))] ∧ Nd [(b54, RL (α := Int) 3 l49), (b53, RV 65 [Enc.v (c47 : (List Int)), OL (α := Int) b54 l49])] ∧ HSub [(b54, RL (α := Int) 3 l49), (b53, RV 65 [Enc.v (c47 : (List Int)), OL (α := Int) b54 l49])] h) hO52 ⟨b48, b46, rfl, (Nd.pick nd (is := [0, 1]) (by decide)), (HSub.pick nd (is := [0, 1]) (by decide))⟩ ?_
              rintro k55 env h x52x ⟨b54, b53, rfl, nd, hs⟩ hX hR52
              refine TK.subH hs ?_
              unfold X.cartridgelaw22_ShelfOne_s52 at hX
              try dsimp only at hX
              refine TK.seq_k fun K73 hK73 => ?_
              refine TK.seq_k fun K74 hK74 => ?_
              refine TK.reg ?_
              refine TL.p (C := cx) (gc := true) (p_mv rfl) rfl rfl ?_
              refine TL.p (C := cx) (gc := true) (p_mv rfl) rfl rfl ?_
              refine TL.p (C := cx) (gc := true) (p_lss rfl rfl) rfl rfl ?_
              refine TL.nil ?_
              refine hK74 _ _ ?_
              refine TK.cond (b := (decide (k55 < n1))) rfl (fun hc => ?_) (fun hc => ?_)
              · have hX := ite_t hc hX
                refine TK.skip ?_
                refine hK73 _ _ ?_
                refine TK.seq_k fun K75 hK75 => ?_
                refine TK.block ?_
                refine TK.seq_k fun K76 hK76 => ?_
                refine TK.reg ?_
                refine TL.p (C := cx) (gc := true) (p_mv rfl) rfl rfl ?_
                refine TL.p (C := cx) (gc := true) (p_mv rfl) rfl rfl ?_
                refine TL.p (C := cx) (gc := true) (p_mv rfl) rfl rfl ?_
                obtain ⟨e77, he77, hX⟩ := bind_some hX
                refine TL.p (C := cx) (gc := true) (p_iaL (xs := l19) kd22 ty3 rfl rfl rfl (fun _ => he77)) rfl rfl ?_
                refine TL.p (C := cx) (gc := true) (p_ldE (xs := l19) (a := e77) (e77 : Int) ty3 rfl rfl (fun _ => he77) rfl rfl rfl) rfl rfl ?_
                obtain ⟨r78, hr78, hX⟩ := bind_some hX
                refine TL.lookX [.vref (ofL [Enc.v (c47 : (List Int)), Enc.v (l49 : (List Int))]) 2 0, Enc.v (e77 : Int)] rfl rfl rfl (fun _ => ⟨rfl, ⟨rfl, ⟨rfl, trivial⟩⟩⟩) ⟨look_ref (l := [Enc.v (c47 : (List Int)), OL (α := Int) b54 l49]) nd (j := 1) rfl ⟨look_v (v := Enc.v (c47 : (List Int))) (v_val _), look_OL nd (j := 0) rfl, trivial⟩, look_v (v := Enc.v (e77 : Int)) (v_val _), trivial⟩ (fun e => ok_shelf_Shelf_Drive c47 l49 e77 _ hr78) (trivial) ?_
                refine TL.p (C := cx) (gc := true) (p_mv rfl) rfl rfl ?_
                refine TL.nil ?_
                refine hK76 _ _ ?_
                refine TK.seq_k fun K79 hK79 => ?_
                have ndS : Nd [(b54, RL (α := Int) 3 l49), (b53, RV 65 [Enc.v (c47 : (List Int)), OL (α := Int) b54 l49])] := Nd.pick nd (is := [0, 1]) (by decide)
                refine TK.drwX (h := []) (hS := [(b54, RL (α := Int) 3 l49), (b53, RV 65 [Enc.v (c47 : (List Int)), OL (α := Int) b54 l49])]) [(0, 0), (0, 1), (0, 2), (0, 3), (0, 4), (0, 5), (0, 6), (0, 7), (0, 8), (0, 9), (0, 10), (0, 11), (0, 12), (0, 13), (0, 14), (0, 15), (0, 16), (0, 17), (0, 18), (0, 19), (0, 20), (0, 21), (0, 22), (0, 23), (0, 24), (0, 25), (0, 26), (0, 27), (0, 28), (0, 29), (0, 30), (0, 31), (0, 32), (0, 33), (0, 34), (0, 35), (0, 36), (0, 37)] mixed (by kernel_rfl) (HSub_app nd) ?_
                refine DR0 (gc := true) rfl (vok_p (C := cx) (p_mv rfl)) rfl rfl ?_
                refine DR0 (gc := true) rfl (vok_p (C := cx) (p_mv rfl)) rfl rfl ?_
                refine DR0 (gc := true) rfl (vok_p (C := cx) (p_mv rfl)) rfl rfl ?_
                obtain ⟨e80, he80, hX⟩ := bind_some hX
                refine DR0 (gc := true) rfl (vok_p (C := cx) (p_iaL (xs := l19) kd22 ty3 rfl rfl rfl (fun _ => he80))) rfl rfl ?_
                refine DR0 (gc := true) rfl (vok_p (C := cx) (p_ldE (xs := l19) (a := e80) (e80 : Int) ty3 rfl rfl (fun _ => he80) rfl rfl rfl)) rfl rfl ?_
                obtain ⟨r81, hr81, hX⟩ := bind_some hX
                refine DR0 (gc := true) rfl (vok_lookX [.vref (ofL [Enc.v (c47 : (List Int)), Enc.v (l49 : (List Int))]) 2 0, Enc.v (e80 : Int)] rfl (fun _ => ⟨rfl, ⟨rfl, ⟨rfl, trivial⟩⟩⟩) ⟨look_ref (l := [Enc.v (c47 : (List Int)), OL (α := Int) b54 l49]) ndS (j := 1) rfl ⟨look_v (v := Enc.v (c47 : (List Int))) (v_val _), look_OL ndS (j := 0) rfl, trivial⟩, look_v (v := Enc.v (e80 : Int)) (v_val _), trivial⟩ (fun e => ok_shelf_Shelf_Slot c47 l49 e80 _ hr81) (trivial)) rfl rfl ?_
                refine DR0 (gc := true) rfl (vok_p (C := cx) (p_mv rfl)) rfl rfl ?_
                refine DR0 (gc := true) rfl (vok_p (C := cx) (p_eql rfl rfl)) rfl rfl ?_
                refine DR0 (gc := true) rfl (vok_p (C := cx) (p_mv rfl)) rfl rfl ?_
                refine DR0 (gc := true) rfl (vok_p (C := cx) (p_eql rfl rfl)) rfl rfl ?_
                refine DR0 (gc := true) rfl (vok_p (C := cx) (p_neB kd4 rfl rfl)) rfl rfl ?_
                refine DR0 (gc := true) rfl (vok_p (C := cx) (p_mv rfl)) rfl rfl ?_
                refine DR0 (gc := (!(((r81 == k55) != (r78 == ((-1) : Int)))))) rfl (vok_p (C := cx) (p_mv rfl (hg := fun e => rfl))) (gcF1 rfl) rfl ?_
                refine DR0 (gc := (!(((r81 == k55) != (r78 == ((-1) : Int)))))) rfl (vok_p (C := cx) (p_geq rfl rfl (hg := fun e => ⟨e, rfl⟩))) (gcF1 rfl) rfl ?_
                refine DR0 (gc := (!(((r81 == k55) != (r78 == ((-1) : Int)))))) rfl (vok_p (C := cx) (p_mv rfl (hg := fun e => e))) (gcF1 rfl) rfl ?_
                refine DR0 (gc := ((!(((r81 == k55) != (r78 == ((-1) : Int))))) && ((decide (r78 ≥ (0 : Int)))))) rfl (vok_p (C := cx) (p_mv rfl (hg := fun e => rfl))) (gcT rfl) rfl ?_
                refine DR0 (gc := ((!(((r81 == k55) != (r78 == ((-1) : Int))))) && ((decide (r78 ≥ (0 : Int)))))) rfl (vok_p (C := cx) (p_mv rfl (hg := fun e => rfl))) (gcT rfl) rfl ?_
                obtain ⟨r82, hr82, hX⟩ := bind_some hX
                refine DR0 (gc := ((!(((r81 == k55) != (r78 == ((-1) : Int))))) && ((decide (r78 ≥ (0 : Int)))))) rfl (vok_lookX [.vref (ofL [Enc.v (c47 : (List Int)), Enc.v (l49 : (List Int))]) 2 0, Enc.v (r78 : Int)] rfl (fun e => ⟨rfl, ⟨e, ⟨e, trivial⟩⟩⟩) ⟨look_ref (l := [Enc.v (c47 : (List Int)), OL (α := Int) b54 l49]) ndS (j := 1) rfl ⟨look_v (v := Enc.v (c47 : (List Int))) (v_val _), look_OL ndS (j := 0) rfl, trivial⟩, look_v (v := Enc.v (r78 : Int)) (v_val _), trivial⟩ (fun e => ok_shelf_Shelf_Mounted c47 l49 r78 _ (optG_t hr82 e)) (trivial)) (gcT rfl) rfl ?_
                refine DR0 (gc := ((!(((r81 == k55) != (r78 == ((-1) : Int))))) && ((decide (r78 ≥ (0 : Int)))))) rfl (vok_p (C := cx) (p_mv rfl (hg := fun e => rfl))) (gcT rfl) rfl ?_
                refine DR0 (gc := ((!(((r81 == k55) != (r78 == ((-1) : Int))))) && ((decide (r78 ≥ (0 : Int)))))) rfl (vok_p (C := cx) (p_mv rfl (hg := fun e => rfl))) (gcT rfl) rfl ?_
                obtain ⟨e83, he83, hX⟩ := bind_some hX
                refine DR0 (gc := ((!(((r81 == k55) != (r78 == ((-1) : Int))))) && ((decide (r78 ≥ (0 : Int)))))) rfl (vok_p (C := cx) (p_iaL (xs := l19) kd22 ty3 rfl rfl rfl (fun e => optG_t he83 e) (hg := fun e => ⟨e, e⟩))) (gcT rfl) rfl ?_
                refine DR0 (gc := ((!(((r81 == k55) != (r78 == ((-1) : Int))))) && ((decide (r78 ≥ (0 : Int)))))) rfl (vok_p (C := cx) (p_ldE (xs := l19) (a := e83) (e83 : Int) ty3 rfl rfl (fun e => optG_t he83 e) rfl rfl rfl (hg := fun e => e))) (gcT rfl) rfl ?_
                refine DR0 (gc := ((!(((r81 == k55) != (r78 == ((-1) : Int))))) && ((decide (r78 ≥ (0 : Int)))))) rfl (vok_p (C := cx) (p_neq rfl rfl (hg := fun e => ⟨e, e⟩))) (gcT rfl) rfl ?_
                refine DR0 (gc := (!(((r81 == k55) != (r78 == ((-1) : Int)))))) rfl (vok_p (C := cx) (p_and rfl rfl (fun e => ⟨e, fun h => (and_i e h)⟩))) (gcF1 rfl) rfl ?_
                refine DR0 (gc := true) rfl (vok_p (C := cx) (p_or rfl rfl (fun e => ⟨rfl, fun h => (not_t h)⟩))) rfl rfl ?_
                refine DR0 (gc := true) rfl (vok_p (C := cx) (p_mv rfl)) rfl rfl ?_
                refine DR0 (gc := (!((((r81 == k55) != (r78 == ((-1) : Int))) || ((decide (r78 ≥ (0 : Int))) && (r82 != e83)))))) rfl (vok_p (C := cx) (p_mv rfl (hg := fun e => rfl))) (gcF1 rfl) rfl ?_
                refine DR0 (gc := (!((((r81 == k55) != (r78 == ((-1) : Int))) || ((decide (r78 ≥ (0 : Int))) && (r82 != e83)))))) rfl (vok_p (C := cx) (p_mv rfl (hg := fun e => rfl))) (gcF1 rfl) rfl ?_
                refine DR0 (gc := (!((((r81 == k55) != (r78 == ((-1) : Int))) || ((decide (r78 ≥ (0 : Int))) && (r82 != e83)))))) rfl (vok_p (C := cx) (p_mv rfl (hg := fun e => rfl))) (gcF1 rfl) rfl ?_
                obtain ⟨e84, he84, hX⟩ := bind_some hX
                refine DR0 (gc := (!((((r81 == k55) != (r78 == ((-1) : Int))) || ((decide (r78 ≥ (0 : Int))) && (r82 != e83)))))) rfl (vok_p (C := cx) (p_iaL (xs := l19) kd22 ty3 rfl rfl rfl (fun e => optG_t he84 e) (hg := fun e => ⟨e, e⟩))) (gcF1 rfl) rfl ?_
                refine DR0 (gc := (!((((r81 == k55) != (r78 == ((-1) : Int))) || ((decide (r78 ≥ (0 : Int))) && (r82 != e83)))))) rfl (vok_p (C := cx) (p_ldE (xs := l19) (a := e84) (e84 : Int) ty3 rfl rfl (fun e => optG_t he84 e) rfl rfl rfl (hg := fun e => e))) (gcF1 rfl) rfl ?_
                obtain ⟨r85, hr85, hX⟩ := bind_some hX
                refine DR0 (gc := (!((((r81 == k55) != (r78 == ((-1) : Int))) || ((decide (r78 ≥ (0 : Int))) && (r82 != e83)))))) rfl (vok_lookX [.vref (ofL [Enc.v (c47 : (List Int)), Enc.v (l49 : (List Int))]) 2 0, Enc.v (e84 : Int)] rfl (fun e => ⟨rfl, ⟨e, ⟨e, trivial⟩⟩⟩) ⟨look_ref (l := [Enc.v (c47 : (List Int)), OL (α := Int) b54 l49]) ndS (j := 1) rfl ⟨look_v (v := Enc.v (c47 : (List Int))) (v_val _), look_OL ndS (j := 0) rfl, trivial⟩, look_v (v := Enc.v (e84 : Int)) (v_val _), trivial⟩ (fun e => ok_shelf_Shelf_Slot c47 l49 e84 _ (optG_t hr85 e)) (trivial)) (gcF1 rfl) rfl ?_
                refine DR0 (gc := (!((((r81 == k55) != (r78 == ((-1) : Int))) || ((decide (r78 ≥ (0 : Int))) && (r82 != e83)))))) rfl (vok_p (C := cx) (p_geq rfl rfl (hg := fun e => ⟨e, rfl⟩))) (gcF1 rfl) rfl ?_
                refine DR0 (gc := (!((((r81 == k55) != (r78 == ((-1) : Int))) || ((decide (r78 ≥ (0 : Int))) && (r82 != e83)))))) rfl (vok_p (C := cx) (p_mv rfl (hg := fun e => e))) (gcF1 rfl) rfl ?_
                refine DR0 (gc := ((!((((r81 == k55) != (r78 == ((-1) : Int))) || ((decide (r78 ≥ (0 : Int))) && (r82 != e83))))) && ((decide (r85 ≥ (0 : Int)))))) rfl (vok_p (C := cx) (p_mv rfl (hg := fun e => rfl))) (gcT rfl) rfl ?_
                refine DR0 (gc := ((!((((r81 == k55) != (r78 == ((-1) : Int))) || ((decide (r78 ≥ (0 : Int))) && (r82 != e83))))) && ((decide (r85 ≥ (0 : Int)))))) rfl (vok_p (C := cx) (p_geq rfl rfl (hg := fun e => ⟨e, rfl⟩))) (gcT rfl) rfl ?_
                refine DR0 (gc := (!((((r81 == k55) != (r78 == ((-1) : Int))) || ((decide (r78 ≥ (0 : Int))) && (r82 != e83)))))) rfl (vok_p (C := cx) (p_and rfl rfl (fun e => ⟨e, fun h => (and_i e h)⟩))) (gcF1 rfl) rfl ?_
                refine DR0 (gc := true) rfl (vok_p (C := cx) (p_or rfl rfl (fun e => ⟨rfl, fun h => (not_t h)⟩))) rfl rfl ?_
                refine DRend ?_
                refine hK79 _ _ ?_
                refine TK.cond (b := ((((r81 == k55) != (r78 == ((-1) : Int))) || ((decide (r78 ≥ (0 : Int))) && (r82 != e83))) || ((decide (r85 ≥ (0 : Int))) && (decide (r78 ≥ (0 : Int)))))) rfl (fun hc => ?_) (fun hc => ?_)
                · have hX := ite_t hc hX
                  refine TK.seq_k fun K86 hK86 => ?_
                  refine TK.reg ?_
                  refine TL.p (C := cx) (gc := true) (p_mv rfl) rfl rfl ?_
                  refine TL.nil ?_
                  refine hK86 _ _ ?_
                  refine TK.ret ?_
                  obtain rfl := hR52 _ (some_in hX).symm
                  replace hX := hA52
                  obtain rfl := hR35 _ (some_in hX).symm
                  replace hX := hA35
                  try dsimp only [thenQ]
                  exact ret1 (v := Enc.v (false : Bool)) rfl (by obtain rfl := some_in hX; rfl) (v_val _)
                · have hX := ite_f hc hX
                  refine TK.skip ?_
                  refine hK75 _ _ ?_
                  refine TK.reg ?_
                  refine TL.p (C := cx) (gc := true) (p_mv rfl) rfl rfl ?_
                  refine TL.p (C := cx) (gc := true) (p_add rfl rfl) rfl rfl ?_
                  refine TL.p (C := cx) (gc := true) (p_mv rfl) rfl rfl ?_
                  refine TL.nil ?_
                  exact ⟨_, (some_in hX).symm, b54, b53, rfl, (Nd.pick nd (is := [0, 1]) (by decide)), (HSub.pick nd (is := [0, 1]) (by decide))⟩
              · have hX := ite_f hc hX
                refine TK.exit ?_
                obtain rfl := hR52 _ (some_in hX).symm
                exact E52 _ _ ⟨b54, b53, rfl, (Nd.pick nd (is := [0, 1]) (by decide)), (HSub.pick nd (is := [0, 1]) (by decide))⟩ hA52
            refine TK.seq_k fun K87 hK87 => ?_
            refine TK.reg ?_
            refine TL.p (C := cx) (gc := true) (p_mv rfl) rfl rfl ?_
            refine TL.p (C := cx) (gc := true) (p_mv rfl) rfl rfl ?_
            obtain ⟨e88, he88, hX⟩ := bind_some hX
            refine TL.p (C := cx) (gc := true) (p_iaL (xs := l3) kd47 ty55 rfl rfl rfl (fun _ => he88)) rfl rfl ?_
            refine TL.p (C := cx) (gc := true) (p_faE fs55_0 (by decide) rfl) rfl rfl ?_
            refine TL.p (C := cx) (gc := true) (p_ldE (xs := l3) (a := e88) (e88.Way : Int) ty3 rfl rfl (fun _ => he88) rfl rfl rfl) rfl rfl ?_
            refine TL.p (C := cx) (gc := true) (p_eql rfl rfl) rfl rfl ?_
            refine TL.nil ?_
            refine hK87 _ _ ?_
            refine TK.cond (b := (e88.Way == (0 : Int))) rfl (fun hc => ?_) (fun hc => ?_)
            · have hX := ite_t hc hX
              have ndS : Nd [] := Nd.pick nd (is := []) (by decide)
              refine TK.drwX (h := [(b38, RL (α := Int) 3 l39), (b36, RV 65 [Enc.v (c37 : (List Int)), OL (α := Int) b38 l39])]) (hS := []) [(0, 0), (0, 1), (0, 2), (0, 3), (0, 4), (0, 5), (0, 6), (0, 7), (0, 8), (0, 9), (0, 10), (0, 11), (0, 12), (2, 13)] mixed (by kernel_rfl) (HSub_app nd) ?_
              refine DR0 (gc := true) rfl (vok_p (C := cx) (p_mv rfl)) rfl rfl ?_
              refine DR0 (gc := true) rfl (vok_p (C := cx) (p_mv rfl)) rfl rfl ?_
              refine DR0 (gc := true) rfl (vok_p (C := cx) (p_mv rfl)) rfl rfl ?_
              obtain ⟨e89, he89, hX⟩ := bind_some hX
              refine DR0 (gc := true) rfl (vok_p (C := cx) (p_iaL (xs := l3) kd47 ty55 rfl rfl rfl (fun _ => he89))) rfl rfl ?_
              refine DR0 (gc := true) rfl (vok_p (C := cx) (p_faE fs55_1 (by decide) rfl)) rfl rfl ?_
              refine DR0 (gc := true) rfl (vok_p (C := cx) (p_ldE (xs := l3) (a := e89) (e89.Label : Int) ty3 rfl rfl (fun _ => he89) rfl rfl rfl)) rfl rfl ?_
              obtain ⟨r90, hr90, hX⟩ := bind_some hX
              refine DR0 (gc := true) rfl (vok_c rfl (fun _ => ⟨rfl, ⟨rfl, ⟨rfl, ⟨rfl, trivial⟩⟩⟩⟩) (fun e => ok_cartridgeref1_Cut e89.Label (0 : Int) (40 : Int) _ hr90)) rfl rfl ?_
              refine DR0 (gc := true) rfl (vok_p (C := cx) (p_add rfl rfl)) rfl rfl ?_
              refine DR0 (gc := true) rfl (vok_p (C := cx) (p_mv rfl)) rfl rfl ?_
              refine DR0 (gc := true) rfl (vok_p (C := cx) (p_mv rfl)) rfl rfl ?_
              obtain ⟨e91, he91, hX⟩ := bind_some hX
              refine DR0 (gc := true) rfl (vok_p (C := cx) (p_iaL (xs := l3) kd47 ty55 rfl rfl rfl (fun _ => he91))) rfl rfl ?_
              refine DR0 (gc := true) rfl (vok_p (C := cx) (p_faE fs55_2 (by decide) rfl)) rfl rfl ?_
              refine DR0 (gc := true) rfl (vok_p (C := cx) (p_ldE (xs := l3) (a := e91) (e91.Drive : Int) ty3 rfl rfl (fun _ => he91) rfl rfl rfl)) rfl rfl ?_
              obtain ⟨r92, hr92, hX⟩ := bind_some hX
              refine DR2 rfl rfl ?_
              refine TL.pick [1, 0] nd (by decide) fun nd => ?_
              refine TL.tcX [(b36, RV 65 [Enc.v (c37 : (List Int)), OL (α := Int) b38 l39]), (b38, RL (α := Int) 3 l39)] [] rfl nd (dlt rfl) rfl ⟨rfl, ⟨rfl, ⟨rfl, ⟨rfl, trivial⟩⟩⟩⟩ (ok_shelf_Shelf_Move (wr ((10 : Int) + r90)) e91.Drive c37 l39 b36 b38 (Nd.take nd 2 rfl) _ hr92) ?_
              rintro _ _ hQ nd
              obtain ⟨b94, rfl, rfl⟩ := hQ
              refine TL.nil ⟨_, [(b36, RV 65 [Enc.v (r92.2.1 : (List Int)), OL (α := Int) b94 r92.2.2]), (b94, RL (α := Int) 3 r92.2.2)], rfl, rfl, HSub_app nd, ?_⟩
              refine DRend ?_
              exact J45 r92.2.1 r92.2.2 _ _ ⟨b94, b36, rfl, (Nd.pick nd (is := [1, 0]) (by decide)), (HSub.pick nd (is := [1, 0]) (by decide))⟩ hX
            · have hX := ite_f hc hX
              refine TK.reg ?_
              refine TL.p (C := cx) (gc := true) (p_mv rfl) rfl rfl ?_
              refine TL.p (C := cx) (gc := true) (p_mv rfl) rfl rfl ?_
              refine TL.p (C := cx) (gc := true) (p_mv rfl) rfl rfl ?_
              obtain ⟨e95, he95, hX⟩ := bind_some hX
              refine TL.p (C := cx) (gc := true) (p_iaL (xs := l3) kd47 ty55 rfl rfl rfl (fun _ => he95)) rfl rfl ?_
              refine TL.p (C := cx) (gc := true) (p_faE fs55_2 (by decide) rfl) rfl rfl ?_
              refine TL.p (C := cx) (gc := true) (p_ldE (xs := l3) (a := e95) (e95.Drive : Int) ty3 rfl rfl (fun _ => he95) rfl rfl rfl) rfl rfl ?_
              obtain ⟨r96, hr96, hX⟩ := bind_some hX
              refine TL.pick [1, 0] nd (by decide) fun nd => ?_
              refine TL.tcX [(b36, RV 65 [Enc.v (c37 : (List Int)), OL (α := Int) b38 l39]), (b38, RL (α := Int) 3 l39)] [] rfl nd (dlt rfl) rfl ⟨rfl, ⟨rfl, ⟨rfl, trivial⟩⟩⟩ (ok_shelf_Shelf_Back e95.Drive c37 l39 b36 b38 (Nd.take nd 2 rfl) _ hr96) ?_
              rintro _ _ hQ nd
              obtain ⟨b98, rfl, rfl⟩ := hQ
              refine TL.nil ?_
              exact J45 r96.2.1 r96.2.2 _ _ ⟨b98, b36, rfl, (Nd.pick nd (is := [1, 0]) (by decide)), (HSub.pick nd (is := [1, 0]) (by decide))⟩ hX
          · have hX := ite_f hc hX
            refine TK.exit ?_
            obtain rfl := hR35 _ (some_in hX).symm
            exact E35 _ _ ⟨(), rfl, (Nd.pick nd (is := []) (by decide)), (HSub.pick nd (is := []) (by decide))⟩ hA35
    refine TK.iter [0, 1, 2, 8, 9] (fun s env h => match s with | (labels16, i17) => ∃ b15, env = [(0, true, Enc.v (n1 : Int)), (1, true, Enc.v (drives2 : Int)), (2, true, Enc.v (l3 : (List Act_law22))), (8, true, OL (α := Int) b15 labels16), (9, true, Enc.v (i17 : Int))] ∧ Nd [(b15, RL (α := Int) 3 labels16)] ∧ HSub [(b15, RL (α := Int) 3 labels16)] h) hO14 ⟨b11, rfl, (Nd.pick nd (is := [0]) (by decide)), (HSub.pick nd (is := [0]) (by decide))⟩ ?_
    rintro ⟨labels16, i17⟩ env h x14x ⟨b15, rfl, nd, hs⟩ hX hR14
    refine TK.subH hs ?_
    unfold X.cartridgelaw22_ShelfOne_s14 at hX
    try dsimp only at hX
    refine TK.seq_k fun K99 hK99 => ?_
    refine TK.seq_k fun K100 hK100 => ?_
    refine TK.reg ?_
    refine TL.p (C := cx) (gc := true) (p_mv rfl) rfl rfl ?_
    refine TL.p (C := cx) (gc := true) (p_mv rfl) rfl rfl ?_
    refine TL.p (C := cx) (gc := true) (p_lss rfl rfl) rfl rfl ?_
    refine TL.nil ?_
    refine hK100 _ _ ?_
    refine TK.cond (b := (decide (i17 < n1))) rfl (fun hc => ?_) (fun hc => ?_)
    · have hX := ite_t hc hX
      refine TK.skip ?_
      refine hK99 _ _ ?_
      refine TK.seq_k fun K101 hK101 => ?_
      refine TK.block ?_
      refine TK.reg ?_
      refine TL.p (C := cx) (gc := true) (p_mv rfl) rfl rfl ?_
      refine TL.p (C := cx) (gc := true) (p_mv rfl) rfl rfl ?_
      refine TL.p (C := cx) (gc := true) (p_add rfl rfl) rfl rfl ?_
      refine TL.lit (C := cx) ([(wr ((10 : Int) + i17))] : List Int) kd22 ty3 rfl ⟨⟨rfl, rfl⟩, trivial⟩ rfl rfl rfl ?_
      obtain ⟨u102, hu102, hX⟩ := bind_some hX
      refine TL.appO (C := cx) nd kd22 bo22 ty3 rfl rfl (j := 0) rfl rfl (Src_L _) (by decide) (need_t hu102) rfl fun nd => ?_
      refine TL.p (C := cx) (gc := true) (p_mv rfl) rfl rfl ?_
      refine TL.nil ?_
      refine hK101 _ _ ?_
      refine TK.reg ?_
      refine TL.p (C := cx) (gc := true) (p_mv rfl) rfl rfl ?_
      refine TL.p (C := cx) (gc := true) (p_add rfl rfl) rfl rfl ?_
      refine TL.p (C := cx) (gc := true) (p_mv rfl) rfl rfl ?_
      refine TL.nil ?_
      exact ⟨_, (some_in hX).symm, b15, rfl, (Nd.pick nd (is := [0]) (by decide)), (HSub.pick nd (is := [0]) (by decide))⟩
    · have hX := ite_f hc hX
      refine TK.exit ?_
      obtain rfl := hR14 _ (some_in hX).symm
      exact E14 labels16 _ _ ⟨b15, rfl, (Nd.pick nd (is := [0]) (by decide)), (HSub.pick nd (is := [0]) (by decide))⟩ hA14

/-- (*cartridge/cartridgeref22.Shelf).find -/
theorem ok_cartridgeref22_Shelf_find (labels1 : (List Int)) (in2 : (List Int)) (drives3 : (List Int)) (label4 : Int) (r : Int) (hX : X.cartridgeref22_Shelf_find labels1 in2 drives3 label4 = some r) : Fun Try.prog 40 [.vref (ofL [Enc.v (labels1 : (List Int)), Enc.v (in2 : (List Int)), Enc.v (drives3 : (List Int))]) 3 0, Enc.v (label4 : Int)] (· = Enc.v (r : Int)) := by
  refine Fun.of b40 (Nat.le_of_ble_eq_true rfl) (allVal.mem ⟨(by exact (vref_val (l := [Enc.v (labels1 : (List Int)), Enc.v (in2 : (List Int)), Enc.v (drives3 : (List Int))]) rfl ⟨(v_val _), (v_val _), (v_val _), trivial⟩)), (by exact (v_val _)), trivial⟩) ?_
  unfold k40
  have nd : Nd [] := Nd_nil
  unfold X.cartridgeref22_Shelf_find at hX
  refine TK.seq_k fun K5 hK5 => ?_
  refine TK.reg ?_
  refine TL.p (C := cx) (gc := true) (p_mv rfl) rfl rfl ?_
  refine TL.nil ?_
  refine hK5 _ _ ?_
  refine TK.seq_k fun K6 hK6 => ?_
  refine TK.seq_k fun K7 hK7 => ?_
  refine TK.reg ?_
  refine TL.p (C := cx) (gc := true) (p_mv rfl) rfl rfl ?_
  refine TL.nil ?_
  refine hK7 _ _ ?_
  refine TK.block ?_
  obtain ⟨o8, hO8, hA8⟩ := bind_some hX
  have E8 : ∀ (env : Env) (h : Hp), (∃ _u : Unit, keepE [0] env = [(0, true, .vref (ofL [Enc.v (labels1 : (List Int)), Enc.v (in2 : (List Int)), Enc.v (drives3 : (List Int))]) 3 0)] ∧ Nd [] ∧ HSub [] h) → X.cartridgeref22_Shelf_find_e8 = some r → K6 env h := by
    intro  env h hE hX
    obtain ⟨_u, henv, nd, hs⟩ := hE
    unfold X.cartridgeref22_Shelf_find_e8 at hX
    refine hK6 _ _ (TK.keep [0] ?_)
    rw [henv]
    refine TK.subH hs ?_
    refine TK.seq_k fun K10 hK10 => ?_
    refine TK.reg ?_
    refine TL.p (C := cx) (gc := true) (p_mv rfl) rfl rfl ?_
    refine TL.nil ?_
    refine hK10 _ _ ?_
    refine TK.ret ?_
    try dsimp only [thenQ]
    exact ret1 (v := Enc.v (((-1) : Int) : Int)) rfl (by obtain rfl := some_in hX; rfl) (v_val _)
  refine TK.iter [0, 1, 5] (fun s env h => match s with | i9 => ∃ _u : Unit, env = [(0, true, .vref (ofL [Enc.v (labels1 : (List Int)), Enc.v (in2 : (List Int)), Enc.v (drives3 : (List Int))]) 3 0), (1, true, Enc.v (label4 : Int)), (5, true, Enc.v (i9 : Int))] ∧ Nd [] ∧ HSub [] h) hO8 ⟨(), rfl, Nd_nil, HSub.refl _⟩ ?_
  rintro i9 env h x8x ⟨_u, rfl, nd, hs⟩ hX hR8
  refine TK.subH hs ?_
  unfold X.cartridgeref22_Shelf_find_s8 at hX
  try dsimp only at hX
  refine TK.seq_k fun K11 hK11 => ?_
  refine TK.seq_k fun K12 hK12 => ?_
  refine TK.reg ?_
  refine TL.p (C := cx) (gc := true) (p_mv rfl) rfl rfl ?_
  refine TL.p (C := cx) (gc := true) (p_mv rfl) rfl rfl ?_
  refine TL.p (C := cx) (gc := true) (p_ncV rfl) rfl rfl ?_
  refine TL.p (C := cx) (gc := true) (p_faR fs67_0 (by decide) rfl) rfl rfl ?_
  refine TL.p (C := cx) (gc := true) (p_ldR (v := Enc.v (labels1 : (List Int))) ty22 rfl rfl rfl rfl rfl rfl) rfl rfl ?_
  refine TL.p (C := cx) (gc := true) (p_lenL (xs := labels1) kd22 rfl) rfl rfl ?_
  refine TL.p (C := cx) (gc := true) (p_lss rfl rfl) rfl rfl ?_
  refine TL.nil ?_
  refine hK12 _ _ ?_
  refine TK.cond (b := (decide (i9 < (labels1.length : Int)))) rfl (fun hc => ?_) (fun hc => ?_)
  · have hX := ite_t hc hX
    refine TK.skip ?_
    refine hK11 _ _ ?_
    refine TK.seq_k fun K13 hK13 => ?_
    refine TK.block ?_
    refine TK.seq_k fun K14 hK14 => ?_
    refine TK.reg ?_
    refine TL.p (C := cx) (gc := true) (p_mv rfl) rfl rfl ?_
    refine TL.p (C := cx) (gc := true) (p_ncV rfl) rfl rfl ?_
    refine TL.p (C := cx) (gc := true) (p_faR fs67_0 (by decide) rfl) rfl rfl ?_
    refine TL.p (C := cx) (gc := true) (p_ldR (v := Enc.v (labels1 : (List Int))) ty22 rfl rfl rfl rfl rfl rfl) rfl rfl ?_
    refine TL.p (C := cx) (gc := true) (p_mv rfl) rfl rfl ?_
    obtain ⟨e15, he15, hX⟩ := bind_some hX
    refine TL.p (C := cx) (gc := true) (p_iaL (xs := labels1) kd22 ty3 rfl rfl rfl (fun _ => he15)) rfl rfl ?_
    refine TL.p (C := cx) (gc := true) (p_ldE (xs := labels1) (a := e15) (e15 : Int) ty3 rfl rfl (fun _ => he15) rfl rfl rfl) rfl rfl ?_
    refine TL.p (C := cx) (gc := true) (p_mv rfl) rfl rfl ?_
    refine TL.p (C := cx) (gc := true) (p_eql rfl rfl) rfl rfl ?_
    refine TL.nil ?_
    refine hK14 _ _ ?_
    refine TK.cond (b := (e15 == label4)) rfl (fun hc => ?_) (fun hc => ?_)
    · have hX := ite_t hc hX
      refine TK.seq_k fun K16 hK16 => ?_
      refine TK.reg ?_
      refine TL.p (C := cx) (gc := true) (p_mv rfl) rfl rfl ?_
      refine TL.p (C := cx) (gc := true) (p_mv rfl) rfl rfl ?_
      refine TL.nil ?_
      refine hK16 _ _ ?_
      refine TK.ret ?_
      obtain rfl := hR8 _ (some_in hX).symm
      replace hX := hA8
      try dsimp only [thenQ]
      exact ret1 (v := Enc.v (i9 : Int)) rfl (by obtain rfl := some_in hX; rfl) (v_val _)
    · have hX := ite_f hc hX
      refine TK.skip ?_
      refine hK13 _ _ ?_
      refine TK.reg ?_
      refine TL.p (C := cx) (gc := true) (p_mv rfl) rfl rfl ?_
      refine TL.p (C := cx) (gc := true) (p_add rfl rfl) rfl rfl ?_
      refine TL.p (C := cx) (gc := true) (p_mv rfl) rfl rfl ?_
      refine TL.nil ?_
      exact ⟨_, (some_in hX).symm, (), rfl, Nd_nil, HSub.refl _⟩
  · have hX := ite_f hc hX
    refine TK.exit ?_
    obtain rfl := hR8 _ (some_in hX).symm
    exact E8 _ _ ⟨(), rfl, Nd_nil, HSub.refl _⟩ hA8

end Go.Proofs.Ytjkjoihlpnahdaa
