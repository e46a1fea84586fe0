import Derived.Test.YtjkjoihlpnahdaaXFn
import Derived.Test.YtjkjoihlpnahdaaXS
import Derived.Test.YtjkjoihlpnahdaaAmK0
import Derived.Test.YtjkjoihlpnahdaaAmK1
import Derived.Test.YtjkjoihlpnahdaaXP4
/- That they do. -/
namespace Go.Proofs.Ytjkjoihlpnahdaa
open Go.AM Go.AX
set_option linter.unusedVariables false
set_option maxRecDepth 20000

/-- cartridge/cartridgelaw22.ShelfBack -/
theorem ok_cartridgelaw22_ShelfBack (n1 : Int) (at2 : Int) (drives3 : Int) (d4 : Int) (r : Bool) (hX : X.cartridgelaw22_ShelfBack n1 at2 drives3 d4 = some r) : Fun Try.prog 8 [Enc.v (n1 : Int), Enc.v (at2 : Int), Enc.v (drives3 : Int), Enc.v (d4 : Int)] (· = Enc.v (r : Bool)) := by
  refine Fun.of b8 (Nat.le_of_ble_eq_true rfl) (allVal.mem ⟨(by exact (v_val _)), (by exact (v_val _)), (by exact (v_val _)), (by exact (v_val _)), trivial⟩) ?_
  unfold k8
  have nd : Nd [] := Nd_nil
  unfold X.cartridgelaw22_ShelfBack at hX
  refine TK.seq_k fun K5 hK5 => ?_
  refine TK.reg ?_
  refine TL.p (C := cx) (gc := true) (p_mv rfl) rfl rfl ?_
  refine TL.nil ?_
  refine hK5 _ _ ?_
  refine TK.seq_k fun K6 hK6 => ?_
  refine TK.reg ?_
  obtain ⟨r7, hr7, hX⟩ := bind_some hX
  refine TL.cvX rfl rfl rfl (fun _ => ⟨rfl, trivial⟩) (fun e => ok_cartridgelaw22_alive  _ hr7) ?_
  refine TL.p (C := cx) (gc := true) (p_mv rfl) rfl rfl ?_
  refine TL.nil ?_
  refine hK6 _ _ ?_
  refine TK.seq_k fun K8 hK8 => ?_
  refine TK.seq_k fun K9 hK9 => ?_
  refine TK.reg ?_
  refine TL.p (C := cx) (gc := true) (p_mv rfl) rfl rfl ?_
  refine TL.p (C := cx) (gc := true) (p_not rfl) rfl rfl ?_
  refine TL.p (C := cx) (gc := true) (p_mv rfl) rfl rfl ?_
  refine TL.p (C := cx) (gc := (!((!r7)))) (p_mv rfl (hg := fun e => rfl)) (gcF1 rfl) rfl ?_
  refine TL.p (C := cx) (gc := (!((!r7)))) (p_lss rfl rfl (hg := fun e => ⟨e, rfl⟩)) (gcF1 rfl) rfl ?_
  refine TL.p (C := cx) (gc := true) (p_or rfl rfl (fun e => ⟨rfl, fun h => (not_t h)⟩)) rfl rfl ?_
  refine TL.p (C := cx) (gc := true) (p_mv rfl) rfl rfl ?_
  refine TL.p (C := cx) (gc := (!(((!r7) || (decide (n1 < (1 : Int))))))) (p_mv rfl (hg := fun e => rfl)) (gcF1 rfl) rfl ?_
  refine TL.p (C := cx) (gc := (!(((!r7) || (decide (n1 < (1 : Int))))))) (p_gtr rfl rfl (hg := fun e => ⟨e, rfl⟩)) (gcF1 rfl) rfl ?_
  refine TL.p (C := cx) (gc := true) (p_or rfl rfl (fun e => ⟨rfl, fun h => (not_t h)⟩)) rfl rfl ?_
  refine TL.p (C := cx) (gc := true) (p_mv rfl) rfl rfl ?_
  refine TL.p (C := cx) (gc := (!((((!r7) || (decide (n1 < (1 : Int)))) || (decide (n1 > (30 : Int))))))) (p_mv rfl (hg := fun e => rfl)) (gcF1 rfl) rfl ?_
  refine TL.p (C := cx) (gc := (!((((!r7) || (decide (n1 < (1 : Int)))) || (decide (n1 > (30 : Int))))))) (p_lss rfl rfl (hg := fun e => ⟨e, rfl⟩)) (gcF1 rfl) rfl ?_
  refine TL.p (C := cx) (gc := true) (p_or rfl rfl (fun e => ⟨rfl, fun h => (not_t h)⟩)) rfl rfl ?_
  refine TL.p (C := cx) (gc := true) (p_mv rfl) rfl rfl ?_
  refine TL.p (C := cx) (gc := (!(((((!r7) || (decide (n1 < (1 : Int)))) || (decide (n1 > (30 : Int)))) || (decide (at2 < (0 : Int))))))) (p_mv rfl (hg := fun e => rfl)) (gcF1 rfl) rfl ?_
  refine TL.p (C := cx) (gc := (!(((((!r7) || (decide (n1 < (1 : Int)))) || (decide (n1 > (30 : Int)))) || (decide (at2 < (0 : Int))))))) (p_mv rfl (hg := fun e => rfl)) (gcF1 rfl) rfl ?_
  refine TL.p (C := cx) (gc := (!(((((!r7) || (decide (n1 < (1 : Int)))) || (decide (n1 > (30 : Int)))) || (decide (at2 < (0 : Int))))))) (p_geq rfl rfl (hg := fun e => ⟨e, e⟩)) (gcF1 rfl) rfl ?_
  refine TL.p (C := cx) (gc := true) (p_or rfl rfl (fun e => ⟨rfl, fun h => (not_t h)⟩)) rfl rfl ?_
  refine TL.p (C := cx) (gc := true) (p_mv rfl) rfl rfl ?_
  refine TL.p (C := cx) (gc := (!((((((!r7) || (decide (n1 < (1 : Int)))) || (decide (n1 > (30 : Int)))) || (decide (at2 < (0 : Int)))) || (decide (at2 ≥ n1)))))) (p_mv rfl (hg := fun e => rfl)) (gcF1 rfl) rfl ?_
  refine TL.p (C := cx) (gc := (!((((((!r7) || (decide (n1 < (1 : Int)))) || (decide (n1 > (30 : Int)))) || (decide (at2 < (0 : Int)))) || (decide (at2 ≥ n1)))))) (p_lss rfl rfl (hg := fun e => ⟨e, rfl⟩)) (gcF1 rfl) rfl ?_
  refine TL.p (C := cx) (gc := true) (p_or rfl rfl (fun e => ⟨rfl, fun h => (not_t h)⟩)) rfl rfl ?_
  refine TL.p (C := cx) (gc := true) (p_mv rfl) rfl rfl ?_
  refine TL.p (C := cx) (gc := (!(((((((!r7) || (decide (n1 < (1 : Int)))) || (decide (n1 > (30 : Int)))) || (decide (at2 < (0 : Int)))) || (decide (at2 ≥ n1))) || (decide (drives3 < (1 : Int))))))) (p_mv rfl (hg := fun e => rfl)) (gcF1 rfl) rfl ?_
  refine TL.p (C := cx) (gc := (!(((((((!r7) || (decide (n1 < (1 : Int)))) || (decide (n1 > (30 : Int)))) || (decide (at2 < (0 : Int)))) || (decide (at2 ≥ n1))) || (decide (drives3 < (1 : Int))))))) (p_gtr rfl rfl (hg := fun e => ⟨e, rfl⟩)) (gcF1 rfl) rfl ?_
  refine TL.p (C := cx) (gc := true) (p_or rfl rfl (fun e => ⟨rfl, fun h => (not_t h)⟩)) rfl rfl ?_
  refine TL.p (C := cx) (gc := true) (p_mv rfl) rfl rfl ?_
  refine TL.p (C := cx) (gc := (!((((((((!r7) || (decide (n1 < (1 : Int)))) || (decide (n1 > (30 : Int)))) || (decide (at2 < (0 : Int)))) || (decide (at2 ≥ n1))) || (decide (drives3 < (1 : Int)))) || (decide (drives3 > (4 : Int))))))) (p_mv rfl (hg := fun e => rfl)) (gcF1 rfl) rfl ?_
  refine TL.p (C := cx) (gc := (!((((((((!r7) || (decide (n1 < (1 : Int)))) || (decide (n1 > (30 : Int)))) || (decide (at2 < (0 : Int)))) || (decide (at2 ≥ n1))) || (decide (drives3 < (1 : Int)))) || (decide (drives3 > (4 : Int))))))) (p_lss rfl rfl (hg := fun e => ⟨e, rfl⟩)) (gcF1 rfl) rfl ?_
  refine TL.p (C := cx) (gc := true) (p_or rfl rfl (fun e => ⟨rfl, fun h => (not_t h)⟩)) rfl rfl ?_
  refine TL.p (C := cx) (gc := true) (p_mv rfl) rfl rfl ?_
  refine TL.p (C := cx) (gc := (!(((((((((!r7) || (decide (n1 < (1 : Int)))) || (decide (n1 > (30 : Int)))) || (decide (at2 < (0 : Int)))) || (decide (at2 ≥ n1))) || (decide (drives3 < (1 : Int)))) || (decide (drives3 > (4 : Int)))) || (decide (d4 < (0 : Int))))))) (p_mv rfl (hg := fun e => rfl)) (gcF1 rfl) rfl ?_
  refine TL.p (C := cx) (gc := (!(((((((((!r7) || (decide (n1 < (1 : Int)))) || (decide (n1 > (30 : Int)))) || (decide (at2 < (0 : Int)))) || (decide (at2 ≥ n1))) || (decide (drives3 < (1 : Int)))) || (decide (drives3 > (4 : Int)))) || (decide (d4 < (0 : Int))))))) (p_mv rfl (hg := fun e => rfl)) (gcF1 rfl) rfl ?_
  refine TL.p (C := cx) (gc := (!(((((((((!r7) || (decide (n1 < (1 : Int)))) || (decide (n1 > (30 : Int)))) || (decide (at2 < (0 : Int)))) || (decide (at2 ≥ n1))) || (decide (drives3 < (1 : Int)))) || (decide (drives3 > (4 : Int)))) || (decide (d4 < (0 : Int))))))) (p_geq rfl rfl (hg := fun e => ⟨e, e⟩)) (gcF1 rfl) rfl ?_
  refine TL.p (C := cx) (gc := true) (p_or rfl rfl (fun e => ⟨rfl, fun h => (not_t h)⟩)) rfl rfl ?_
  refine TL.nil ?_
  refine hK9 _ _ ?_
  refine TK.cond (b := (((((((((!r7) || (decide (n1 < (1 : Int)))) || (decide (n1 > (30 : Int)))) || (decide (at2 < (0 : Int)))) || (decide (at2 ≥ n1))) || (decide (drives3 < (1 : Int)))) || (decide (drives3 > (4 : Int)))) || (decide (d4 < (0 : Int)))) || (decide (d4 ≥ drives3)))) rfl (fun hc => ?_) (fun hc => ?_)
  · have hX := ite_t hc hX
    refine TK.seq_k fun K10 hK10 => ?_
    refine TK.reg ?_
    refine TL.p (C := cx) (gc := true) (p_mv rfl) rfl rfl ?_
    refine TL.p (C := cx) (gc := true) (p_mv rfl) rfl rfl ?_
    refine TL.nil ?_
    refine hK10 _ _ ?_
    refine TK.ret ?_
    try dsimp only [thenQ]
    exact ret1 (v := Enc.v (r7 : Bool)) rfl (by obtain rfl := some_in hX; rfl) (v_val _)
  · have hX := ite_f hc hX
    refine TK.skip ?_
    refine hK8 _ _ ?_
    refine TK.seq_k fun K11 hK11 => ?_
    refine TK.reg ?_
    refine TL.p (C := cx) (gc := true) (p_mv rfl) rfl rfl ?_
    refine TL.nil ?_
    refine hK11 _ _ ?_
    refine TK.ownL (α := Int) 10 3 nd rfl (.inl rfl) fun b12 nd => ?_
    refine TK.seq_k fun K13 hK13 => ?_
    refine TK.seq_k fun K14 hK14 => ?_
    refine TK.reg ?_
    refine TL.p (C := cx) (gc := true) (p_mv rfl) rfl rfl ?_
    refine TL.nil ?_
    refine hK14 _ _ ?_
    refine TK.block ?_
    obtain ⟨o15, hO15, hA15⟩ := bind_some hX
    have E15 : ∀ (l20 : List Int) (env : Env) (h : Hp), (∃ b19, keepE [1, 2, 3, 10] env = [(1, true, Enc.v (at2 : Int)), (2, true, Enc.v (drives3 : Int)), (3, true, Enc.v (d4 : Int)), (10, true, OL (α := Int) b19 l20)] ∧ Nd [(b19, RL (α := Int) 3 l20)] ∧ HSub [(b19, RL (α := Int) 3 l20)] h) → X.cartridgelaw22_ShelfBack_e15 drives3 d4 at2 l20 = some r → K13 env h := by
      intro l20 env h hE hX
      obtain ⟨b19, henv, nd, hs⟩ := hE
      unfold X.cartridgelaw22_ShelfBack_e15 at hX
      refine hK13 _ _ (TK.keep [1, 2, 3, 10] ?_)
      rw [henv]
      refine TK.subH hs ?_
      refine TK.seq_k fun K21 hK21 => ?_
      refine TK.reg ?_
      refine TL.p (C := cx) (gc := true) (p_mv rfl) rfl rfl ?_
      refine TL.p (C := cx) (gc := true) (p_mv rfl) rfl rfl ?_
      refine TL.lay [(10, L l20), (70, L l20)] nd (j := 0) rfl ⟨⟨_, rfl, fix_OL nd (j := 0) rfl, rfl⟩, ⟨⟨_, rfl, fix_OL nd (j := 0) rfl, rfl⟩, trivial⟩⟩ fun nd => ?_
      obtain ⟨r22, hr22, hX⟩ := bind_some hX
      refine TL.tcX [] [] rfl nd (dlt rfl) rfl ⟨rfl, ⟨rfl, ⟨rfl, trivial⟩⟩⟩ (ok_shelf_New l20 drives3 (Nd.take nd 0 rfl) _ hr22) ?_
      rintro _ _ hQ nd
      cases hqr22 : r22.1 with
      | none =>
        simp only [hqr22] at hQ hX
        obtain ⟨rfl, rfl⟩ := hQ
        refine TL.p (C := cx) (gc := true) (p_mv rfl) rfl rfl ?_
        refine TL.p (C := cx) (gc := true) (p_ex rfl rfl (by decide)) rfl rfl ?_
        refine TL.p (C := cx) (gc := true) (p_ex rfl rfl (by decide)) rfl rfl ?_
        refine TL.p (C := cx) (gc := true) (p_mv rfl) rfl rfl ?_
        refine TL.p (C := cx) (gc := true) (p_mv rfl) rfl rfl ?_
        refine TL.nil ?_
        refine hK21 _ _ ?_
        refine TK.seq_k fun K23 hK23 => ?_
        refine TK.seq_k fun K24 hK24 => ?_
        refine TK.reg ?_
        refine TL.p (C := cx) (gc := true) (p_mv rfl) rfl rfl ?_
        obtain ⟨r25, hr25, hX⟩ := bind_some hX
        refine TL.cvX rfl rfl rfl (fun _ => ⟨rfl, ⟨rfl, trivial⟩⟩) (fun e => ok_cartridgelaw22_num r22.2 _ hr25) ?_
        refine TL.p (C := cx) (gc := true) (p_neq rfl rfl) rfl rfl ?_
        refine TL.p (C := cx) (gc := true) (p_mv rfl) rfl rfl ?_
        refine TL.p (C := cx) (gc := (!((r25 != (0 : Int))))) (p_mv rfl (hg := fun e => rfl)) (gcF1 rfl) rfl ?_
        refine TL.p (C := cx) (gc := (!((r25 != (0 : Int))))) (p_eqN kd48 rfl rfl (hg := fun e => ⟨e, rfl⟩)) (gcF1 rfl) rfl ?_
        refine TL.p (C := cx) (gc := true) (p_or rfl rfl (fun e => ⟨rfl, fun h => (not_t h)⟩)) rfl rfl ?_
        refine TL.nil ?_
        refine hK24 _ _ ?_
        refine TK.cond (b := ((r25 != (0 : Int)) || true)) rfl (fun _ => ?_) (fun hc => by simp at hc)
        refine TK.seq_k fun K26 hK26 => ?_
        refine TK.reg ?_
        refine TL.p (C := cx) (gc := true) (p_mv rfl) rfl rfl ?_
        refine TL.nil ?_
        refine hK26 _ _ ?_
        refine TK.ret ?_
        try dsimp only [thenQ]
        exact ret1 (v := Enc.v (false : Bool)) rfl (by obtain rfl := some_in hX; rfl) (v_val _)
      | some o27 =>
        simp only [hqr22] at hQ hX
        obtain ⟨b28, b29, rfl, rfl⟩ := hQ
        refine TL.p (C := cx) (gc := true) (p_mv rfl) rfl rfl ?_
        refine TL.p (C := cx) (gc := true) (p_ex rfl rfl (by decide)) rfl rfl ?_
        refine TL.p (C := cx) (gc := true) (p_ex rfl rfl (by decide)) rfl rfl ?_
        refine TL.p (C := cx) (gc := true) (p_mv rfl) rfl rfl ?_
        refine TL.p (C := cx) (gc := true) (p_mv rfl) rfl rfl ?_
        refine TL.nil ?_
        refine hK21 _ _ ?_
        refine TK.seq_k fun K30 hK30 => ?_
        refine TK.seq_k fun K31 hK31 => ?_
        refine TK.reg ?_
        refine TL.p (C := cx) (gc := true) (p_mv rfl) rfl rfl ?_
        obtain ⟨r32, hr32, hX⟩ := bind_some hX
        refine TL.cvX rfl rfl rfl (fun _ => ⟨rfl, ⟨rfl, trivial⟩⟩) (fun e => ok_cartridgelaw22_num r22.2 _ hr32) ?_
        refine TL.p (C := cx) (gc := true) (p_neq rfl rfl) rfl rfl ?_
        refine TL.p (C := cx) (gc := true) (p_mv rfl) rfl rfl ?_
        refine TL.p (C := cx) (gc := (!((r32 != (0 : Int))))) (p_mv rfl (hg := fun e => rfl)) (gcF1 rfl) rfl ?_
        refine TL.p (C := cx) (gc := (!((r32 != (0 : Int))))) (p_eqP kd48 rfl rfl (fun _ => refOK_of nd (j := 0) rfl rfl) (hg := fun e => ⟨e, rfl⟩)) (gcF1 rfl) rfl ?_
        refine TL.p (C := cx) (gc := true) (p_or rfl rfl (fun e => ⟨rfl, fun h => (not_t h)⟩)) rfl rfl ?_
        refine TL.nil ?_
        refine hK31 _ _ ?_
        refine TK.cond (b := ((r32 != (0 : Int)) || false)) rfl (fun hc => ?_) (fun hc => ?_)
        · have hX := ite_t hc hX
          refine TK.seq_k fun K33 hK33 => ?_
          refine TK.reg ?_
          refine TL.p (C := cx) (gc := true) (p_mv rfl) rfl rfl ?_
          refine TL.nil ?_
          refine hK33 _ _ ?_
          refine TK.ret ?_
          try dsimp only [thenQ]
          exact ret1 (v := Enc.v (false : Bool)) rfl (by obtain rfl := some_in hX; rfl) (v_val _)
        · have hX := ite_f hc hX
          refine TK.skip ?_
          refine hK30 _ _ ?_
          refine TK.seq_k fun K34 hK34 => ?_
          refine TK.reg ?_
          refine TL.p (C := cx) (gc := true) (p_mv rfl) rfl rfl ?_
          refine TL.p (C := cx) (gc := true) (p_mv rfl) rfl rfl ?_
          obtain ⟨r35, hr35, hX⟩ := bind_some hX
          refine TL.tcX [(b28, RV 65 [Enc.v (o27.1 : (List Int)), OL (α := Int) b29 o27.2]), (b29, RL (α := Int) 3 o27.2)] [] rfl nd (dlt rfl) rfl ⟨rfl, ⟨rfl, ⟨rfl, trivial⟩⟩⟩ (ok_shelf_Shelf_Back d4 o27.1 o27.2 b28 b29 (Nd.take nd 2 rfl) _ hr35) ?_
          rintro _ _ hQ nd
          obtain ⟨b37, rfl, rfl⟩ := hQ
          refine TL.p (C := cx) (gc := true) (p_mv rfl) rfl rfl ?_
          refine TL.nil ?_
          refine hK34 _ _ ?_
          refine TK.seq_k fun K38 hK38 => ?_
          refine TK.reg ?_
          refine TL.p (C := cx) (gc := true) (p_mv rfl) rfl rfl ?_
          refine TL.p (C := cx) (gc := true) (p_mv rfl) rfl rfl ?_
          refine TL.p (C := cx) (gc := true) (p_mv rfl) rfl rfl ?_
          obtain ⟨e39, he39, hX⟩ := bind_some hX
          refine TL.p (C := cx) (gc := true) (p_iaL (xs := l20) kd22 ty3 rfl rfl rfl (fun _ => he39)) rfl rfl ?_
          refine TL.p (C := cx) (gc := true) (p_ldE (xs := l20) (a := e39) (e39 : Int) ty3 rfl rfl (fun _ => he39) rfl rfl rfl) rfl rfl ?_
          refine TL.p (C := cx) (gc := true) (p_mv rfl) rfl rfl ?_
          obtain ⟨r40, hr40, hX⟩ := bind_some hX
          refine TL.tcX [(b28, RV 65 [Enc.v (r35.2.1 : (List Int)), OL (α := Int) b37 r35.2.2]), (b37, RL (α := Int) 3 r35.2.2)] [] rfl nd (dlt rfl) rfl ⟨rfl, ⟨rfl, ⟨rfl, ⟨rfl, trivial⟩⟩⟩⟩ (ok_shelf_Shelf_Move e39 d4 r35.2.1 r35.2.2 b28 b37 (Nd.take nd 2 rfl) _ hr40) ?_
          rintro _ _ hQ nd
          obtain ⟨b42, rfl, rfl⟩ := hQ
          refine TL.p (C := cx) (gc := true) (p_mv rfl) rfl rfl ?_
          refine TL.nil ?_
          refine hK38 _ _ ?_
          refine TK.seq_k fun K43 hK43 => ?_
          refine TK.reg ?_
          refine TL.p (C := cx) (gc := true) (p_mv rfl) rfl rfl ?_
          refine TL.p (C := cx) (gc := true) (p_mv rfl) rfl rfl ?_
          refine TL.p (C := cx) (gc := true) (p_mv rfl) rfl rfl ?_
          obtain ⟨e44, he44, hX⟩ := bind_some hX
          refine TL.p (C := cx) (gc := true) (p_iaL (xs := l20) kd22 ty3 rfl rfl rfl (fun _ => he44)) rfl rfl ?_
          refine TL.p (C := cx) (gc := true) (p_ldE (xs := l20) (a := e44) (e44 : Int) ty3 rfl rfl (fun _ => he44) rfl rfl rfl) rfl rfl ?_
          refine TL.p (C := cx) (gc := true) (p_mv rfl) rfl rfl ?_
          obtain ⟨r45, hr45, hX⟩ := bind_some hX
          refine TL.tcX [(b28, RV 65 [Enc.v (r40.2.1 : (List Int)), OL (α := Int) b42 r40.2.2]), (b42, RL (α := Int) 3 r40.2.2)] [] rfl nd (dlt rfl) rfl ⟨rfl, ⟨rfl, ⟨rfl, ⟨rfl, trivial⟩⟩⟩⟩ (ok_shelf_Shelf_Move e44 d4 r40.2.1 r40.2.2 b28 b42 (Nd.take nd 2 rfl) _ hr45) ?_
          rintro _ _ hQ nd
          obtain ⟨b47, rfl, rfl⟩ := hQ
          refine TL.p (C := cx) (gc := true) (p_mv rfl) rfl rfl ?_
          refine TL.nil ?_
          refine hK43 _ _ ?_
          refine TK.seq_k fun K48 hK48 => ?_
          refine TK.reg ?_
          refine TL.p (C := cx) (gc := true) (p_mv rfl) rfl rfl ?_
          refine TL.p (C := cx) (gc := true) (p_mv rfl) rfl rfl ?_
          obtain ⟨r49, hr49, hX⟩ := bind_some hX
          refine TL.lookX [.vref (ofL [Enc.v (r45.2.1 : (List Int)), Enc.v (r45.2.2 : (List Int))]) 2 0, Enc.v (d4 : Int)] rfl rfl rfl (fun _ => ⟨rfl, ⟨rfl, ⟨rfl, trivial⟩⟩⟩) ⟨look_ref (l := [Enc.v (r45.2.1 : (List Int)), OL (α := Int) b47 r45.2.2]) nd (j := 0) rfl ⟨look_v (v := Enc.v (r45.2.1 : (List Int))) (v_val _), look_OL nd (j := 1) rfl, trivial⟩, look_v (v := Enc.v (d4 : Int)) (v_val _), trivial⟩ (fun e => ok_shelf_Shelf_Mounted r45.2.1 r45.2.2 d4 _ hr49) (trivial) ?_
          refine TL.p (C := cx) (gc := true) (p_mv rfl) rfl rfl ?_
          refine TL.nil ?_
          refine hK48 _ _ ?_
          refine TK.seq_k fun K50 hK50 => ?_
          refine TK.reg ?_
          refine TL.p (C := cx) (gc := true) (p_mv rfl) rfl rfl ?_
          refine TL.p (C := cx) (gc := true) (p_mv rfl) rfl rfl ?_
          refine TL.p (C := cx) (gc := true) (p_mv rfl) rfl rfl ?_
          obtain ⟨e51, he51, hX⟩ := bind_some hX
          refine TL.p (C := cx) (gc := true) (p_iaL (xs := l20) kd22 ty3 rfl rfl rfl (fun _ => he51)) rfl rfl ?_
          refine TL.p (C := cx) (gc := true) (p_ldE (xs := l20) (a := e51) (e51 : Int) ty3 rfl rfl (fun _ => he51) rfl rfl rfl) rfl rfl ?_
          obtain ⟨r52, hr52, hX⟩ := bind_some hX
          refine TL.lookX [.vref (ofL [Enc.v (r45.2.1 : (List Int)), Enc.v (r45.2.2 : (List Int))]) 2 0, Enc.v (e51 : Int)] rfl rfl rfl (fun _ => ⟨rfl, ⟨rfl, ⟨rfl, trivial⟩⟩⟩) ⟨look_ref (l := [Enc.v (r45.2.1 : (List Int)), OL (α := Int) b47 r45.2.2]) nd (j := 0) rfl ⟨look_v (v := Enc.v (r45.2.1 : (List Int))) (v_val _), look_OL nd (j := 1) rfl, trivial⟩, look_v (v := Enc.v (e51 : Int)) (v_val _), trivial⟩ (fun e => ok_shelf_Shelf_Slot r45.2.1 r45.2.2 e51 _ hr52) (trivial) ?_
          refine TL.p (C := cx) (gc := true) (p_mv rfl) rfl rfl ?_
          refine TL.nil ?_
          refine hK50 _ _ ?_
          refine TK.seq_k fun K53 hK53 => ?_
          refine TK.reg ?_
          refine TL.p (C := cx) (gc := true) (p_mv rfl) rfl rfl ?_
          refine TL.p (C := cx) (gc := true) (p_mv rfl) rfl rfl ?_
          obtain ⟨r54, hr54, hX⟩ := bind_some hX
          refine TL.tcX [(b28, RV 65 [Enc.v (r45.2.1 : (List Int)), OL (α := Int) b47 r45.2.2]), (b47, RL (α := Int) 3 r45.2.2)] [] rfl nd (dlt rfl) rfl ⟨rfl, ⟨rfl, ⟨rfl, trivial⟩⟩⟩ (ok_shelf_Shelf_Back d4 r45.2.1 r45.2.2 b28 b47 (Nd.take nd 2 rfl) _ hr54) ?_
          rintro _ _ hQ nd
          obtain ⟨b56, rfl, rfl⟩ := hQ
          refine TL.p (C := cx) (gc := true) (p_mv rfl) rfl rfl ?_
          refine TL.nil ?_
          refine hK53 _ _ ?_
          refine TK.seq_k fun K57 hK57 => ?_
          refine TK.reg ?_
          refine TL.p (C := cx) (gc := true) (p_mv rfl) rfl rfl ?_
          obtain ⟨r58, hr58, hX⟩ := bind_some hX
          refine TL.cvX rfl rfl rfl (fun _ => ⟨rfl, ⟨rfl, trivial⟩⟩) (fun e => ok_cartridgelaw22_num r35.1 _ hr58) ?_
          refine TL.p (C := cx) (gc := true) (p_eql rfl rfl) rfl rfl ?_
          refine TL.p (C := cx) (gc := true) (p_mv rfl) rfl rfl ?_
          refine TL.p (C := cx) (gc := ((r58 == (11 : Int)))) (p_mv rfl (hg := fun e => rfl)) (gcT1 rfl) rfl ?_
          obtain ⟨r59, hr59, hX⟩ := bind_some hX
          refine TL.cvX (gcT1 rfl) rfl rfl (fun e => ⟨rfl, ⟨e, trivial⟩⟩) (fun e => ok_cartridgelaw22_num r40.1 _ (optG_t hr59 e)) ?_
          refine TL.p (C := cx) (gc := ((r58 == (11 : Int)))) (p_eql rfl rfl (hg := fun e => ⟨e, rfl⟩)) (gcT1 rfl) rfl ?_
          refine TL.p (C := cx) (gc := true) (p_and rfl rfl (fun e => ⟨rfl, fun h => h⟩)) rfl rfl ?_
          refine TL.p (C := cx) (gc := true) (p_mv rfl) rfl rfl ?_
          refine TL.p (C := cx) (gc := (((r58 == (11 : Int)) && (r59 == (0 : Int))))) (p_mv rfl (hg := fun e => rfl)) (gcT1 rfl) rfl ?_
          obtain ⟨r60, hr60, hX⟩ := bind_some hX
          refine TL.cvX (gcT1 rfl) rfl rfl (fun e => ⟨rfl, ⟨e, trivial⟩⟩) (fun e => ok_cartridgelaw22_num r45.1 _ (optG_t hr60 e)) ?_
          refine TL.p (C := cx) (gc := (((r58 == (11 : Int)) && (r59 == (0 : Int))))) (p_eql rfl rfl (hg := fun e => ⟨e, rfl⟩)) (gcT1 rfl) rfl ?_
          refine TL.p (C := cx) (gc := true) (p_and rfl rfl (fun e => ⟨rfl, fun h => h⟩)) rfl rfl ?_
          refine TL.p (C := cx) (gc := true) (p_mv rfl) rfl rfl ?_
          refine TL.p (C := cx) (gc := ((((r58 == (11 : Int)) && (r59 == (0 : Int))) && (r60 == (11 : Int))))) (p_mv rfl (hg := fun e => rfl)) (gcT1 rfl) rfl ?_
          refine TL.p (C := cx) (gc := ((((r58 == (11 : Int)) && (r59 == (0 : Int))) && (r60 == (11 : Int))))) (p_mv rfl (hg := fun e => rfl)) (gcT1 rfl) rfl ?_
          refine TL.p (C := cx) (gc := ((((r58 == (11 : Int)) && (r59 == (0 : Int))) && (r60 == (11 : Int))))) (p_mv rfl (hg := fun e => rfl)) (gcT1 rfl) rfl ?_
          obtain ⟨e61, he61, hX⟩ := bind_some hX
          refine TL.p (C := cx) (gc := ((((r58 == (11 : Int)) && (r59 == (0 : Int))) && (r60 == (11 : Int))))) (p_iaL (xs := l20) kd22 ty3 rfl rfl rfl (fun e => optG_t he61 e) (hg := fun e => ⟨e, e⟩)) (gcT1 rfl) rfl ?_
          refine TL.p (C := cx) (gc := ((((r58 == (11 : Int)) && (r59 == (0 : Int))) && (r60 == (11 : Int))))) (p_ldE (xs := l20) (a := e61) (e61 : Int) ty3 rfl rfl (fun e => optG_t he61 e) rfl rfl rfl (hg := fun e => e)) (gcT1 rfl) rfl ?_
          refine TL.p (C := cx) (gc := ((((r58 == (11 : Int)) && (r59 == (0 : Int))) && (r60 == (11 : Int))))) (p_eql rfl rfl (hg := fun e => ⟨e, e⟩)) (gcT1 rfl) rfl ?_
          refine TL.p (C := cx) (gc := true) (p_and rfl rfl (fun e => ⟨rfl, fun h => h⟩)) rfl rfl ?_
          refine TL.p (C := cx) (gc := true) (p_mv rfl) rfl rfl ?_
          refine TL.p (C := cx) (gc := (((((r58 == (11 : Int)) && (r59 == (0 : Int))) && (r60 == (11 : Int))) && (r49 == e61)))) (p_mv rfl (hg := fun e => rfl)) (gcT1 rfl) rfl ?_
          refine TL.p (C := cx) (gc := (((((r58 == (11 : Int)) && (r59 == (0 : Int))) && (r60 == (11 : Int))) && (r49 == e61)))) (p_eql rfl rfl (hg := fun e => ⟨e, rfl⟩)) (gcT1 rfl) rfl ?_
          refine TL.p (C := cx) (gc := true) (p_and rfl rfl (fun e => ⟨rfl, fun h => h⟩)) rfl rfl ?_
          refine TL.p (C := cx) (gc := true) (p_mv rfl) rfl rfl ?_
          refine TL.p (C := cx) (gc := ((((((r58 == (11 : Int)) && (r59 == (0 : Int))) && (r60 == (11 : Int))) && (r49 == e61)) && (r52 == ((-1) : Int))))) (p_mv rfl (hg := fun e => rfl)) (gcT1 rfl) rfl ?_
          obtain ⟨r62, hr62, hX⟩ := bind_some hX
          refine TL.cvX (gcT1 rfl) rfl rfl (fun e => ⟨rfl, ⟨e, trivial⟩⟩) (fun e => ok_cartridgelaw22_num r54.1 _ (optG_t hr62 e)) ?_
          refine TL.p (C := cx) (gc := ((((((r58 == (11 : Int)) && (r59 == (0 : Int))) && (r60 == (11 : Int))) && (r49 == e61)) && (r52 == ((-1) : Int))))) (p_eql rfl rfl (hg := fun e => ⟨e, rfl⟩)) (gcT1 rfl) rfl ?_
          refine TL.p (C := cx) (gc := true) (p_and rfl rfl (fun e => ⟨rfl, fun h => h⟩)) rfl rfl ?_
          refine TL.p (C := cx) (gc := true) (p_mv rfl) rfl rfl ?_
          refine TL.p (C := cx) (gc := (((((((r58 == (11 : Int)) && (r59 == (0 : Int))) && (r60 == (11 : Int))) && (r49 == e61)) && (r52 == ((-1) : Int))) && (r62 == (0 : Int))))) (p_mv rfl (hg := fun e => rfl)) (gcT1 rfl) rfl ?_
          refine TL.p (C := cx) (gc := (((((((r58 == (11 : Int)) && (r59 == (0 : Int))) && (r60 == (11 : Int))) && (r49 == e61)) && (r52 == ((-1) : Int))) && (r62 == (0 : Int))))) (p_mv rfl (hg := fun e => rfl)) (gcT1 rfl) rfl ?_
          refine TL.p (C := cx) (gc := (((((((r58 == (11 : Int)) && (r59 == (0 : Int))) && (r60 == (11 : Int))) && (r49 == e61)) && (r52 == ((-1) : Int))) && (r62 == (0 : Int))))) (p_mv rfl (hg := fun e => rfl)) (gcT1 rfl) rfl ?_
          obtain ⟨e63, he63, hX⟩ := bind_some hX
          refine TL.p (C := cx) (gc := (((((((r58 == (11 : Int)) && (r59 == (0 : Int))) && (r60 == (11 : Int))) && (r49 == e61)) && (r52 == ((-1) : Int))) && (r62 == (0 : Int))))) (p_iaL (xs := l20) kd22 ty3 rfl rfl rfl (fun e => optG_t he63 e) (hg := fun e => ⟨e, e⟩)) (gcT1 rfl) rfl ?_
          refine TL.p (C := cx) (gc := (((((((r58 == (11 : Int)) && (r59 == (0 : Int))) && (r60 == (11 : Int))) && (r49 == e61)) && (r52 == ((-1) : Int))) && (r62 == (0 : Int))))) (p_ldE (xs := l20) (a := e63) (e63 : Int) ty3 rfl rfl (fun e => optG_t he63 e) rfl rfl rfl (hg := fun e => e)) (gcT1 rfl) rfl ?_
          obtain ⟨r64, hr64, hX⟩ := bind_some hX
          refine TL.lookX [.vref (ofL [Enc.v (r54.2.1 : (List Int)), Enc.v (r54.2.2 : (List Int))]) 2 0, Enc.v (e63 : Int)] (gcT1 rfl) rfl rfl (fun e => ⟨rfl, ⟨e, ⟨e, trivial⟩⟩⟩) ⟨look_ref (l := [Enc.v (r54.2.1 : (List Int)), OL (α := Int) b56 r54.2.2]) nd (j := 0) rfl ⟨look_v (v := Enc.v (r54.2.1 : (List Int))) (v_val _), look_OL nd (j := 1) rfl, trivial⟩, look_v (v := Enc.v (e63 : Int)) (v_val _), trivial⟩ (fun e => ok_shelf_Shelf_Slot r54.2.1 r54.2.2 e63 _ (optG_t hr64 e)) (trivial) ?_
          refine TL.p (C := cx) (gc := (((((((r58 == (11 : Int)) && (r59 == (0 : Int))) && (r60 == (11 : Int))) && (r49 == e61)) && (r52 == ((-1) : Int))) && (r62 == (0 : Int))))) (p_mv rfl (hg := fun e => rfl)) (gcT1 rfl) rfl ?_
          refine TL.p (C := cx) (gc := (((((((r58 == (11 : Int)) && (r59 == (0 : Int))) && (r60 == (11 : Int))) && (r49 == e61)) && (r52 == ((-1) : Int))) && (r62 == (0 : Int))))) (p_eql rfl rfl (hg := fun e => ⟨e, e⟩)) (gcT1 rfl) rfl ?_
          refine TL.p (C := cx) (gc := true) (p_and rfl rfl (fun e => ⟨rfl, fun h => h⟩)) rfl rfl ?_
          refine TL.p (C := cx) (gc := true) (p_mv rfl) rfl rfl ?_
          refine TL.p (C := cx) (gc := ((((((((r58 == (11 : Int)) && (r59 == (0 : Int))) && (r60 == (11 : Int))) && (r49 == e61)) && (r52 == ((-1) : Int))) && (r62 == (0 : Int))) && (r64 == at2)))) (p_mv rfl (hg := fun e => rfl)) (gcT1 rfl) rfl ?_
          refine TL.p (C := cx) (gc := ((((((((r58 == (11 : Int)) && (r59 == (0 : Int))) && (r60 == (11 : Int))) && (r49 == e61)) && (r52 == ((-1) : Int))) && (r62 == (0 : Int))) && (r64 == at2)))) (p_mv rfl (hg := fun e => rfl)) (gcT1 rfl) rfl ?_
          obtain ⟨r65, hr65, hX⟩ := bind_some hX
          refine TL.lookX [.vref (ofL [Enc.v (r54.2.1 : (List Int)), Enc.v (r54.2.2 : (List Int))]) 2 0, Enc.v (d4 : Int)] (gcT1 rfl) rfl rfl (fun e => ⟨rfl, ⟨e, ⟨e, trivial⟩⟩⟩) ⟨look_ref (l := [Enc.v (r54.2.1 : (List Int)), OL (α := Int) b56 r54.2.2]) nd (j := 0) rfl ⟨look_v (v := Enc.v (r54.2.1 : (List Int))) (v_val _), look_OL nd (j := 1) rfl, trivial⟩, look_v (v := Enc.v (d4 : Int)) (v_val _), trivial⟩ (fun e => ok_shelf_Shelf_Mounted r54.2.1 r54.2.2 d4 _ (optG_t hr65 e)) (trivial) ?_
          refine TL.p (C := cx) (gc := ((((((((r58 == (11 : Int)) && (r59 == (0 : Int))) && (r60 == (11 : Int))) && (r49 == e61)) && (r52 == ((-1) : Int))) && (r62 == (0 : Int))) && (r64 == at2)))) (p_eql rfl rfl (hg := fun e => ⟨e, rfl⟩)) (gcT1 rfl) rfl ?_
          refine TL.p (C := cx) (gc := true) (p_and rfl rfl (fun e => ⟨rfl, fun h => h⟩)) rfl rfl ?_
          refine TL.p (C := cx) (gc := true) (p_mv rfl) rfl rfl ?_
          refine TL.p (C := cx) (gc := (((((((((r58 == (11 : Int)) && (r59 == (0 : Int))) && (r60 == (11 : Int))) && (r49 == e61)) && (r52 == ((-1) : Int))) && (r62 == (0 : Int))) && (r64 == at2)) && (r65 == (0 : Int))))) (p_mv rfl (hg := fun e => rfl)) (gcT1 rfl) rfl ?_
          refine TL.p (C := cx) (gc := (((((((((r58 == (11 : Int)) && (r59 == (0 : Int))) && (r60 == (11 : Int))) && (r49 == e61)) && (r52 == ((-1) : Int))) && (r62 == (0 : Int))) && (r64 == at2)) && (r65 == (0 : Int))))) (p_mv rfl (hg := fun e => rfl)) (gcT1 rfl) rfl ?_
          refine TL.p (C := cx) (gc := (((((((((r58 == (11 : Int)) && (r59 == (0 : Int))) && (r60 == (11 : Int))) && (r49 == e61)) && (r52 == ((-1) : Int))) && (r62 == (0 : Int))) && (r64 == at2)) && (r65 == (0 : Int))))) (p_mv rfl (hg := fun e => rfl)) (gcT1 rfl) rfl ?_
          obtain ⟨e66, he66, hX⟩ := bind_some hX
          refine TL.p (C := cx) (gc := (((((((((r58 == (11 : Int)) && (r59 == (0 : Int))) && (r60 == (11 : Int))) && (r49 == e61)) && (r52 == ((-1) : Int))) && (r62 == (0 : Int))) && (r64 == at2)) && (r65 == (0 : Int))))) (p_iaL (xs := l20) kd22 ty3 rfl rfl rfl (fun e => optG_t he66 e) (hg := fun e => ⟨e, e⟩)) (gcT1 rfl) rfl ?_
          refine TL.p (C := cx) (gc := (((((((((r58 == (11 : Int)) && (r59 == (0 : Int))) && (r60 == (11 : Int))) && (r49 == e61)) && (r52 == ((-1) : Int))) && (r62 == (0 : Int))) && (r64 == at2)) && (r65 == (0 : Int))))) (p_ldE (xs := l20) (a := e66) (e66 : Int) ty3 rfl rfl (fun e => optG_t he66 e) rfl rfl rfl (hg := fun e => e)) (gcT1 rfl) rfl ?_
          obtain ⟨r67, hr67, hX⟩ := bind_some hX
          refine TL.lookX [.vref (ofL [Enc.v (r54.2.1 : (List Int)), Enc.v (r54.2.2 : (List Int))]) 2 0, Enc.v (e66 : Int)] (gcT1 rfl) rfl rfl (fun e => ⟨rfl, ⟨e, ⟨e, trivial⟩⟩⟩) ⟨look_ref (l := [Enc.v (r54.2.1 : (List Int)), OL (α := Int) b56 r54.2.2]) nd (j := 0) rfl ⟨look_v (v := Enc.v (r54.2.1 : (List Int))) (v_val _), look_OL nd (j := 1) rfl, trivial⟩, look_v (v := Enc.v (e66 : Int)) (v_val _), trivial⟩ (fun e => ok_shelf_Shelf_Drive r54.2.1 r54.2.2 e66 _ (optG_t hr67 e)) (trivial) ?_
          refine TL.p (C := cx) (gc := (((((((((r58 == (11 : Int)) && (r59 == (0 : Int))) && (r60 == (11 : Int))) && (r49 == e61)) && (r52 == ((-1) : Int))) && (r62 == (0 : Int))) && (r64 == at2)) && (r65 == (0 : Int))))) (p_eql rfl rfl (hg := fun e => ⟨e, rfl⟩)) (gcT1 rfl) rfl ?_
          refine TL.p (C := cx) (gc := true) (p_and rfl rfl (fun e => ⟨rfl, fun h => h⟩)) rfl rfl ?_
          refine TL.p (C := cx) (gc := true) (p_mv rfl) rfl rfl ?_
          refine TL.nil ?_
          refine hK57 _ _ ?_
          refine TK.ret ?_
          try dsimp only [thenQ]
          exact ret1 (v := Enc.v ((((((((((r58 == (11 : Int)) && (r59 == (0 : Int))) && (r60 == (11 : Int))) && (r49 == e61)) && (r52 == ((-1) : Int))) && (r62 == (0 : Int))) && (r64 == at2)) && (r65 == (0 : Int))) && (r67 == ((-1) : Int))) : Bool)) rfl (by obtain rfl := some_in hX; rfl) (v_val _)
    refine TK.iter [0, 1, 2, 3, 10, 11] (fun s env h => match s with | (labels17, i18) => ∃ b16, env = [(0, true, Enc.v (n1 : Int)), (1, true, Enc.v (at2 : Int)), (2, true, Enc.v (drives3 : Int)), (3, true, Enc.v (d4 : Int)), (10, true, OL (α := Int) b16 labels17), (11, true, Enc.v (i18 : Int))] ∧ Nd [(b16, RL (α := Int) 3 labels17)] ∧ HSub [(b16, RL (α := Int) 3 labels17)] h) hO15 ⟨b12, rfl, (Nd.pick nd (is := [0]) (by decide)), (HSub.pick nd (is := [0]) (by decide))⟩ ?_
    rintro ⟨labels17, i18⟩ env h x15x ⟨b16, rfl, nd, hs⟩ hX hR15
    refine TK.subH hs ?_
    unfold X.cartridgelaw22_ShelfBack_s15 at hX
    try dsimp only at hX
    refine TK.seq_k fun K68 hK68 => ?_
    refine TK.seq_k fun K69 hK69 => ?_
    refine TK.reg ?_
    refine TL.p (C := cx) (gc := true) (p_mv rfl) rfl rfl ?_
    refine TL.p (C := cx) (gc := true) (p_mv rfl) rfl rfl ?_
    refine TL.p (C := cx) (gc := true) (p_lss rfl rfl) rfl rfl ?_
    refine TL.nil ?_
    refine hK69 _ _ ?_
    refine TK.cond (b := (decide (i18 < n1))) rfl (fun hc => ?_) (fun hc => ?_)
    · have hX := ite_t hc hX
      refine TK.skip ?_
      refine hK68 _ _ ?_
      refine TK.seq_k fun K70 hK70 => ?_
      refine TK.block ?_
      refine TK.reg ?_
      refine TL.p (C := cx) (gc := true) (p_mv rfl) rfl rfl ?_
      refine TL.p (C := cx) (gc := true) (p_mv rfl) rfl rfl ?_
      refine TL.p (C := cx) (gc := true) (p_mul rfl rfl) rfl rfl ?_
      refine TL.p (C := cx) (gc := true) (p_add rfl rfl) rfl rfl ?_
      refine TL.lit (C := cx) ([(wr ((wr ((7 : Int) * i18)) + (3 : Int)))] : List Int) kd22 ty3 rfl ⟨⟨rfl, rfl⟩, trivial⟩ rfl rfl rfl ?_
      obtain ⟨u71, hu71, hX⟩ := bind_some hX
      refine TL.appO (C := cx) nd kd22 bo22 ty3 rfl rfl (j := 0) rfl rfl (Src_L _) (by decide) (need_t hu71) rfl fun nd => ?_
      refine TL.p (C := cx) (gc := true) (p_mv rfl) rfl rfl ?_
      refine TL.nil ?_
      refine hK70 _ _ ?_
      refine TK.reg ?_
      refine TL.p (C := cx) (gc := true) (p_mv rfl) rfl rfl ?_
      refine TL.p (C := cx) (gc := true) (p_add rfl rfl) rfl rfl ?_
      refine TL.p (C := cx) (gc := true) (p_mv rfl) rfl rfl ?_
      refine TL.nil ?_
      exact ⟨_, (some_in hX).symm, b16, rfl, (Nd.pick nd (is := [0]) (by decide)), (HSub.pick nd (is := [0]) (by decide))⟩
    · have hX := ite_f hc hX
      refine TK.exit ?_
      obtain rfl := hR15 _ (some_in hX).symm
      exact E15 labels17 _ _ ⟨b16, rfl, (Nd.pick nd (is := [0]) (by decide)), (HSub.pick nd (is := [0]) (by decide))⟩ hA15

end Go.Proofs.Ytjkjoihlpnahdaa
