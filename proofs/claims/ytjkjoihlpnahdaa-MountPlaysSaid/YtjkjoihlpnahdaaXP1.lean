import Derived.Test.YtjkjoihlpnahdaaXFn
import Derived.Test.YtjkjoihlpnahdaaXS
import Derived.Test.YtjkjoihlpnahdaaAmK0
import Derived.Test.YtjkjoihlpnahdaaAmK1
import Derived.Test.YtjkjoihlpnahdaaXP0
/- That they do. -/
namespace Go.Proofs.Ytjkjoihlpnahdaa
open Go.AM Go.AX
set_option linter.unusedVariables false
set_option maxRecDepth 20000

/-- cartridge/cartridgelaw23.MountPlays -/
theorem ok_cartridgelaw23_MountPlays (l1 : (List Act_law23)) (r : Bool) (hX : X.cartridgelaw23_MountPlays l1 = some r) : Fun Try.prog 4 [Enc.v (l1 : (List Act_law23))] (· = Enc.v (r : Bool)) := by
  refine Fun.of b4 (Nat.le_of_ble_eq_true rfl) (allVal.mem ⟨(by exact (v_val _)), trivial⟩) ?_
  unfold k4
  have nd : Nd [] := Nd_nil
  unfold X.cartridgelaw23_MountPlays at hX
  refine TK.seq_k fun K2 hK2 => ?_
  refine TK.reg ?_
  refine TL.p (C := cx) (gc := true) (p_mv rfl) rfl rfl ?_
  refine TL.nil ?_
  refine hK2 _ _ ?_
  refine TK.seq_k fun K3 hK3 => ?_
  refine TK.reg ?_
  obtain ⟨r4, hr4, hX⟩ := bind_some hX
  refine TL.cvX rfl rfl rfl (fun _ => ⟨rfl, trivial⟩) (fun e => ok_cartridgelaw23_alive  _ hr4) ?_
  refine TL.p (C := cx) (gc := true) (p_mv rfl) rfl rfl ?_
  refine TL.nil ?_
  refine hK3 _ _ ?_
  refine TK.seq_k fun K5 hK5 => ?_
  refine TK.seq_k fun K6 hK6 => ?_
  refine TK.reg ?_
  refine TL.p (C := cx) (gc := true) (p_mv rfl) rfl rfl ?_
  refine TL.p (C := cx) (gc := true) (p_not rfl) rfl rfl ?_
  refine TL.p (C := cx) (gc := true) (p_mv rfl) rfl rfl ?_
  refine TL.p (C := cx) (gc := (!((!r4)))) (p_mv rfl (hg := fun e => rfl)) (gcF1 rfl) rfl ?_
  refine TL.p (C := cx) (gc := (!((!r4)))) (p_lenL (xs := l1) kd34 rfl (hg := fun e => e)) (gcF1 rfl) rfl ?_
  refine TL.p (C := cx) (gc := (!((!r4)))) (p_gtr rfl rfl (hg := fun e => ⟨e, rfl⟩)) (gcF1 rfl) rfl ?_
  refine TL.p (C := cx) (gc := true) (p_or rfl rfl (fun e => ⟨rfl, fun h => (not_t h)⟩)) rfl rfl ?_
  refine TL.nil ?_
  refine hK6 _ _ ?_
  refine TK.cond (b := ((!r4) || (decide ((l1.length : Int) > (200 : Int))))) rfl (fun hc => ?_) (fun hc => ?_)
  · have hX := ite_t hc hX
    refine TK.seq_k fun K7 hK7 => ?_
    refine TK.reg ?_
    refine TL.p (C := cx) (gc := true) (p_mv rfl) rfl rfl ?_
    refine TL.p (C := cx) (gc := true) (p_mv rfl) rfl rfl ?_
    refine TL.nil ?_
    refine hK7 _ _ ?_
    refine TK.ret ?_
    try dsimp only [thenQ]
    exact ret1 (v := Enc.v (r4 : Bool)) rfl (by obtain rfl := some_in hX; rfl) (v_val _)
  · have hX := ite_f hc hX
    refine TK.skip ?_
    refine hK5 _ _ ?_
    refine TK.seq_k fun K8 hK8 => ?_
    refine TK.reg ?_
    refine TL.p (C := cx) (gc := true) (p_bld (l := [.nils]) ty37 rfl all37 rfl (fun _ => trivial)) rfl rfl ?_
    refine TL.boxO (C := cx) (lu := [.nils]) nd rfl (Cells_agg rfl (allA.mem ⟨trivial, trivial⟩)) rfl fun b9 nd => ?_
    refine TL.p (C := cx) (gc := true) (p_mv rfl) rfl rfl ?_
    refine TL.nil ?_
    refine hK8 _ _ ?_
    refine TK.ownC (α := Int) nd (j := 0) rfl 0 3 (.inl rfl) fun b10 nd => ?_
    refine TK.seq_k fun K11 hK11 => ?_
    refine TK.reg ?_
    refine TL.p (C := cx) (gc := true) (p_bld (l := [.nils]) ty37 rfl all37 rfl (fun _ => trivial)) rfl rfl ?_
    refine TL.boxO (C := cx) (lu := [.nils]) nd rfl (Cells_agg rfl (allA.mem ⟨trivial, trivial⟩)) rfl fun b12 nd => ?_
    refine TL.p (C := cx) (gc := true) (p_mv rfl) rfl rfl ?_
    refine TL.nil ?_
    refine hK11 _ _ ?_
    refine TK.ownC (α := Int) nd (j := 0) rfl 0 3 (.inl rfl) fun b13 nd => ?_
    refine TK.seq_k fun K14 hK14 => ?_
    refine TK.reg ?_
    refine TL.p (C := cx) (gc := true) (p_mv rfl) rfl rfl ?_
    refine TL.nil ?_
    refine hK14 _ _ ?_
    refine TK.ownL (α := Int) 6 3 nd rfl (.inl rfl) fun b15 nd => ?_
    refine TK.seq_k fun K16 hK16 => ?_
    refine TK.seq_k fun K17 hK17 => ?_
    refine TK.reg ?_
    refine TL.p (C := cx) (gc := true) (p_mv rfl) rfl rfl ?_
    refine TL.nil ?_
    refine hK17 _ _ ?_
    refine TK.block ?_
    obtain ⟨o18, hO18, hA18⟩ := bind_some hX
    have E18 : ∀ (env : Env) (h : Hp), (∃ _u : Unit, keepE [] env = [] ∧ Nd [] ∧ HSub [] h) → X.cartridgelaw23_MountPlays_e18 = some r → K16 env h := by
      intro  env h hE hX
      obtain ⟨_u, henv, nd, hs⟩ := hE
      unfold X.cartridgelaw23_MountPlays_e18 at hX
      refine hK16 _ _ (TK.keep [] ?_)
      rw [henv]
      refine TK.subH hs ?_
      refine TK.seq_k fun K28 hK28 => ?_
      refine TK.reg ?_
      refine TL.p (C := cx) (gc := true) (p_mv rfl) rfl rfl ?_
      refine TL.nil ?_
      refine hK28 _ _ ?_
      refine TK.ret ?_
      try dsimp only [thenQ]
      exact ret1 (v := Enc.v (true : Bool)) rfl (by obtain rfl := some_in hX; rfl) (v_val _)
    refine TK.iter [0, 4, 5, 6, 7] (fun s env h => match s with | (l21, l24, now26, i27) => ∃ b20 b19 b23 b22 b25, env = [(0, true, Enc.v (l1 : (List Act_law23))), (4, true, .ref b19 0 1), (5, true, .ref b22 0 1), (6, true, OL (α := Int) b25 now26), (7, true, Enc.v (i27 : Int))] ∧ Nd [(b20, RL (α := Int) 3 l21), (b19, RV 37 [OL (α := Int) b20 l21]), (b23, RL (α := Int) 3 l24), (b22, RV 37 [OL (α := Int) b23 l24]), (b25, RL (α := Int) 3 now26)] ∧ HSub [(b20, RL (α := Int) 3 l21), (b19, RV 37 [OL (α := Int) b20 l21]), (b23, RL (α := Int) 3 l24), (b22, RV 37 [OL (α := Int) b23 l24]), (b25, RL (α := Int) 3 now26)] h) hO18 ⟨b10, b9, b13, b12, b15, rfl, (Nd.pick nd (is := [3, 4, 1, 2, 0]) (by decide)), (HSub.pick nd (is := [3, 4, 1, 2, 0]) (by decide))⟩ ?_
    rintro ⟨l21, l24, now26, i27⟩ env h x18x ⟨b20, b19, b23, b22, b25, rfl, nd, hs⟩ hX hR18
    refine TK.subH hs ?_
    unfold X.cartridgelaw23_MountPlays_s18 at hX
    try dsimp only at hX
    refine TK.seq_k fun K29 hK29 => ?_
    refine TK.seq_k fun K30 hK30 => ?_
    refine TK.reg ?_
    refine TL.p (C := cx) (gc := true) (p_mv rfl) rfl rfl ?_
    refine TL.p (C := cx) (gc := true) (p_mv rfl) rfl rfl ?_
    refine TL.p (C := cx) (gc := true) (p_lenL (xs := l1) kd34 rfl) rfl rfl ?_
    refine TL.p (C := cx) (gc := true) (p_lss rfl rfl) rfl rfl ?_
    refine TL.nil ?_
    refine hK30 _ _ ?_
    refine TK.cond (b := (decide (i27 < (l1.length : Int)))) rfl (fun hc => ?_) (fun hc => ?_)
    · have hX := ite_t hc hX
      refine TK.skip ?_
      refine hK29 _ _ ?_
      refine TK.seq_k fun K31 hK31 => ?_
      refine TK.block ?_
      refine TK.seq_k fun K32 hK32 => ?_
      refine TK.reg ?_
      refine TL.p (C := cx) (gc := true) (p_mv rfl) rfl rfl ?_
      refine TL.p (C := cx) (gc := true) (p_mv rfl) rfl rfl ?_
      obtain ⟨e33, he33, hX⟩ := bind_some hX
      refine TL.p (C := cx) (gc := true) (p_iaL (xs := l1) kd34 ty39 rfl rfl rfl (fun _ => he33)) rfl rfl ?_
      refine TL.p (C := cx) (gc := true) (p_ldE (xs := l1) (a := e33) (e33 : Act_law23) ty39 rfl rfl (fun _ => he33) rfl rfl rfl) rfl rfl ?_
      refine TL.alO (C := cx) (l := [Enc.v ((0 : Int) : Int), Enc.v ((0 : Int) : Int)]) nd ty39 ti39_z rfl rfl fun b34 nd => ?_
      refine TL.stV (C := cx) (lu := Enc.cl (e33 : Act_law23)) nd ty39 rfl (j := 0) rfl rfl rfl (Cells_v (e33 : Act_law23)) rfl rfl [Enc.v (e33.Way : Int), Enc.v (e33.Label : Int)] rfl fun nd => ?_
      refine TL.nil ?_
      refine hK32 _ _ ?_
      refine TK.seq_k fun K35 hK35 => ?_
      refine TK.reg ?_
      refine TL.p (C := cx) (gc := true) (p_mv rfl) rfl rfl ?_
      refine TL.p (C := cx) (gc := true) (p_mv rfl) rfl rfl ?_
      obtain ⟨r36, hr36, hX⟩ := bind_some hX
      refine TL.pick [4, 3, 0, 1, 2, 5] nd (by decide) fun nd => ?_
      refine TL.tcX [(b22, RV 37 [OL (α := Int) b23 l24]), (b23, RL (α := Int) 3 l24)] [(b34, RV 39 [Enc.v (e33.Way : Int), Enc.v (e33.Label : Int)]), (b20, RL (α := Int) 3 l21), (b19, RV 37 [OL (α := Int) b20 l21]), (b25, RL (α := Int) 3 now26)] rfl nd (dlt rfl) rfl ⟨rfl, ⟨rfl, ⟨rfl, trivial⟩⟩⟩ (ok_mount_Line_Add i27 l24 b22 b23 (Nd.take nd 2 rfl) _ hr36) ?_
      rintro _ _ hQ nd
      obtain ⟨b38, rfl, rfl⟩ := hQ
      refine TL.nil ?_
      refine hK35 _ _ ?_
      refine TK.seq_k fun K39 hK39 => ?_
      have J39 : ∀ (l42 : List Int) (l46 : List Int) (env : Env) (h : Hp), (∃ b41 b40 b44 b43 b45 b47, keepE [0, 4, 5, 6, 7, 8] env = [(0, true, Enc.v (l1 : (List Act_law23))), (4, true, .ref b40 0 1), (5, true, .ref b43 0 1), (6, true, OL (α := Int) b45 l46), (7, true, Enc.v (i27 : Int)), (8, true, .ref b47 0 2)] ∧ Nd [(b41, RL (α := Int) 3 l42), (b40, RV 37 [OL (α := Int) b41 l42]), (b44, RL (α := Int) 3 r36), (b43, RV 37 [OL (α := Int) b44 r36]), (b45, RL (α := Int) 3 l46), (b47, RV 39 [Enc.v (e33.Way : Int), Enc.v (e33.Label : Int)])] ∧ HSub [(b41, RL (α := Int) 3 l42), (b40, RV 37 [OL (α := Int) b41 l42]), (b44, RL (α := Int) 3 r36), (b43, RV 37 [OL (α := Int) b44 r36]), (b45, RL (α := Int) 3 l46), (b47, RV 39 [Enc.v (e33.Way : Int), Enc.v (e33.Label : Int)])] h) → X.cartridgelaw23_MountPlays_j39 e33 r36 i27 l42 l46 = some x18x → K39 env h := by
        intro l42 l46 env h hE hX
        obtain ⟨b41, b40, b44, b43, b45, b47, henv, nd, hs⟩ := hE
        unfold X.cartridgelaw23_MountPlays_j39 at hX
        refine hK39 _ _ (TK.keep [0, 4, 5, 6, 7, 8] ?_)
        rw [henv]
        refine TK.subH hs ?_
        refine TK.seq_k fun K48 hK48 => ?_
        refine TK.reg ?_
        refine TL.p (C := cx) (gc := true) (p_mv rfl) rfl rfl ?_
        obtain ⟨r49, hr49, hX⟩ := bind_some hX
        refine TL.lookX [.vref (ofL [Enc.v (l42 : (List Int))]) 1 0] rfl rfl rfl (fun _ => ⟨rfl, ⟨rfl, trivial⟩⟩) ⟨look_ref (l := [OL (α := Int) b41 l42]) nd (j := 1) rfl ⟨look_OL nd (j := 0) rfl, trivial⟩, trivial⟩ (fun e => ok_mount_Line_First l42 _ hr49) (tup_closed rfl ⟨trivial, trivial, trivial⟩) ?_
        refine TL.p (C := cx) (gc := true) (p_mv rfl) rfl rfl ?_
        refine TL.p (C := cx) (gc := true) (p_ex rfl rfl (by decide)) rfl rfl ?_
        refine TL.p (C := cx) (gc := true) (p_ex rfl rfl (by decide)) rfl rfl ?_
        refine TL.p (C := cx) (gc := true) (p_mv rfl) rfl rfl ?_
        refine TL.p (C := cx) (gc := true) (p_mv rfl) rfl rfl ?_
        refine TL.nil ?_
        refine hK48 _ _ ?_
        refine TK.seq_k fun K50 hK50 => ?_
        refine TK.seq_k fun K51 hK51 => ?_
        refine TK.reg ?_
        refine TL.p (C := cx) (gc := true) (p_mv rfl) rfl rfl ?_
        obtain ⟨r52, hr52, hX⟩ := bind_some hX
        refine TL.lookX [.vref (ofL [Enc.v (l42 : (List Int))]) 1 0] rfl rfl rfl (fun _ => ⟨rfl, ⟨rfl, trivial⟩⟩) ⟨look_ref (l := [OL (α := Int) b41 l42]) nd (j := 1) rfl ⟨look_OL nd (j := 0) rfl, trivial⟩, trivial⟩ (fun e => ok_mount_Line_Len l42 _ hr52) (trivial) ?_
        refine TL.p (C := cx) (gc := true) (p_mv rfl) rfl rfl ?_
        refine TL.p (C := cx) (gc := true) (p_lenR kd22 rfl (fun _ => refOK_of nd (j := 4) rfl rfl)) rfl rfl ?_
        refine TL.p (C := cx) (gc := true) (p_neq rfl rfl) rfl rfl ?_
        refine TL.p (C := cx) (gc := true) (p_mv rfl) rfl rfl ?_
        refine TL.p (C := cx) (gc := (!((r52 != (l46.length : Int))))) (p_mv rfl (hg := fun e => rfl)) (gcF1 rfl) rfl ?_
        refine TL.p (C := cx) (gc := (!((r52 != (l46.length : Int))))) (p_mv rfl (hg := fun e => rfl)) (gcF1 rfl) rfl ?_
        refine TL.p (C := cx) (gc := (!((r52 != (l46.length : Int))))) (p_lenR kd22 rfl (fun _ => refOK_of nd (j := 4) rfl rfl) (hg := fun e => e)) (gcF1 rfl) rfl ?_
        refine TL.p (C := cx) (gc := (!((r52 != (l46.length : Int))))) (p_gtr rfl rfl (hg := fun e => ⟨e, rfl⟩)) (gcF1 rfl) rfl ?_
        refine TL.p (C := cx) (gc := (!((r52 != (l46.length : Int))))) (p_neB kd4 rfl rfl (hg := fun e => ⟨e, e⟩)) (gcF1 rfl) rfl ?_
        refine TL.p (C := cx) (gc := true) (p_or rfl rfl (fun e => ⟨rfl, fun h => (not_t h)⟩)) rfl rfl ?_
        refine TL.p (C := cx) (gc := true) (p_mv rfl) rfl rfl ?_
        refine TL.p (C := cx) (gc := (!(((r52 != (l46.length : Int)) || (r49.2 != (decide ((l46.length : Int) > (0 : Int)))))))) (p_mv rfl (hg := fun e => rfl)) (gcF1 rfl) rfl ?_
        refine TL.p (C := cx) (gc := (!(((r52 != (l46.length : Int)) || (r49.2 != (decide ((l46.length : Int) > (0 : Int)))))))) (p_mv rfl (hg := fun e => e)) (gcF1 rfl) rfl ?_
        refine TL.p (C := cx) (gc := ((!(((r52 != (l46.length : Int)) || (r49.2 != (decide ((l46.length : Int) > (0 : Int))))))) && (r49.2))) (p_mv rfl (hg := fun e => rfl)) (gcT rfl) rfl ?_
        refine TL.p (C := cx) (gc := ((!(((r52 != (l46.length : Int)) || (r49.2 != (decide ((l46.length : Int) > (0 : Int))))))) && (r49.2))) (p_mv rfl (hg := fun e => rfl)) (gcT rfl) rfl ?_
        obtain ⟨e53, he53, hX⟩ := bind_some hX
        refine TL.p (C := cx) (gc := ((!(((r52 != (l46.length : Int)) || (r49.2 != (decide ((l46.length : Int) > (0 : Int))))))) && (r49.2))) (p_iaO (xs := l46) kd22 ty3 rfl rfl rfl nd (j := 4) rfl (fun e => optG_t he53 e) (hg := fun e => ⟨e, rfl⟩)) (gcT rfl) rfl ?_
        refine TL.p (C := cx) (gc := ((!(((r52 != (l46.length : Int)) || (r49.2 != (decide ((l46.length : Int) > (0 : Int))))))) && (r49.2))) (p_ldO (xs := l46) (a := e53) (e53 : Int) ty3 rfl rfl nd (j := 4) rfl (fun e => optG_t he53 e) rfl rfl rfl (hg := fun e => e)) (gcT rfl) rfl ?_
        refine TL.p (C := cx) (gc := ((!(((r52 != (l46.length : Int)) || (r49.2 != (decide ((l46.length : Int) > (0 : Int))))))) && (r49.2))) (p_neq rfl rfl (hg := fun e => ⟨e, e⟩)) (gcT rfl) rfl ?_
        refine TL.p (C := cx) (gc := (!(((r52 != (l46.length : Int)) || (r49.2 != (decide ((l46.length : Int) > (0 : Int)))))))) (p_and rfl rfl (fun e => ⟨e, fun h => (and_i e h)⟩)) (gcF1 rfl) rfl ?_
        refine TL.p (C := cx) (gc := true) (p_or rfl rfl (fun e => ⟨rfl, fun h => (not_t h)⟩)) rfl rfl ?_
        refine TL.nil ?_
        refine hK51 _ _ ?_
        refine TK.cond (b := (((r52 != (l46.length : Int)) || (r49.2 != (decide ((l46.length : Int) > (0 : Int))))) || (r49.2 && (r49.1 != e53)))) rfl (fun hc => ?_) (fun hc => ?_)
        · have hX := ite_t hc hX
          refine TK.seq_k fun K54 hK54 => ?_
          refine TK.reg ?_
          refine TL.p (C := cx) (gc := true) (p_mv rfl) rfl rfl ?_
          refine TL.nil ?_
          refine hK54 _ _ ?_
          refine TK.ret ?_
          obtain rfl := hR18 _ (some_in hX).symm
          replace hX := hA18
          try dsimp only [thenQ]
          exact ret1 (v := Enc.v (false : Bool)) rfl (by obtain rfl := some_in hX; rfl) (v_val _)
        · have hX := ite_f hc hX
          refine TK.skip ?_
          refine hK50 _ _ ?_
          refine TK.seq_k fun K55 hK55 => ?_
          refine TK.reg ?_
          refine TL.p (C := cx) (gc := true) (p_mv rfl) rfl rfl ?_
          refine TL.nil ?_
          refine hK55 _ _ ?_
          refine TK.seq_k fun K56 hK56 => ?_
          refine TK.seq_k fun K57 hK57 => ?_
          refine TK.reg ?_
          refine TL.p (C := cx) (gc := true) (p_mv rfl) rfl rfl ?_
          refine TL.nil ?_
          refine hK57 _ _ ?_
          refine TK.block ?_
          obtain ⟨o58, hO58, hA58⟩ := bind_some hX
          have E58 : ∀ (in73 : Bool) (env : Env) (h : Hp), (∃ b68 b67 b70 b69 b71 b72, keepE [0, 4, 5, 6, 7, 8, 14] env = [(0, true, Enc.v (l1 : (List Act_law23))), (4, true, .ref b67 0 1), (5, true, .ref b69 0 1), (6, true, OL (α := Int) b71 l46), (7, true, Enc.v (i27 : Int)), (8, true, .ref b72 0 2), (14, true, Enc.v (in73 : Bool))] ∧ Nd [(b68, RL (α := Int) 3 l42), (b67, RV 37 [OL (α := Int) b68 l42]), (b70, RL (α := Int) 3 r36), (b69, RV 37 [OL (α := Int) b70 r36]), (b71, RL (α := Int) 3 l46), (b72, RV 39 [Enc.v (e33.Way : Int), Enc.v (e33.Label : Int)])] ∧ HSub [(b68, RL (α := Int) 3 l42), (b67, RV 37 [OL (α := Int) b68 l42]), (b70, RL (α := Int) 3 r36), (b69, RV 37 [OL (α := Int) b70 r36]), (b71, RL (α := Int) 3 l46), (b72, RV 39 [Enc.v (e33.Way : Int), Enc.v (e33.Label : Int)])] h) → X.cartridgelaw23_MountPlays_e58 l42 e33 r36 l46 i27 in73 = some x18x → K56 env h := by
            intro in73 env h hE hX
            obtain ⟨b68, b67, b70, b69, b71, b72, henv, nd, hs⟩ := hE
            unfold X.cartridgelaw23_MountPlays_e58 at hX
            refine hK56 _ _ (TK.keep [0, 4, 5, 6, 7, 8, 14] ?_)
            rw [henv]
            refine TK.subH hs ?_
            refine TK.seq_k fun K74 hK74 => ?_
            refine TK.reg ?_
            refine TL.p (C := cx) (gc := true) (p_mv rfl) rfl rfl ?_
            refine TL.p (C := cx) (gc := true) (p_faV fs39_1 (by decide) rfl nd (j := 5) rfl rfl) rfl rfl ?_
            refine TL.p (C := cx) (gc := true) (p_ldV (v := Enc.v (e33.Label : Int)) ty3 rfl rfl nd (j := 5) rfl rfl rfl rfl rfl) rfl rfl ?_
            obtain ⟨r75, hr75, hX⟩ := bind_some hX
            refine TL.lookX [.vref (ofL [Enc.v (l42 : (List Int))]) 1 0, Enc.v (e33.Label : Int)] rfl rfl rfl (fun _ => ⟨rfl, ⟨rfl, ⟨rfl, trivial⟩⟩⟩) ⟨look_ref (l := [OL (α := Int) b68 l42]) nd (j := 1) rfl ⟨look_OL nd (j := 0) rfl, trivial⟩, look_v (v := Enc.v (e33.Label : Int)) (v_val _), trivial⟩ (fun e => ok_mount_Line_Wants l42 e33.Label _ hr75) (trivial) ?_
            refine TL.p (C := cx) (gc := true) (p_mv rfl) rfl rfl ?_
            refine TL.p (C := cx) (gc := true) (p_neB kd4 rfl rfl) rfl rfl ?_
            refine TL.nil ?_
            refine hK74 _ _ ?_
            refine TK.cond (b := (r75 != in73)) rfl (fun hc => ?_) (fun hc => ?_)
            · have hX := ite_t hc hX
              refine TK.seq_k fun K76 hK76 => ?_
              refine TK.reg ?_
              refine TL.p (C := cx) (gc := true) (p_mv rfl) rfl rfl ?_
              refine TL.nil ?_
              refine hK76 _ _ ?_
              refine TK.ret ?_
              obtain rfl := hR18 _ (some_in hX).symm
              replace hX := hA18
              try dsimp only [thenQ]
              exact ret1 (v := Enc.v (false : Bool)) rfl (by obtain rfl := some_in hX; rfl) (v_val _)
            · have hX := ite_f hc hX
              refine TK.skip ?_
              refine hK31 _ _ ?_
              refine TK.reg ?_
              refine TL.p (C := cx) (gc := true) (p_mv rfl) rfl rfl ?_
              refine TL.p (C := cx) (gc := true) (p_add rfl rfl) rfl rfl ?_
              refine TL.p (C := cx) (gc := true) (p_mv rfl) rfl rfl ?_
              refine TL.nil ?_
              exact ⟨_, (some_in hX).symm, b68, b67, b70, b69, b71, rfl, (Nd.pick nd (is := [0, 1, 2, 3, 4]) (by decide)), (HSub.pick nd (is := [0, 1, 2, 3, 4]) (by decide))⟩
          refine TK.iter [0, 4, 5, 6, 7, 8, 14, 15] (fun s env h => match s with | (in65, k66) => ∃ b60 b59 b62 b61 b63 b64, env = [(0, true, Enc.v (l1 : (List Act_law23))), (4, true, .ref b59 0 1), (5, true, .ref b61 0 1), (6, true, OL (α := Int) b63 l46), (7, true, Enc.v (i27 : Int)), (8, true, .ref b64 0 2), (14, true, Enc.v (in65 : Bool)), (15, true, Enc.v (k66 : Int))] ∧ Nd [(b60, RL (α := Int) 3 l42), (b59, RV 37 [OL (α := Int) b60 l42]), (b62, RL (α := Int) 3 r36), (b61, RV 37 [OL (α := Int) b62 r36]), (b63, RL (α := Int) 3 l46), (b64, RV 39 [Enc.v (e33.Way : Int), Enc.v (e33.Label : Int)])] ∧ HSub [(b60, RL (α := Int) 3 l42), (b59, RV 37 [OL (α := Int) b60 l42]), (b62, RL (α := Int) 3 r36), (b61, RV 37 [OL (α := Int) b62 r36]), (b63, RL (α := Int) 3 l46), (b64, RV 39 [Enc.v (e33.Way : Int), Enc.v (e33.Label : Int)])] h) hO58 ⟨b41, b40, b44, b43, b45, b47, rfl, (Nd.pick nd (is := [0, 1, 2, 3, 4, 5]) (by decide)), (HSub.pick nd (is := [0, 1, 2, 3, 4, 5]) (by decide))⟩ ?_
          rintro ⟨in65, k66⟩ env h x58x ⟨b60, b59, b62, b61, b63, b64, rfl, nd, hs⟩ hX hR58
          refine TK.subH hs ?_
          unfold X.cartridgelaw23_MountPlays_s58 at hX
          try dsimp only at hX
          refine TK.seq_k fun K77 hK77 => ?_
          refine TK.seq_k fun K78 hK78 => ?_
          refine TK.reg ?_
          refine TL.p (C := cx) (gc := true) (p_mv rfl) rfl rfl ?_
          refine TL.p (C := cx) (gc := true) (p_mv rfl) rfl rfl ?_
          refine TL.p (C := cx) (gc := true) (p_lenR kd22 rfl (fun _ => refOK_of nd (j := 4) rfl rfl)) rfl rfl ?_
          refine TL.p (C := cx) (gc := true) (p_lss rfl rfl) rfl rfl ?_
          refine TL.nil ?_
          refine hK78 _ _ ?_
          refine TK.cond (b := (decide (k66 < (l46.length : Int)))) rfl (fun hc => ?_) (fun hc => ?_)
          · have hX := ite_t hc hX
            refine TK.skip ?_
            refine hK77 _ _ ?_
            refine TK.seq_k fun K79 hK79 => ?_
            refine TK.block ?_
            have ndS : Nd [(b60, RL (α := Int) 3 l42), (b59, RV 37 [OL (α := Int) b60 l42]), (b62, RL (α := Int) 3 r36), (b61, RV 37 [OL (α := Int) b62 r36]), (b63, RL (α := Int) 3 l46), (b64, RV 39 [Enc.v (e33.Way : Int), Enc.v (e33.Label : Int)])] := Nd.pick nd (is := [0, 1, 2, 3, 4, 5]) (by decide)
            refine TK.drwX (h := []) (hS := [(b60, RL (α := Int) 3 l42), (b59, RV 37 [OL (α := Int) b60 l42]), (b62, RL (α := Int) 3 r36), (b61, RV 37 [OL (α := Int) b62 r36]), (b63, RL (α := Int) 3 l46), (b64, RV 39 [Enc.v (e33.Way : Int), Enc.v (e33.Label : Int)])]) [(0, 0), (0, 1), (0, 2), (0, 3), (0, 4), (0, 5), (0, 6), (0, 7), (0, 8), (0, 9), (0, 10)] mixed (by kernel_rfl) (HSub_app nd) ?_
            refine DR0 (gc := true) rfl (vok_p (C := cx) (p_mv rfl)) rfl rfl ?_
            refine DR0 (gc := true) rfl (vok_p (C := cx) (p_mv rfl)) rfl rfl ?_
            refine DR0 (gc := (!in65)) rfl (vok_p (C := cx) (p_mv rfl (hg := fun e => rfl))) (gcF1 rfl) rfl ?_
            refine DR0 (gc := (!in65)) rfl (vok_p (C := cx) (p_mv rfl (hg := fun e => rfl))) (gcF1 rfl) rfl ?_
            obtain ⟨e80, he80, hX⟩ := bind_some hX
            refine DR0 (gc := (!in65)) rfl (vok_p (C := cx) (p_iaO (xs := l46) kd22 ty3 rfl rfl rfl ndS (j := 4) rfl (fun e => optG_t he80 e) (hg := fun e => ⟨e, e⟩))) (gcF1 rfl) rfl ?_
            refine DR0 (gc := (!in65)) rfl (vok_p (C := cx) (p_ldO (xs := l46) (a := e80) (e80 : Int) ty3 rfl rfl ndS (j := 4) rfl (fun e => optG_t he80 e) rfl rfl rfl (hg := fun e => e))) (gcF1 rfl) rfl ?_
            refine DR0 (gc := (!in65)) rfl (vok_p (C := cx) (p_faV fs39_1 (by decide) rfl ndS (j := 5) rfl rfl (hg := fun e => rfl))) (gcF1 rfl) rfl ?_
            refine DR0 (gc := (!in65)) rfl (vok_p (C := cx) (p_ldV (v := Enc.v (e33.Label : Int)) ty3 rfl rfl ndS (j := 5) rfl rfl rfl rfl rfl (hg := fun e => e))) (gcF1 rfl) rfl ?_
            refine DR0 (gc := (!in65)) rfl (vok_p (C := cx) (p_eql rfl rfl (hg := fun e => ⟨e, e⟩))) (gcF1 rfl) rfl ?_
            refine DR0 (gc := true) rfl (vok_p (C := cx) (p_or rfl rfl (fun e => ⟨rfl, fun h => (not_t h)⟩))) rfl rfl ?_
            refine DR0 (gc := true) rfl (vok_p (C := cx) (p_mv rfl)) rfl rfl ?_
            refine DRend ?_
            refine hK79 _ _ ?_
            refine TK.reg ?_
            refine TL.p (C := cx) (gc := true) (p_mv rfl) rfl rfl ?_
            refine TL.p (C := cx) (gc := true) (p_add rfl rfl) rfl rfl ?_
            refine TL.p (C := cx) (gc := true) (p_mv rfl) rfl rfl ?_
            refine TL.nil ?_
            exact ⟨_, (some_in hX).symm, b60, b59, b62, b61, b63, b64, rfl, (Nd.pick nd (is := [0, 1, 2, 3, 4, 5]) (by decide)), (HSub.pick nd (is := [0, 1, 2, 3, 4, 5]) (by decide))⟩
          · have hX := ite_f hc hX
            refine TK.exit ?_
            obtain rfl := hR58 _ (some_in hX).symm
            exact E58 in65 _ _ ⟨b60, b59, b62, b61, b63, b64, rfl, (Nd.pick nd (is := [0, 1, 2, 3, 4, 5]) (by decide)), (HSub.pick nd (is := [0, 1, 2, 3, 4, 5]) (by decide))⟩ hA58
      refine TK.seq_k fun K81 hK81 => ?_
      refine TK.reg ?_
      refine TL.p (C := cx) (gc := true) (p_faV fs39_0 (by decide) rfl nd (j := 2) rfl rfl) rfl rfl ?_
      refine TL.p (C := cx) (gc := true) (p_ldV (v := Enc.v (e33.Way : Int)) ty3 rfl rfl nd (j := 2) rfl rfl rfl rfl rfl) rfl rfl ?_
      refine TL.nil ?_
      refine hK81 _ _ ?_
      refine TK.block ?_
      refine TK.seq_k fun K82 hK82 => ?_
      refine TK.reg ?_
      refine TL.p (C := cx) (gc := true) (p_eql rfl rfl) rfl rfl ?_
      refine TL.p (C := cx) (gc := true) (p_mv rfl) rfl rfl ?_
      refine TL.nil ?_
      refine hK82 _ _ ?_
      refine TK.cond (b := (e33.Way == (0 : Int))) rfl (fun hc => ?_) (fun hc => ?_)
      · have hX := ite_t hc hX
        refine TK.seq_k fun K83 hK83 => ?_
        refine TK.reg ?_
        refine TL.p (C := cx) (gc := true) (p_mv rfl) rfl rfl ?_
        refine TL.p (C := cx) (gc := true) (p_faV fs39_1 (by decide) rfl nd (j := 2) rfl rfl) rfl rfl ?_
        refine TL.p (C := cx) (gc := true) (p_ldV (v := Enc.v (e33.Label : Int)) ty3 rfl rfl nd (j := 2) rfl rfl rfl rfl rfl) rfl rfl ?_
        obtain ⟨r84, hr84, hX⟩ := bind_some hX
        refine TL.pick [4, 3, 0, 1, 2, 5] nd (by decide) fun nd => ?_
        refine TL.tcX [(b19, RV 37 [OL (α := Int) b20 l21]), (b20, RL (α := Int) 3 l21)] [(b22, RV 37 [OL (α := Int) b38 r36]), (b38, RL (α := Int) 3 r36), (b34, RV 39 [Enc.v (e33.Way : Int), Enc.v (e33.Label : Int)]), (b25, RL (α := Int) 3 now26)] rfl nd (dlt rfl) rfl ⟨rfl, ⟨rfl, ⟨rfl, trivial⟩⟩⟩ (ok_mount_Line_Add e33.Label l21 b19 b20 (Nd.take nd 2 rfl) _ hr84) ?_
        rintro _ _ hQ nd
        obtain ⟨b86, rfl, rfl⟩ := hQ
        refine TL.nil ?_
        refine hK83 _ _ ?_
        refine TK.reg ?_
        refine TL.p (C := cx) (gc := true) (p_mv rfl) rfl rfl ?_
        refine TL.p (C := cx) (gc := true) (p_faV fs39_1 (by decide) rfl nd (j := 4) rfl rfl) rfl rfl ?_
        refine TL.p (C := cx) (gc := true) (p_ldV (v := Enc.v (e33.Label : Int)) ty3 rfl rfl nd (j := 4) rfl rfl rfl rfl rfl) rfl rfl ?_
        refine TL.lit (C := cx) ([e33.Label] : List Int) kd22 ty3 rfl ⟨⟨rfl, rfl⟩, trivial⟩ rfl rfl rfl ?_
        obtain ⟨u87, hu87, hX⟩ := bind_some hX
        refine TL.appO (C := cx) nd kd22 bo22 ty3 rfl rfl (j := 5) rfl rfl (Src_L _) (by decide) (need_t hu87) rfl fun nd => ?_
        refine TL.p (C := cx) (gc := true) (p_mv rfl) rfl rfl ?_
        refine TL.nil ?_
        exact J39 r84 (now26 ++ ([e33.Label] : List Int)) _ _ ⟨b86, b19, b38, b22, b25, b34, rfl, (Nd.pick nd (is := [1, 0, 3, 2, 5, 4]) (by decide)), (HSub.pick nd (is := [1, 0, 3, 2, 5, 4]) (by decide))⟩ hX
      · have hX := ite_f hc hX
        refine TK.seq_k fun K88 hK88 => ?_
        refine TK.reg ?_
        refine TL.p (C := cx) (gc := true) (p_eql rfl rfl) rfl rfl ?_
        refine TL.p (C := cx) (gc := true) (p_mv rfl) rfl rfl ?_
        refine TL.nil ?_
        refine hK88 _ _ ?_
        refine TK.cond (b := (e33.Way == (1 : Int))) rfl (fun hc => ?_) (fun hc => ?_)
        · have hX := ite_t hc hX
          refine TK.seq_k fun K89 hK89 => ?_
          refine TK.reg ?_
          refine TL.p (C := cx) (gc := true) (p_mv rfl) rfl rfl ?_
          refine TL.nil ?_
          refine hK89 _ _ ?_
          refine TK.seq_k fun K90 hK90 => ?_
          refine TK.reg ?_
          refine TL.p (C := cx) (gc := true) (p_mv rfl) rfl rfl ?_
          refine TL.nil ?_
          refine hK90 _ _ ?_
          refine TK.ownL (α := Int) 10 3 nd rfl (.inl rfl) fun b91 nd => ?_
          refine TK.seq_k fun K92 hK92 => ?_
          refine TK.seq_k fun K93 hK93 => ?_
          refine TK.reg ?_
          refine TL.p (C := cx) (gc := true) (p_mv rfl) rfl rfl ?_
          refine TL.nil ?_
          refine hK93 _ _ ?_
          refine TK.block ?_
          obtain ⟨o94, hO94, hA94⟩ := bind_some hX
          have E94 : ∀ (n110 : Int) (l112 : List Int) (env : Env) (h : Hp), (∃ b106 b105 b108 b107 b109 b111, keepE [0, 4, 5, 7, 8, 9, 10] env = [(0, true, Enc.v (l1 : (List Act_law23))), (4, true, .ref b105 0 1), (5, true, .ref b107 0 1), (7, true, Enc.v (i27 : Int)), (8, true, .ref b109 0 2), (9, true, Enc.v (n110 : Int)), (10, true, OL (α := Int) b111 l112)] ∧ Nd [(b106, RL (α := Int) 3 l21), (b105, RV 37 [OL (α := Int) b106 l21]), (b108, RL (α := Int) 3 r36), (b107, RV 37 [OL (α := Int) b108 r36]), (b109, RV 39 [Enc.v (e33.Way : Int), Enc.v (e33.Label : Int)]), (b111, RL (α := Int) 3 l112)] ∧ HSub [(b106, RL (α := Int) 3 l21), (b105, RV 37 [OL (α := Int) b106 l21]), (b108, RL (α := Int) 3 r36), (b107, RV 37 [OL (α := Int) b108 r36]), (b109, RV 39 [Enc.v (e33.Way : Int), Enc.v (e33.Label : Int)]), (b111, RL (α := Int) 3 l112)] h) → X.cartridgelaw23_MountPlays_e94 e33 l21 r36 i27 n110 l112 = some x18x → K92 env h := by
            intro n110 l112 env h hE hX
            obtain ⟨b106, b105, b108, b107, b109, b111, henv, nd, hs⟩ := hE
            unfold X.cartridgelaw23_MountPlays_e94 at hX
            refine hK92 _ _ (TK.keep [0, 4, 5, 7, 8, 9, 10] ?_)
            rw [henv]
            refine TK.subH hs ?_
            refine TK.seq_k fun K113 hK113 => ?_
            refine TK.reg ?_
            refine TL.p (C := cx) (gc := true) (p_mv rfl) rfl rfl ?_
            refine TL.p (C := cx) (gc := true) (p_mv rfl) rfl rfl ?_
            refine TL.nil ?_
            refine hK113 _ _ ?_
            refine TK.seq_k fun K114 hK114 => ?_
            refine TK.reg ?_
            refine TL.p (C := cx) (gc := true) (p_mv rfl) rfl rfl ?_
            refine TL.p (C := cx) (gc := true) (p_faV fs39_1 (by decide) rfl nd (j := 4) rfl rfl) rfl rfl ?_
            refine TL.p (C := cx) (gc := true) (p_ldV (v := Enc.v (e33.Label : Int)) ty3 rfl rfl nd (j := 4) rfl rfl rfl rfl rfl) rfl rfl ?_
            obtain ⟨r115, hr115, hX⟩ := bind_some hX
            refine TL.pick [1, 0, 2, 3, 4, 5] nd (by decide) fun nd => ?_
            refine TL.tcX [(b105, RV 37 [OL (α := Int) b106 l21]), (b106, RL (α := Int) 3 l21)] [(b108, RL (α := Int) 3 r36), (b107, RV 37 [OL (α := Int) b108 r36]), (b109, RV 39 [Enc.v (e33.Way : Int), Enc.v (e33.Label : Int)]), (b111, RL (α := Int) 3 l112)] rfl nd (dlt rfl) rfl ⟨rfl, ⟨rfl, ⟨rfl, trivial⟩⟩⟩ (ok_mount_Line_Serve e33.Label l21 b105 b106 (Nd.take nd 2 rfl) _ hr115) ?_
            rintro _ _ hQ nd
            obtain ⟨b117, rfl, rfl⟩ := hQ
            refine TL.p (C := cx) (gc := true) (p_mv rfl) rfl rfl ?_
            refine TL.p (C := cx) (gc := true) (p_neq rfl rfl) rfl rfl ?_
            refine TL.nil ?_
            refine hK114 _ _ ?_
            refine TK.cond (b := (r115.1 != n110)) rfl (fun hc => ?_) (fun hc => ?_)
            · have hX := ite_t hc hX
              refine TK.seq_k fun K118 hK118 => ?_
              refine TK.reg ?_
              refine TL.p (C := cx) (gc := true) (p_mv rfl) rfl rfl ?_
              refine TL.nil ?_
              refine hK118 _ _ ?_
              refine TK.ret ?_
              obtain rfl := hR18 _ (some_in hX).symm
              replace hX := hA18
              try dsimp only [thenQ]
              exact ret1 (v := Enc.v (false : Bool)) rfl (by obtain rfl := some_in hX; rfl) (v_val _)
            · have hX := ite_f hc hX
              refine TK.skip ?_
              exact J39 r115.2 l112 _ _ ⟨b117, b105, b108, b107, b111, b109, rfl, (Nd.pick nd (is := [1, 0, 2, 3, 5, 4]) (by decide)), (HSub.pick nd (is := [1, 0, 2, 3, 5, 4]) (by decide))⟩ hX
          refine TK.iter [0, 4, 5, 6, 7, 8, 9, 10, 11] (fun s env h => match s with | (n101, left103, k104) => ∃ b96 b95 b98 b97 b99 b100 b102, env = [(0, true, Enc.v (l1 : (List Act_law23))), (4, true, .ref b95 0 1), (5, true, .ref b97 0 1), (6, true, OL (α := Int) b99 now26), (7, true, Enc.v (i27 : Int)), (8, true, .ref b100 0 2), (9, true, Enc.v (n101 : Int)), (10, true, OL (α := Int) b102 left103), (11, true, Enc.v (k104 : Int))] ∧ Nd [(b96, RL (α := Int) 3 l21), (b95, RV 37 [OL (α := Int) b96 l21]), (b98, RL (α := Int) 3 r36), (b97, RV 37 [OL (α := Int) b98 r36]), (b99, RL (α := Int) 3 now26), (b100, RV 39 [Enc.v (e33.Way : Int), Enc.v (e33.Label : Int)]), (b102, RL (α := Int) 3 left103)] ∧ HSub [(b96, RL (α := Int) 3 l21), (b95, RV 37 [OL (α := Int) b96 l21]), (b98, RL (α := Int) 3 r36), (b97, RV 37 [OL (α := Int) b98 r36]), (b99, RL (α := Int) 3 now26), (b100, RV 39 [Enc.v (e33.Way : Int), Enc.v (e33.Label : Int)]), (b102, RL (α := Int) 3 left103)] h) hO94 ⟨b20, b19, b38, b22, b25, b34, b91, rfl, (Nd.pick nd (is := [4, 5, 2, 1, 6, 3, 0]) (by decide)), (HSub.pick nd (is := [4, 5, 2, 1, 6, 3, 0]) (by decide))⟩ ?_
          rintro ⟨n101, left103, k104⟩ env h x94x ⟨b96, b95, b98, b97, b99, b100, b102, rfl, nd, hs⟩ hX hR94
          refine TK.subH hs ?_
          unfold X.cartridgelaw23_MountPlays_s94 at hX
          try dsimp only at hX
          refine TK.seq_k fun K119 hK119 => ?_
          refine TK.seq_k fun K120 hK120 => ?_
          refine TK.reg ?_
          refine TL.p (C := cx) (gc := true) (p_mv rfl) rfl rfl ?_
          refine TL.p (C := cx) (gc := true) (p_mv rfl) rfl rfl ?_
          refine TL.p (C := cx) (gc := true) (p_lenR kd22 rfl (fun _ => refOK_of nd (j := 4) rfl rfl)) rfl rfl ?_
          refine TL.p (C := cx) (gc := true) (p_lss rfl rfl) rfl rfl ?_
          refine TL.nil ?_
          refine hK120 _ _ ?_
          refine TK.cond (b := (decide (k104 < (now26.length : Int)))) rfl (fun hc => ?_) (fun hc => ?_)
          · have hX := ite_t hc hX
            refine TK.skip ?_
            refine hK119 _ _ ?_
            refine TK.seq_k fun K121 hK121 => ?_
            have J121 : ∀ (n128 : Int) (l130 : List Int) (env : Env) (h : Hp), (∃ b123 b122 b125 b124 b126 b127 b129, keepE [0, 4, 5, 6, 7, 8, 9, 10, 11] env = [(0, true, Enc.v (l1 : (List Act_law23))), (4, true, .ref b122 0 1), (5, true, .ref b124 0 1), (6, true, OL (α := Int) b126 now26), (7, true, Enc.v (i27 : Int)), (8, true, .ref b127 0 2), (9, true, Enc.v (n128 : Int)), (10, true, OL (α := Int) b129 l130), (11, true, Enc.v (k104 : Int))] ∧ Nd [(b123, RL (α := Int) 3 l21), (b122, RV 37 [OL (α := Int) b123 l21]), (b125, RL (α := Int) 3 r36), (b124, RV 37 [OL (α := Int) b125 r36]), (b126, RL (α := Int) 3 now26), (b127, RV 39 [Enc.v (e33.Way : Int), Enc.v (e33.Label : Int)]), (b129, RL (α := Int) 3 l130)] ∧ HSub [(b123, RL (α := Int) 3 l21), (b122, RV 37 [OL (α := Int) b123 l21]), (b125, RL (α := Int) 3 r36), (b124, RV 37 [OL (α := Int) b125 r36]), (b126, RL (α := Int) 3 now26), (b127, RV 39 [Enc.v (e33.Way : Int), Enc.v (e33.Label : Int)]), (b129, RL (α := Int) 3 l130)] h) → X.cartridgelaw23_MountPlays_j121 k104 n128 l130 = some x94x → K121 env h := by
              intro n128 l130 env h hE hX
              obtain ⟨b123, b122, b125, b124, b126, b127, b129, henv, nd, hs⟩ := hE
              unfold X.cartridgelaw23_MountPlays_j121 at hX
              refine hK121 _ _ (TK.keep [0, 4, 5, 6, 7, 8, 9, 10, 11] ?_)
              rw [henv]
              refine TK.subH hs ?_
              refine TK.reg ?_
              refine TL.p (C := cx) (gc := true) (p_mv rfl) rfl rfl ?_
              refine TL.p (C := cx) (gc := true) (p_add rfl rfl) rfl rfl ?_
              refine TL.p (C := cx) (gc := true) (p_mv rfl) rfl rfl ?_
              refine TL.nil ?_
              exact ⟨_, (some_in hX).symm, b123, b122, b125, b124, b126, b127, b129, rfl, (Nd.pick nd (is := [0, 1, 2, 3, 4, 5, 6]) (by decide)), (HSub.pick nd (is := [0, 1, 2, 3, 4, 5, 6]) (by decide))⟩
            refine TK.block ?_
            refine TK.seq_k fun K131 hK131 => ?_
            have ndS : Nd [(b96, RL (α := Int) 3 l21), (b95, RV 37 [OL (α := Int) b96 l21]), (b98, RL (α := Int) 3 r36), (b97, RV 37 [OL (α := Int) b98 r36]), (b99, RL (α := Int) 3 now26), (b100, RV 39 [Enc.v (e33.Way : Int), Enc.v (e33.Label : Int)]), (b102, RL (α := Int) 3 left103)] := Nd.pick nd (is := [0, 1, 2, 3, 4, 5, 6]) (by decide)
            refine TK.drwX (h := []) (hS := [(b96, RL (α := Int) 3 l21), (b95, RV 37 [OL (α := Int) b96 l21]), (b98, RL (α := Int) 3 r36), (b97, RV 37 [OL (α := Int) b98 r36]), (b99, RL (α := Int) 3 now26), (b100, RV 39 [Enc.v (e33.Way : Int), Enc.v (e33.Label : Int)]), (b102, RL (α := Int) 3 left103)]) [(0, 0), (0, 1), (0, 2), (0, 3), (0, 4), (0, 5), (0, 6)] mixed (by kernel_rfl) (HSub_app nd) ?_
            refine DR0 (gc := true) rfl (vok_p (C := cx) (p_mv rfl)) rfl rfl ?_
            refine DR0 (gc := true) rfl (vok_p (C := cx) (p_mv rfl)) rfl rfl ?_
            obtain ⟨e132, he132, hX⟩ := bind_some hX
            refine DR0 (gc := true) rfl (vok_p (C := cx) (p_iaO (xs := now26) kd22 ty3 rfl rfl rfl ndS (j := 4) rfl (fun _ => he132))) rfl rfl ?_
            refine DR0 (gc := true) rfl (vok_p (C := cx) (p_ldO (xs := now26) (a := e132) (e132 : Int) ty3 rfl rfl ndS (j := 4) rfl (fun _ => he132) rfl rfl rfl)) rfl rfl ?_
            refine DR0 (gc := true) rfl (vok_p (C := cx) (p_faV fs39_1 (by decide) rfl ndS (j := 5) rfl rfl)) rfl rfl ?_
            refine DR0 (gc := true) rfl (vok_p (C := cx) (p_ldV (v := Enc.v (e33.Label : Int)) ty3 rfl rfl ndS (j := 5) rfl rfl rfl rfl rfl)) rfl rfl ?_
            refine DR0 (gc := true) rfl (vok_p (C := cx) (p_eql rfl rfl)) rfl rfl ?_
            refine DRend ?_
            refine hK131 _ _ ?_
            refine TK.cond (b := (e132 == e33.Label)) rfl (fun hc => ?_) (fun hc => ?_)
            · have hX := ite_t hc hX
              refine TK.reg ?_
              refine TL.p (C := cx) (gc := true) (p_mv rfl) rfl rfl ?_
              refine TL.p (C := cx) (gc := true) (p_add rfl rfl) rfl rfl ?_
              refine TL.p (C := cx) (gc := true) (p_mv rfl) rfl rfl ?_
              refine TL.nil ?_
              exact J121 (wr (n101 + (1 : Int))) left103 _ _ ⟨b96, b95, b98, b97, b99, b100, b102, rfl, (Nd.pick nd (is := [0, 1, 2, 3, 4, 5, 6]) (by decide)), (HSub.pick nd (is := [0, 1, 2, 3, 4, 5, 6]) (by decide))⟩ hX
            · have hX := ite_f hc hX
              refine TK.reg ?_
              refine TL.p (C := cx) (gc := true) (p_mv rfl) rfl rfl ?_
              refine TL.p (C := cx) (gc := true) (p_mv rfl) rfl rfl ?_
              refine TL.p (C := cx) (gc := true) (p_mv rfl) rfl rfl ?_
              obtain ⟨e133, he133, hX⟩ := bind_some hX
              refine TL.p (C := cx) (gc := true) (p_iaO (xs := now26) kd22 ty3 rfl rfl rfl nd (j := 4) rfl (fun _ => he133)) rfl rfl ?_
              refine TL.p (C := cx) (gc := true) (p_ldO (xs := now26) (a := e133) (e133 : Int) ty3 rfl rfl nd (j := 4) rfl (fun _ => he133) rfl rfl rfl) rfl rfl ?_
              refine TL.lit (C := cx) ([e133] : List Int) kd22 ty3 rfl ⟨⟨rfl, rfl⟩, trivial⟩ rfl rfl rfl ?_
              obtain ⟨u134, hu134, hX⟩ := bind_some hX
              refine TL.appO (C := cx) nd kd22 bo22 ty3 rfl rfl (j := 6) rfl rfl (Src_L _) (by decide) (need_t hu134) rfl fun nd => ?_
              refine TL.p (C := cx) (gc := true) (p_mv rfl) rfl rfl ?_
              refine TL.nil ?_
              exact J121 n101 (left103 ++ ([e133] : List Int)) _ _ ⟨b96, b95, b98, b97, b99, b100, b102, rfl, (Nd.pick nd (is := [0, 1, 2, 3, 4, 5, 6]) (by decide)), (HSub.pick nd (is := [0, 1, 2, 3, 4, 5, 6]) (by decide))⟩ hX
          · have hX := ite_f hc hX
            refine TK.exit ?_
            obtain rfl := hR94 _ (some_in hX).symm
            exact E94 n101 left103 _ _ ⟨b96, b95, b98, b97, b100, b102, rfl, (Nd.pick nd (is := [0, 1, 2, 3, 5, 6]) (by decide)), (HSub.pick nd (is := [0, 1, 2, 3, 5, 6]) (by decide))⟩ hA94
        · have hX := ite_f hc hX
          refine TK.skip ?_
          exact J39 l21 now26 _ _ ⟨b20, b19, b38, b22, b25, b34, rfl, (Nd.pick nd (is := [3, 4, 1, 0, 5, 2]) (by decide)), (HSub.pick nd (is := [3, 4, 1, 0, 5, 2]) (by decide))⟩ hX
    · have hX := ite_f hc hX
      refine TK.exit ?_
      obtain rfl := hR18 _ (some_in hX).symm
      exact E18 _ _ ⟨(), rfl, (Nd.pick nd (is := []) (by decide)), (HSub.pick nd (is := []) (by decide))⟩ hA18

end Go.Proofs.Ytjkjoihlpnahdaa
