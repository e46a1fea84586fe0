import Derived.Test.YtgkbjnhpmlfgdaaXFn
import Derived.Test.YtgkbjnhpmlfgdaaXS
import Derived.Test.YtgkbjnhpmlfgdaaAmK0
import Derived.Test.YtgkbjnhpmlfgdaaXP0
/- That they do. -/
namespace Go.Proofs.Ytgkbjnhpmlfgdaa
open Go.AM Go.AX
set_option linter.unusedVariables false
set_option maxRecDepth 20000

/-- (*cartridge/robot.Robot).Serve -/
theorem ok_robot_Robot_Serve (labels13 : (List Int)) (fails14 : Int) (labels1 : (List Int)) (drives2 : (List Int)) (drives3 : Int) (labels4 : (List Int)) (l5 : (List Int)) (order6 : (List Int)) (b7 : Nat) (b8 : Nat) (b9 : Nat) (b10 : Nat) (b11 : Nat) (pre12 : List Int) (nd : Nd [(b7, RV 109 [.ref b8 0 2, Enc.v (drives3 : Int), Enc.v (labels4 : (List Int)), OL (α := Int) b10 l5, OQ (α := Int) b11 pre12 order6]), (b8, RV 127 [Enc.v (labels1 : (List Int)), OL (α := Int) b9 drives2]), (b9, RL (α := Int) 3 drives2), (b10, RL (α := Int) 3 l5), (b11, RL (α := Int) 3 (pre12 ++ order6))]) (r : (Int × Int × ((List Int) × (List Int) × Int × (List Int) × (List Int) × (List Int)))) (hX : X.robot_Robot_Serve labels13 fails14 labels1 drives2 drives3 labels4 l5 order6 = some r) : TCX Try.prog 43 [.ref b7 0 5, Enc.v (labels13 : (List Int)), Enc.v (fails14 : Int)] [(b7, RV 109 [.ref b8 0 2, Enc.v (drives3 : Int), Enc.v (labels4 : (List Int)), OL (α := Int) b10 l5, OQ (α := Int) b11 pre12 order6]), (b8, RV 127 [Enc.v (labels1 : (List Int)), OL (α := Int) b9 drives2]), (b9, RL (α := Int) 3 drives2), (b10, RL (α := Int) 3 l5), (b11, RL (α := Int) 3 (pre12 ++ order6))] (fun rv h' => ∃ b122 b123 b124 b125 pre126, rv = .tup 2 (ofL [Enc.v (r.1 : Int), Enc.v (r.2.1 : Int)]) ∧ h' = [(b7, RV 109 [.ref b122 0 2, Enc.v (r.2.2.2.2.1 : Int), Enc.v (r.2.2.2.2.2.1 : (List Int)), OL (α := Int) b124 r.2.2.2.2.2.2.1, OQ (α := Int) b125 pre126 r.2.2.2.2.2.2.2]), (b122, RV 127 [Enc.v (r.2.2.1 : (List Int)), OL (α := Int) b123 r.2.2.2.1]), (b123, RL (α := Int) 3 r.2.2.2.1), (b124, RL (α := Int) 3 r.2.2.2.2.2.2.1), (b125, RL (α := Int) 3 (pre126 ++ r.2.2.2.2.2.2.2))]) := by
  refine TCX.of b43 (Nat.le_of_ble_eq_true rfl) ?_
  unfold k43
  unfold X.robot_Robot_Serve at hX
  refine TK.seq_k fun K15 hK15 => ?_
  refine TK.reg ?_
  refine TL.boxO (C := cx) (lu := [.ref b7 0 5]) nd rfl (Cells_ref (refOK_of nd (j := 0) rfl rfl)) rfl fun b16 nd => ?_
  refine TL.p (C := cx) (gc := true) (p_mv rfl) rfl rfl ?_
  refine TL.p (C := cx) (gc := true) (p_mv rfl) rfl rfl ?_
  refine TL.nil ?_
  refine hK15 _ _ ?_
  refine TK.seq_k fun K17 hK17 => ?_
  refine TK.seq_k fun K18 hK18 => ?_
  refine TK.reg ?_
  refine TL.p (C := cx) (gc := true) (p_ldV (v := .ref b7 0 5) ty64 rfl rfl nd (j := 0) rfl rfl rfl rfl rfl) rfl rfl ?_
  refine TL.p (C := cx) (gc := true) (p_eqP kd64 rfl rfl (fun _ => refOK_of nd (j := 1) rfl rfl)) rfl rfl ?_
  refine TL.p (C := cx) (gc := true) (p_mv rfl) rfl rfl ?_
  refine TL.guardT rfl ?_
  refine TL.p (C := cx) (gc := true) (p_mv rfl) rfl rfl ?_
  refine TL.guardT rfl ?_
  refine TL.p (C := cx) (gc := true) (p_mf (l := [.ref b16 0 1]) rfl (fun _ => ⟨rfl, trivial⟩)) rfl rfl ?_
  obtain ⟨r19, hr19, hX⟩ := bind_some hX
  refine TL.guardT rfl ?_
  refine TL.lookX [Enc.v (labels13 : (List Int)), .fn 78 1 (ofL [.vref (ofL [.vref (ofL [.vref (ofL [Enc.v (labels1 : (List Int)), Enc.v (drives2 : (List Int))]) 2 0, Enc.v (drives3 : Int), Enc.v (labels4 : (List Int)), Enc.v (l5 : (List Int)), Enc.v (order6 : (List Int))]) 5 0]) 1 0])] rfl rfl rfl (fun _ => ⟨rfl, ⟨rfl, ⟨rfl, trivial⟩⟩⟩) ⟨look_v (v := Enc.v (labels13 : (List Int))) (v_val _), look_fn (l := [.ref b16 0 1]) rfl ⟨look_ref (l := [.ref b7 0 5]) nd (j := 0) rfl ⟨look_ref (l := [.ref b8 0 2, Enc.v (drives3 : Int), Enc.v (labels4 : (List Int)), OL (α := Int) b10 l5, OQ (α := Int) b11 pre12 order6]) nd (j := 1) rfl ⟨look_ref (l := [Enc.v (labels1 : (List Int)), OL (α := Int) b9 drives2]) nd (j := 2) rfl ⟨look_v (v := Enc.v (labels1 : (List Int))) (v_val _), look_OL nd (j := 3) rfl, trivial⟩, look_v (v := Enc.v (drives3 : Int)) (v_val _), look_v (v := Enc.v (labels4 : (List Int))) (v_val _), look_OL nd (j := 4) rfl, look_OQ nd (j := 5) rfl, trivial⟩, trivial⟩, trivial⟩, trivial⟩ (fun e => ok_slices_ContainsFunc_Lint_int labels13 (fun a1 => X.robot_Robot_Serve_c1 a1 labels1 drives2 drives3 labels4 l5 order6) _ hr19 ⟨78, 1, ofL [.vref (ofL [.vref (ofL [.vref (ofL [Enc.v (labels1 : (List Int)), Enc.v (drives2 : (List Int))]) 2 0, Enc.v (drives3 : Int), Enc.v (labels4 : (List Int)), Enc.v (l5 : (List Int)), Enc.v (order6 : (List Int))]) 5 0]) 1 0], rfl, (caps_val rfl ⟨(vref_val (l := [.vref (ofL [.vref (ofL [Enc.v (labels1 : (List Int)), Enc.v (drives2 : (List Int))]) 2 0, Enc.v (drives3 : Int), Enc.v (labels4 : (List Int)), Enc.v (l5 : (List Int)), Enc.v (order6 : (List Int))]) 5 0]) rfl ⟨(vref_val (l := [.vref (ofL [Enc.v (labels1 : (List Int)), Enc.v (drives2 : (List Int))]) 2 0, Enc.v (drives3 : Int), Enc.v (labels4 : (List Int)), Enc.v (l5 : (List Int)), Enc.v (order6 : (List Int))]) rfl ⟨(vref_val (l := [Enc.v (labels1 : (List Int)), Enc.v (drives2 : (List Int))]) rfl ⟨(v_val _), (v_val _), trivial⟩), (v_val _), (v_val _), (v_val _), (v_val _), trivial⟩), trivial⟩), trivial⟩), fun a1 r hr => ok_robot_Robot_Serve_c1 a1 labels1 drives2 drives3 labels4 l5 order6 r hr⟩) (trivial) ?_
  refine TL.p (C := cx) (gc := true) (p_or rfl rfl (fun e => ⟨rfl, fun h => rfl⟩)) rfl rfl ?_
  refine TL.nil ?_
  refine hK18 _ _ ?_
  refine TK.cond (b := r19) rfl (fun hc => ?_) (fun hc => ?_)
  · have hX := ite_t hc hX
    refine TK.seq_k fun K20 hK20 => ?_
    refine TK.reg ?_
    refine TL.p (C := cx) (gc := true) (p_mv rfl) rfl rfl ?_
    refine TL.p (C := cx) (gc := true) (p_mv rfl) rfl rfl ?_
    refine TL.nil ?_
    refine hK20 _ _ ?_
    refine TK.pick [1, 2, 3, 4, 5] nd (by decide) fun nd => ?_
    refine TK.ret ?_
    try dsimp only [thenQ]
    exact retX (v := .tup 2 (ofL [Enc.v ((0 : Int) : Int), Enc.v ((1 : Int) : Int)])) (resN (vs := [Enc.v ((0 : Int) : Int), Enc.v ((1 : Int) : Int)]) ⟨rfl, rfl, trivial⟩) (by obtain rfl := some_in hX; exact ⟨b8, b9, b10, b11, pre12, rfl, rfl⟩) nd (inH_tup (l := [Enc.v ((0 : Int) : Int), Enc.v ((1 : Int) : Int)]) ⟨inH_val (v_val _), inH_val (v_val _), trivial⟩) ⟨rowIn_RV ⟨inH_ref nd (j := 1) rfl, inH_val (v_val _), inH_val (v_val _), inH_rs nd (j := 3) rfl, inH_rs nd (j := 4) rfl, trivial⟩, rowIn_RV ⟨inH_val (v_val _), inH_rs nd (j := 2) rfl, trivial⟩, rowIn_RL, rowIn_RL, rowIn_RL, trivial⟩
  · have hX := ite_f hc hX
    refine TK.skip ?_
    refine hK17 _ _ ?_
    refine TK.seq_k fun K21 hK21 => ?_
    refine TK.seq_k fun K22 hK22 => ?_
    refine TK.reg ?_
    refine TL.p (C := cx) (gc := true) (p_mv rfl) rfl rfl ?_
    refine TL.p (C := cx) (gc := true) (p_lenL (xs := labels13) kd46 rfl) rfl rfl ?_
    refine TL.p (C := cx) (gc := true) (p_mv rfl) rfl rfl ?_
    refine TL.nil ?_
    refine hK22 _ _ ?_
    refine TK.block ?_
    obtain ⟨o23, hO23, hA23⟩ := bind_some hX
    have E23 : ∀ (c40 : (List Int)) (l42 : List Int) (c43 : Int) (c44 : (List Int)) (l46 : List Int) (l49 : List Int) (env : Env) (h : Hp), (∃ b41 b39 b45 b47 pre48 b50, keepE [0, 2, 3] env = [(0, true, .ref b7 0 5), (2, true, Enc.v (fails14 : Int)), (3, true, .ref b50 0 1)] ∧ Nd [(b41, RL (α := Int) 3 l42), (b39, RV 127 [Enc.v (c40 : (List Int)), OL (α := Int) b41 l42]), (b45, RL (α := Int) 3 l46), (b47, RL (α := Int) 3 (pre48 ++ l49)), (b7, RV 109 [.ref b39 0 2, Enc.v (c43 : Int), Enc.v (c44 : (List Int)), OL (α := Int) b45 l46, OQ (α := Int) b47 pre48 l49]), (b50, RV 64 [.ref b7 0 5])] ∧ HSub [(b41, RL (α := Int) 3 l42), (b39, RV 127 [Enc.v (c40 : (List Int)), OL (α := Int) b41 l42]), (b45, RL (α := Int) 3 l46), (b47, RL (α := Int) 3 (pre48 ++ l49)), (b7, RV 109 [.ref b39 0 2, Enc.v (c43 : Int), Enc.v (c44 : (List Int)), OL (α := Int) b45 l46, OQ (α := Int) b47 pre48 l49]), (b50, RV 64 [.ref b7 0 5])] h) → X.robot_Robot_Serve_e23 fails14 c40 l42 c43 c44 l46 l49 = some r → K21 env h := by
      intro c40 l42 c43 c44 l46 l49 env h hE hX
      obtain ⟨b41, b39, b45, b47, pre48, b50, henv, nd, hs⟩ := hE
      unfold X.robot_Robot_Serve_e23 at hX
      refine hK21 _ _ (TK.keep [0, 2, 3] ?_)
      rw [henv]
      refine TK.subH hs ?_
      refine TK.seq_k fun K51 hK51 => ?_
      refine TK.reg ?_
      refine TL.p (C := cx) (gc := true) (p_mv rfl) rfl rfl ?_
      refine TL.nil ?_
      refine hK51 _ _ ?_
      refine TK.seq_k fun K52 hK52 => ?_
      refine TK.reg ?_
      refine TL.p (C := cx) (gc := true) (p_mv rfl) rfl rfl ?_
      refine TL.p (C := cx) (gc := true) (p_min rfl rfl) rfl rfl ?_
      refine TL.p (C := cx) (gc := true) (p_max rfl rfl) rfl rfl ?_
      refine TL.p (C := cx) (gc := true) (p_mv rfl) rfl rfl ?_
      refine TL.nil ?_
      refine hK52 _ _ ?_
      refine TK.seq_k fun K53 hK53 => ?_
      refine TK.block ?_
      obtain ⟨o54, hO54, hA54⟩ := bind_some hX
      have E54 : ∀ (c72 : (List Int)) (l74 : List Int) (c75 : Int) (c76 : (List Int)) (l78 : List Int) (l81 : List Int) (steps82 : Int) (env : Env) (h : Hp), (∃ b73 b71 b77 b79 pre80, keepE [0, 10] env = [(0, true, .ref b7 0 5), (10, true, Enc.v (steps82 : Int))] ∧ Nd [(b73, RL (α := Int) 3 l74), (b71, RV 127 [Enc.v (c72 : (List Int)), OL (α := Int) b73 l74]), (b77, RL (α := Int) 3 l78), (b79, RL (α := Int) 3 (pre80 ++ l81)), (b7, RV 109 [.ref b71 0 2, Enc.v (c75 : Int), Enc.v (c76 : (List Int)), OL (α := Int) b77 l78, OQ (α := Int) b79 pre80 l81])] ∧ HSub [(b73, RL (α := Int) 3 l74), (b71, RV 127 [Enc.v (c72 : (List Int)), OL (α := Int) b73 l74]), (b77, RL (α := Int) 3 l78), (b79, RL (α := Int) 3 (pre80 ++ l81)), (b7, RV 109 [.ref b71 0 2, Enc.v (c75 : Int), Enc.v (c76 : (List Int)), OL (α := Int) b77 l78, OQ (α := Int) b79 pre80 l81])] h) → X.robot_Robot_Serve_e54 c72 l74 c75 c76 l78 l81 steps82 = some r → K53 env h := by
        intro c72 l74 c75 c76 l78 l81 steps82 env h hE hX
        obtain ⟨b73, b71, b77, b79, pre80, henv, nd, hs⟩ := hE
        unfold X.robot_Robot_Serve_e54 at hX
        refine hK53 _ _ (TK.keep [0, 10] ?_)
        rw [henv]
        refine TK.subH hs ?_
        refine TK.seq_k fun K83 hK83 => ?_
        refine TK.reg ?_
        refine TL.p (C := cx) (gc := true) (p_mv rfl) rfl rfl ?_
        refine TL.p (C := cx) (gc := true) (p_mv rfl) rfl rfl ?_
        refine TL.p (C := cx) (gc := true) (p_mv rfl) rfl rfl ?_
        refine TL.nil ?_
        refine hK83 _ _ ?_
        refine TK.pick [4, 1, 0, 2, 3] nd (by decide) fun nd => ?_
        refine TK.ret ?_
        try dsimp only [thenQ]
        exact retX (v := .tup 2 (ofL [Enc.v (steps82 : Int), Enc.v ((0 : Int) : Int)])) (resN (vs := [Enc.v (steps82 : Int), Enc.v ((0 : Int) : Int)]) ⟨rfl, rfl, trivial⟩) (by obtain rfl := some_in hX; exact ⟨b71, b73, b77, b79, pre80, rfl, rfl⟩) nd (inH_tup (l := [Enc.v (steps82 : Int), Enc.v ((0 : Int) : Int)]) ⟨inH_val (v_val _), inH_val (v_val _), trivial⟩) ⟨rowIn_RV ⟨inH_ref nd (j := 1) rfl, inH_val (v_val _), inH_val (v_val _), inH_rs nd (j := 3) rfl, inH_rs nd (j := 4) rfl, trivial⟩, rowIn_RV ⟨inH_val (v_val _), inH_rs nd (j := 2) rfl, trivial⟩, rowIn_RL, rowIn_RL, rowIn_RL, trivial⟩
      refine TK.iter [0, 2, 3, 10] (fun s env h => match s with | (c57, l59, c60, c61, l63, l66, fails67, steps69) => ∃ b58 b56 b62 b64 pre65 b68, env = [(0, true, .ref b7 0 5), (2, true, Enc.v (fails67 : Int)), (3, true, .ref b68 0 1), (10, true, Enc.v (steps69 : Int))] ∧ Nd [(b58, RL (α := Int) 3 l59), (b56, RV 127 [Enc.v (c57 : (List Int)), OL (α := Int) b58 l59]), (b62, RL (α := Int) 3 l63), (b64, RL (α := Int) 3 (pre65 ++ l66)), (b7, RV 109 [.ref b56 0 2, Enc.v (c60 : Int), Enc.v (c61 : (List Int)), OL (α := Int) b62 l63, OQ (α := Int) b64 pre65 l66]), (b68, RV 64 [.ref b7 0 5])] ∧ HSub [(b58, RL (α := Int) 3 l59), (b56, RV 127 [Enc.v (c57 : (List Int)), OL (α := Int) b58 l59]), (b62, RL (α := Int) 3 l63), (b64, RL (α := Int) 3 (pre65 ++ l66)), (b7, RV 109 [.ref b56 0 2, Enc.v (c60 : Int), Enc.v (c61 : (List Int)), OL (α := Int) b62 l63, OQ (α := Int) b64 pre65 l66]), (b68, RV 64 [.ref b7 0 5])] h) hO54 ⟨b41, b39, b45, b47, pre48, b50, rfl, (Nd.pick nd (is := [0, 1, 2, 3, 4, 5]) (by decide)), (HSub.pick nd (is := [0, 1, 2, 3, 4, 5]) (by decide))⟩ ?_
      rintro ⟨c57, l59, c60, c61, l63, l66, fails67, steps69⟩ env h x54x ⟨b58, b56, b62, b64, pre65, b68, rfl, nd, hs⟩ hX hR54
      refine TK.subH hs ?_
      unfold X.robot_Robot_Serve_s54 at hX
      try dsimp only at hX
      refine TK.seq_k fun K84 hK84 => ?_
      refine TK.seq_k fun K85 hK85 => ?_
      refine TK.reg ?_
      refine TL.p (C := cx) (gc := true) (p_ldV (v := .ref b7 0 5) ty64 rfl rfl nd (j := 5) rfl rfl rfl rfl rfl) rfl rfl ?_
      obtain ⟨r86, hr86, hX⟩ := bind_some hX
      refine TL.lookX [.vref (ofL [.vref (ofL [Enc.v (c57 : (List Int)), Enc.v (l59 : (List Int))]) 2 0, Enc.v (c60 : Int), Enc.v (c61 : (List Int)), Enc.v (l63 : (List Int)), Enc.v (l66 : (List Int))]) 5 0] rfl rfl rfl (fun _ => ⟨rfl, ⟨rfl, trivial⟩⟩) ⟨look_ref (l := [.ref b56 0 2, Enc.v (c60 : Int), Enc.v (c61 : (List Int)), OL (α := Int) b62 l63, OQ (α := Int) b64 pre65 l66]) nd (j := 4) rfl ⟨look_ref (l := [Enc.v (c57 : (List Int)), OL (α := Int) b58 l59]) nd (j := 1) rfl ⟨look_v (v := Enc.v (c57 : (List Int))) (v_val _), look_OL nd (j := 0) rfl, trivial⟩, look_v (v := Enc.v (c60 : Int)) (v_val _), look_v (v := Enc.v (c61 : (List Int))) (v_val _), look_OL nd (j := 2) rfl, look_OQ nd (j := 3) rfl, trivial⟩, trivial⟩ (fun e => ok_robot_Robot_Waiting c57 l59 c60 c61 l63 l66 _ hr86) (trivial) ?_
      refine TL.p (C := cx) (gc := true) (p_gtr rfl rfl) rfl rfl ?_
      refine TL.nil ?_
      refine hK85 _ _ ?_
      refine TK.cond (b := (decide (r86 > (0 : Int)))) rfl (fun hc => ?_) (fun hc => ?_)
      · have hX := ite_t hc hX
        refine TK.skip ?_
        refine hK84 _ _ ?_
        refine TK.block ?_
        refine TK.seq_k fun K87 hK87 => ?_
        have J87 : ∀ (fails94 : Int) (steps96 : Int) (env : Env) (h : Hp), (∃ b90 b89 b91 b92 pre93 b95, keepE [0, 2, 3, 10] env = [(0, true, .ref b7 0 5), (2, true, Enc.v (fails94 : Int)), (3, true, .ref b95 0 1), (10, true, Enc.v (steps96 : Int))] ∧ Nd [(b90, RL (α := Int) 3 l59), (b89, RV 127 [Enc.v (c57 : (List Int)), OL (α := Int) b90 l59]), (b91, RL (α := Int) 3 l63), (b92, RL (α := Int) 3 (pre93 ++ l66)), (b7, RV 109 [.ref b89 0 2, Enc.v (c60 : Int), Enc.v (c61 : (List Int)), OL (α := Int) b91 l63, OQ (α := Int) b92 pre93 l66]), (b95, RV 64 [.ref b7 0 5])] ∧ HSub [(b90, RL (α := Int) 3 l59), (b89, RV 127 [Enc.v (c57 : (List Int)), OL (α := Int) b90 l59]), (b91, RL (α := Int) 3 l63), (b92, RL (α := Int) 3 (pre93 ++ l66)), (b7, RV 109 [.ref b89 0 2, Enc.v (c60 : Int), Enc.v (c61 : (List Int)), OL (α := Int) b91 l63, OQ (α := Int) b92 pre93 l66]), (b95, RV 64 [.ref b7 0 5])] h) → X.robot_Robot_Serve_j87 c57 l59 c60 c61 l63 l66 fails94 steps96 = some x54x → K87 env h := by
          intro fails94 steps96 env h hE hX
          obtain ⟨b90, b89, b91, b92, pre93, b95, henv, nd, hs⟩ := hE
          unfold X.robot_Robot_Serve_j87 at hX
          refine hK87 _ _ (TK.keep [0, 2, 3, 10] ?_)
          rw [henv]
          refine TK.subH hs ?_
          refine TK.seq_k fun K97 hK97 => ?_
          refine TK.reg ?_
          refine TL.p (C := cx) (gc := true) (p_ldV (v := .ref b7 0 5) ty64 rfl rfl nd (j := 5) rfl rfl rfl rfl rfl) rfl rfl ?_
          obtain ⟨r98, hr98, hX⟩ := bind_some hX
          refine TL.pick [4, 1, 0, 2, 3, 5] nd (by decide) fun nd => ?_
          refine TL.tcX [(b7, RV 109 [.ref b89 0 2, Enc.v (c60 : Int), Enc.v (c61 : (List Int)), OL (α := Int) b91 l63, OQ (α := Int) b92 pre93 l66]), (b89, RV 127 [Enc.v (c57 : (List Int)), OL (α := Int) b90 l59]), (b90, RL (α := Int) 3 l59), (b91, RL (α := Int) 3 l63), (b92, RL (α := Int) 3 (pre93 ++ l66))] [(b95, RV 64 [.ref b7 0 5])] rfl nd (dlt rfl) rfl ⟨rfl, ⟨rfl, ⟨rfl, trivial⟩⟩⟩ (ok_robot_Robot_Step false c57 l59 c60 c61 l63 l66 b7 b89 b90 b91 b92 pre93 (Nd.take nd 5 rfl) _ hr98) ?_
          rintro _ _ hQ nd
          obtain ⟨b100, b101, b102, b103, pre104, rfl, rfl⟩ := hQ
          refine TL.nil ?_
          refine hK97 _ _ ?_
          refine TK.reg ?_
          refine TL.p (C := cx) (gc := true) (p_mv rfl) rfl rfl ?_
          refine TL.p (C := cx) (gc := true) (p_add rfl rfl) rfl rfl ?_
          refine TL.p (C := cx) (gc := true) (p_mv rfl) rfl rfl ?_
          refine TL.nil ?_
          exact ⟨_, (some_in hX).symm, b101, b100, b102, b103, pre104, b95, rfl, (Nd.pick nd (is := [2, 1, 3, 4, 0, 5]) (by decide)), (HSub.pick nd (is := [2, 1, 3, 4, 0, 5]) (by decide))⟩
        refine TK.seq_k fun K105 hK105 => ?_
        refine TK.reg ?_
        refine TL.p (C := cx) (gc := true) (p_ldV (v := .ref b7 0 5) ty64 rfl rfl nd (j := 5) rfl rfl rfl rfl rfl) rfl rfl ?_
        obtain ⟨r106, hr106, hX⟩ := bind_some hX
        refine TL.lookX [.vref (ofL [.vref (ofL [Enc.v (c57 : (List Int)), Enc.v (l59 : (List Int))]) 2 0, Enc.v (c60 : Int), Enc.v (c61 : (List Int)), Enc.v (l63 : (List Int)), Enc.v (l66 : (List Int))]) 5 0] rfl rfl rfl (fun _ => ⟨rfl, ⟨rfl, trivial⟩⟩) ⟨look_ref (l := [.ref b56 0 2, Enc.v (c60 : Int), Enc.v (c61 : (List Int)), OL (α := Int) b62 l63, OQ (α := Int) b64 pre65 l66]) nd (j := 4) rfl ⟨look_ref (l := [Enc.v (c57 : (List Int)), OL (α := Int) b58 l59]) nd (j := 1) rfl ⟨look_v (v := Enc.v (c57 : (List Int))) (v_val _), look_OL nd (j := 0) rfl, trivial⟩, look_v (v := Enc.v (c60 : Int)) (v_val _), look_v (v := Enc.v (c61 : (List Int))) (v_val _), look_OL nd (j := 2) rfl, look_OQ nd (j := 3) rfl, trivial⟩, trivial⟩ (fun e => ok_robot_Robot_ready c57 l59 c60 c61 l63 l66 _ hr106) (tup_closed rfl ⟨trivial, trivial, trivial⟩) ?_
        refine TL.p (C := cx) (gc := true) (p_mv rfl) rfl rfl ?_
        refine TL.p (C := cx) (gc := true) (p_ex rfl rfl (by decide)) rfl rfl ?_
        refine TL.p (C := cx) (gc := true) (p_ex rfl rfl (by decide)) rfl rfl ?_
        refine TL.p (C := cx) (gc := true) (p_mv rfl) rfl rfl ?_
        refine TL.p (C := cx) (gc := true) (p_mv rfl) rfl rfl ?_
        refine TL.nil ?_
        refine hK105 _ _ ?_
        refine TK.seq_k fun K107 hK107 => ?_
        refine TK.reg ?_
        refine TL.p (C := cx) (gc := true) (p_mv rfl) rfl rfl ?_
        refine TL.p (C := cx) (gc := true) (p_not rfl) rfl rfl ?_
        refine TL.nil ?_
        refine hK107 _ _ ?_
        refine TK.cond (b := (!r106.2)) rfl (fun hc => ?_) (fun hc => ?_)
        · have hX := ite_t hc hX
          refine TK.seq_k fun K108 hK108 => ?_
          refine TK.reg ?_
          refine TL.p (C := cx) (gc := true) (p_mv rfl) rfl rfl ?_
          refine TL.p (C := cx) (gc := true) (p_mv rfl) rfl rfl ?_
          refine TL.p (C := cx) (gc := true) (p_add rfl rfl) rfl rfl ?_
          refine TL.p (C := cx) (gc := true) (p_mv rfl) rfl rfl ?_
          refine TL.nil ?_
          refine hK108 _ _ ?_
          refine TK.reg ?_
          refine TL.p (C := cx) (gc := true) (p_mv rfl) rfl rfl ?_
          refine TL.nil ?_
          exact J87 (0 : Int) (wr (steps69 + fails67)) _ _ ⟨b58, b56, b62, b64, pre65, b68, rfl, (Nd.pick nd (is := [0, 1, 2, 3, 4, 5]) (by decide)), (HSub.pick nd (is := [0, 1, 2, 3, 4, 5]) (by decide))⟩ hX
        · have hX := ite_f hc hX
          refine TK.skip ?_
          exact J87 fails67 steps69 _ _ ⟨b58, b56, b62, b64, pre65, b68, rfl, (Nd.pick nd (is := [0, 1, 2, 3, 4, 5]) (by decide)), (HSub.pick nd (is := [0, 1, 2, 3, 4, 5]) (by decide))⟩ hX
      · have hX := ite_f hc hX
        refine TK.exit ?_
        obtain rfl := hR54 _ (some_in hX).symm
        exact E54 c57 l59 c60 c61 l63 l66 steps69 _ _ ⟨b58, b56, b62, b64, pre65, rfl, (Nd.pick nd (is := [0, 1, 2, 3, 4]) (by decide)), (HSub.pick nd (is := [0, 1, 2, 3, 4]) (by decide))⟩ hA54
    refine TK.iter [0, 2, 3, 20, 21, 22] (fun s env h => match s with | (c26, l28, c29, c30, l32, l35, x37) => ∃ b27 b25 b31 b33 pre34 b36, env = [(0, true, .ref b7 0 5), (2, true, Enc.v (fails14 : Int)), (3, true, .ref b36 0 1), (20, true, Enc.v (labels13 : (List Int))), (21, true, Enc.v ((labels13.length : Int) : Int)), (22, true, Enc.v (x37 : Int))] ∧ Nd [(b27, RL (α := Int) 3 l28), (b25, RV 127 [Enc.v (c26 : (List Int)), OL (α := Int) b27 l28]), (b31, RL (α := Int) 3 l32), (b33, RL (α := Int) 3 (pre34 ++ l35)), (b7, RV 109 [.ref b25 0 2, Enc.v (c29 : Int), Enc.v (c30 : (List Int)), OL (α := Int) b31 l32, OQ (α := Int) b33 pre34 l35]), (b36, RV 64 [.ref b7 0 5])] ∧ HSub [(b27, RL (α := Int) 3 l28), (b25, RV 127 [Enc.v (c26 : (List Int)), OL (α := Int) b27 l28]), (b31, RL (α := Int) 3 l32), (b33, RL (α := Int) 3 (pre34 ++ l35)), (b7, RV 109 [.ref b25 0 2, Enc.v (c29 : Int), Enc.v (c30 : (List Int)), OL (α := Int) b31 l32, OQ (α := Int) b33 pre34 l35]), (b36, RV 64 [.ref b7 0 5])] h) hO23 ⟨b9, b8, b10, b11, pre12, b16, rfl, (Nd.pick nd (is := [3, 2, 4, 5, 1, 0]) (by decide)), (HSub.pick nd (is := [3, 2, 4, 5, 1, 0]) (by decide))⟩ ?_
    rintro ⟨c26, l28, c29, c30, l32, l35, x37⟩ env h x23x ⟨b27, b25, b31, b33, pre34, b36, rfl, nd, hs⟩ hX hR23
    refine TK.subH hs ?_
    unfold X.robot_Robot_Serve_s23 at hX
    try dsimp only at hX
    refine TK.seq_k fun K109 hK109 => ?_
    refine TK.reg ?_
    refine TL.p (C := cx) (gc := true) (p_lss rfl rfl) rfl rfl ?_
    refine TL.nil ?_
    refine hK109 _ _ ?_
    refine TK.seq_k fun K110 hK110 => ?_
    refine TK.cond (b := (decide (x37 < (labels13.length : Int)))) rfl (fun hc => ?_) (fun hc => ?_)
    · have hX := ite_t hc hX
      refine TK.skip ?_
      refine hK110 _ _ ?_
      refine TK.seq_k fun K111 hK111 => ?_
      refine TK.block ?_
      refine TK.seq_k fun K112 hK112 => ?_
      refine TK.reg ?_
      obtain ⟨e113, he113, hX⟩ := bind_some hX
      refine TL.p (C := cx) (gc := true) (p_iaL (xs := labels13) kd46 ty3 rfl rfl rfl (fun _ => he113)) rfl rfl ?_
      refine TL.p (C := cx) (gc := true) (p_ldE (xs := labels13) (a := e113) (e113 : Int) ty3 rfl rfl (fun _ => he113) rfl rfl rfl) rfl rfl ?_
      refine TL.p (C := cx) (gc := true) (p_mv rfl) rfl rfl ?_
      refine TL.nil ?_
      refine hK112 _ _ ?_
      refine TK.reg ?_
      refine TL.p (C := cx) (gc := true) (p_ldV (v := .ref b7 0 5) ty64 rfl rfl nd (j := 5) rfl rfl rfl rfl rfl) rfl rfl ?_
      refine TL.p (C := cx) (gc := true) (p_ncR rfl (fun _ => refOK_of nd (j := 4) rfl rfl)) rfl rfl ?_
      refine TL.p (C := cx) (gc := true) (p_faV fs109_3 (by decide) rfl nd (j := 4) rfl rfl) rfl rfl ?_
      refine TL.p (C := cx) (gc := true) (p_mv rfl) rfl rfl ?_
      obtain ⟨r114, hr114, hX⟩ := bind_some hX
      refine TL.pick [4, 1, 0, 2, 3, 5] nd (by decide) fun nd => ?_
      refine TL.tcX [(b7, RV 109 [.ref b25 0 2, Enc.v (c29 : Int), Enc.v (c30 : (List Int)), OL (α := Int) b31 l32, OQ (α := Int) b33 pre34 l35]), (b25, RV 127 [Enc.v (c26 : (List Int)), OL (α := Int) b27 l28]), (b27, RL (α := Int) 3 l28), (b31, RL (α := Int) 3 l32), (b33, RL (α := Int) 3 (pre34 ++ l35))] [(b36, RV 64 [.ref b7 0 5])] rfl nd (dlt rfl) rfl ⟨rfl, ⟨rfl, ⟨rfl, trivial⟩⟩⟩ (ok_mount_Line_Add_in_Robot_robot e113 c26 l28 c29 c30 l32 l35 b7 b25 b27 b31 b33 pre34 (Nd.take nd 5 rfl) _ hr114) ?_
      rintro _ _ hQ nd
      obtain ⟨b116, b117, b118, b119, pre120, rfl, rfl⟩ := hQ
      refine TL.nil ?_
      refine hK111 _ _ ?_
      refine TK.reg ?_
      refine TL.p (C := cx) (gc := true) (p_add rfl rfl) rfl rfl ?_
      refine TL.p (C := cx) (gc := true) (p_mv rfl) rfl rfl ?_
      refine TL.nil ?_
      exact ⟨_, (some_in hX).symm, b117, b116, b118, b119, pre120, b36, rfl, (Nd.pick nd (is := [2, 1, 3, 4, 0, 5]) (by decide)), (HSub.pick nd (is := [2, 1, 3, 4, 0, 5]) (by decide))⟩
    · have hX := ite_f hc hX
      refine TK.exit ?_
      obtain rfl := hR23 _ (some_in hX).symm
      exact E23 c26 l28 c29 c30 l32 l35 _ _ ⟨b27, b25, b31, b33, pre34, b36, rfl, (Nd.pick nd (is := [0, 1, 2, 3, 4, 5]) (by decide)), (HSub.pick nd (is := [0, 1, 2, 3, 4, 5]) (by decide))⟩ hA23

/-- (*cartridge/robot.Robot).Mounted -/
theorem ok_robot_Robot_Mounted (labels1 : (List Int)) (drives2 : (List Int)) (drives3 : Int) (labels4 : (List Int)) (l5 : (List Int)) (order6 : (List Int)) (drive7 : Int) (r : Int) (hX : X.robot_Robot_Mounted labels1 drives2 drives3 labels4 l5 order6 drive7 = some r) : Fun Try.prog 52 [.vref (ofL [.vref (ofL [Enc.v (labels1 : (List Int)), Enc.v (drives2 : (List Int))]) 2 0, Enc.v (drives3 : Int), Enc.v (labels4 : (List Int)), Enc.v (l5 : (List Int)), Enc.v (order6 : (List Int))]) 5 0, Enc.v (drive7 : Int)] (· = Enc.v (r : Int)) := by
  refine Fun.of b52 (Nat.le_of_ble_eq_true rfl) (allVal.mem ⟨(by exact (vref_val (l := [.vref (ofL [Enc.v (labels1 : (List Int)), Enc.v (drives2 : (List Int))]) 2 0, Enc.v (drives3 : Int), Enc.v (labels4 : (List Int)), Enc.v (l5 : (List Int)), Enc.v (order6 : (List Int))]) rfl ⟨(vref_val (l := [Enc.v (labels1 : (List Int)), Enc.v (drives2 : (List Int))]) rfl ⟨(v_val _), (v_val _), trivial⟩), (v_val _), (v_val _), (v_val _), (v_val _), trivial⟩)), (by exact (v_val _)), trivial⟩) ?_
  unfold k52
  have nd : Nd [] := Nd_nil
  unfold X.robot_Robot_Mounted at hX
  refine TK.seq_k fun K8 hK8 => ?_
  refine TK.reg ?_
  refine TL.p (C := cx) (gc := true) (p_mv rfl) rfl rfl ?_
  refine TL.nil ?_
  refine hK8 _ _ ?_
  refine TK.seq_k fun K9 hK9 => ?_
  refine TK.seq_k fun K10 hK10 => ?_
  refine TK.reg ?_
  refine TL.p (C := cx) (gc := true) (p_mv rfl) rfl rfl ?_
  refine TL.p (C := cx) (gc := true) (p_eqV kd64 rfl rfl) rfl rfl ?_
  refine TL.nil ?_
  refine hK10 _ _ ?_
  refine TK.cond (b := false) rfl (fun hc => by simp at hc) (fun _ => ?_)
  refine TK.skip ?_
  refine hK9 _ _ ?_
  refine TK.seq_k fun K11 hK11 => ?_
  refine TK.reg ?_
  refine TL.p (C := cx) (gc := true) (p_mv rfl) rfl rfl ?_
  refine TL.p (C := cx) (gc := true) (p_ncV rfl) rfl rfl ?_
  refine TL.p (C := cx) (gc := true) (p_faR fs109_0 (by decide) rfl) rfl rfl ?_
  refine TL.p (C := cx) (gc := true) (p_ldR (v := .vref (ofL [Enc.v (labels1 : (List Int)), Enc.v (drives2 : (List Int))]) 2 0) ty102 rfl rfl rfl rfl rfl rfl) rfl rfl ?_
  refine TL.p (C := cx) (gc := true) (p_mv rfl) rfl rfl ?_
  obtain ⟨r12, hr12, hX⟩ := bind_some hX
  refine TL.cvX rfl rfl rfl (fun _ => ⟨rfl, ⟨rfl, ⟨rfl, trivial⟩⟩⟩) (fun e => ok_shelf_Shelf_Mounted labels1 drives2 drive7 _ hr12) ?_
  refine TL.p (C := cx) (gc := true) (p_mv rfl) rfl rfl ?_
  refine TL.nil ?_
  refine hK11 _ _ ?_
  refine TK.ret ?_
  try dsimp only [thenQ]
  exact ret1 (v := Enc.v (r12 : Int)) rfl (by obtain rfl := some_in hX; rfl) (v_val _)

/-- cartridge/cartridgelaw24.alive -/
theorem ok_cartridgelaw24_alive  (r : Bool) (hX : X.cartridgelaw24_alive = some r) : Fun Try.prog 40 [] (· = Enc.v (r : Bool)) := by
  refine Fun.of b40 (Nat.le_of_ble_eq_true rfl) (fun x hx => by cases hx) ?_
  unfold k40
  have nd : Nd [] := Nd_nil
  unfold X.cartridgelaw24_alive at hX
  refine TK.seq_k fun K1 hK1 => ?_
  refine TK.reg ?_
  refine TL.p (C := cx) (gc := true) (p_mv rfl) rfl rfl ?_
  refine TL.nil ?_
  refine hK1 _ _ ?_
  refine TK.seq_k fun K2 hK2 => ?_
  refine TK.reg ?_
  refine TL.lit (C := cx) ([(1 : Int), (2 : Int)] : List Int) kd46 ty3 rfl ⟨⟨rfl, rfl⟩, ⟨rfl, rfl⟩, trivial⟩ rfl rfl rfl ?_
  obtain ⟨r3, hr3, hX⟩ := bind_some hX
  refine TL.tcX [] [] rfl nd (dlt rfl) rfl ⟨rfl, ⟨rfl, ⟨rfl, trivial⟩⟩⟩ (ok_robot_New ([(1 : Int), (2 : Int)] : List Int) (1 : Int) (Nd.take nd 0 rfl) _ hr3) ?_
  rintro _ _ hQ nd
  cases hqr3 : r3.1 with
  | none =>
    simp only [hqr3] at hQ hX
    obtain ⟨rfl, rfl⟩ := hQ
    refine TL.p (C := cx) (gc := true) (p_mv rfl) rfl rfl ?_
    refine TL.p (C := cx) (gc := true) (p_ex rfl rfl (by decide)) rfl rfl ?_
    refine TL.p (C := cx) (gc := true) (p_ex rfl rfl (by decide)) rfl rfl ?_
    refine TL.p (C := cx) (gc := true) (p_mv rfl) rfl rfl ?_
    refine TL.p (C := cx) (gc := true) (p_mv rfl) rfl rfl ?_
    refine TL.nil ?_
    refine hK2 _ _ ?_
    refine TK.seq_k fun K4 hK4 => ?_
    refine TK.seq_k fun K5 hK5 => ?_
    refine TK.reg ?_
    refine TL.p (C := cx) (gc := true) (p_mv rfl) rfl rfl ?_
    obtain ⟨r6, hr6, hX⟩ := bind_some hX
    refine TL.cvX rfl rfl rfl (fun _ => ⟨rfl, ⟨rfl, trivial⟩⟩) (fun e => ok_cartridgelaw24_num r3.2 _ hr6) ?_
    refine TL.p (C := cx) (gc := true) (p_neq rfl rfl) rfl rfl ?_
    refine TL.p (C := cx) (gc := true) (p_mv rfl) rfl rfl ?_
    refine TL.p (C := cx) (gc := (!((r6 != (0 : Int))))) (p_mv rfl (hg := fun e => rfl)) (gcF1 rfl) rfl ?_
    refine TL.p (C := cx) (gc := (!((r6 != (0 : Int))))) (p_eqN kd64 rfl rfl (hg := fun e => ⟨e, rfl⟩)) (gcF1 rfl) rfl ?_
    refine TL.p (C := cx) (gc := true) (p_or rfl rfl (fun e => ⟨rfl, fun h => (not_t h)⟩)) rfl rfl ?_
    refine TL.nil ?_
    refine hK5 _ _ ?_
    refine TK.cond (b := ((r6 != (0 : Int)) || true)) rfl (fun _ => ?_) (fun hc => by simp at hc)
    refine TK.seq_k fun K7 hK7 => ?_
    refine TK.reg ?_
    refine TL.p (C := cx) (gc := true) (p_mv rfl) rfl rfl ?_
    refine TL.nil ?_
    refine hK7 _ _ ?_
    refine TK.ret ?_
    try dsimp only [thenQ]
    exact ret1 (v := Enc.v (false : Bool)) rfl (by obtain rfl := some_in hX; rfl) (v_val _)
  | some o8 =>
    simp only [hqr3] at hQ hX
    obtain ⟨b9, b10, b11, b12, b13, pre14, rfl, rfl⟩ := hQ
    refine TL.p (C := cx) (gc := true) (p_mv rfl) rfl rfl ?_
    refine TL.p (C := cx) (gc := true) (p_ex rfl rfl (by decide)) rfl rfl ?_
    refine TL.p (C := cx) (gc := true) (p_ex rfl rfl (by decide)) rfl rfl ?_
    refine TL.p (C := cx) (gc := true) (p_mv rfl) rfl rfl ?_
    refine TL.p (C := cx) (gc := true) (p_mv rfl) rfl rfl ?_
    refine TL.nil ?_
    refine hK2 _ _ ?_
    refine TK.seq_k fun K15 hK15 => ?_
    refine TK.seq_k fun K16 hK16 => ?_
    refine TK.reg ?_
    refine TL.p (C := cx) (gc := true) (p_mv rfl) rfl rfl ?_
    obtain ⟨r17, hr17, hX⟩ := bind_some hX
    refine TL.cvX rfl rfl rfl (fun _ => ⟨rfl, ⟨rfl, trivial⟩⟩) (fun e => ok_cartridgelaw24_num r3.2 _ hr17) ?_
    refine TL.p (C := cx) (gc := true) (p_neq rfl rfl) rfl rfl ?_
    refine TL.p (C := cx) (gc := true) (p_mv rfl) rfl rfl ?_
    refine TL.p (C := cx) (gc := (!((r17 != (0 : Int))))) (p_mv rfl (hg := fun e => rfl)) (gcF1 rfl) rfl ?_
    refine TL.p (C := cx) (gc := (!((r17 != (0 : Int))))) (p_eqP kd64 rfl rfl (fun _ => refOK_of nd (j := 0) rfl rfl) (hg := fun e => ⟨e, rfl⟩)) (gcF1 rfl) rfl ?_
    refine TL.p (C := cx) (gc := true) (p_or rfl rfl (fun e => ⟨rfl, fun h => (not_t h)⟩)) rfl rfl ?_
    refine TL.nil ?_
    refine hK16 _ _ ?_
    refine TK.cond (b := ((r17 != (0 : Int)) || false)) rfl (fun hc => ?_) (fun hc => ?_)
    · have hX := ite_t hc hX
      refine TK.seq_k fun K18 hK18 => ?_
      refine TK.reg ?_
      refine TL.p (C := cx) (gc := true) (p_mv rfl) rfl rfl ?_
      refine TL.nil ?_
      refine hK18 _ _ ?_
      refine TK.ret ?_
      try dsimp only [thenQ]
      exact ret1 (v := Enc.v (false : Bool)) rfl (by obtain rfl := some_in hX; rfl) (v_val _)
    · have hX := ite_f hc hX
      refine TK.skip ?_
      refine hK15 _ _ ?_
      refine TK.seq_k fun K19 hK19 => ?_
      refine TK.reg ?_
      refine TL.p (C := cx) (gc := true) (p_mv rfl) rfl rfl ?_
      obtain ⟨r20, hr20, hX⟩ := bind_some hX
      refine TL.tcX [(b9, RV 109 [.ref b10 0 2, Enc.v (o8.2.2.1 : Int), Enc.v (o8.2.2.2.1 : (List Int)), OL (α := Int) b12 o8.2.2.2.2.1, OQ (α := Int) b13 pre14 o8.2.2.2.2.2]), (b10, RV 127 [Enc.v (o8.1 : (List Int)), OL (α := Int) b11 o8.2.1]), (b11, RL (α := Int) 3 o8.2.1), (b12, RL (α := Int) 3 o8.2.2.2.2.1), (b13, RL (α := Int) 3 (pre14 ++ o8.2.2.2.2.2))] [] rfl nd (dlt rfl) rfl ⟨rfl, ⟨rfl, ⟨rfl, ⟨rfl, trivial⟩⟩⟩⟩ (TCX.wk (args' := [.ref b9 0 5, L ([] : List Int), Enc.v ((0 : Int) : Int)]) ⟨Wk.refl _, Wk_nil, Wk.refl _, trivial⟩ (ok_robot_Robot_Serve ([] : List Int) (0 : Int) o8.1 o8.2.1 o8.2.2.1 o8.2.2.2.1 o8.2.2.2.2.1 o8.2.2.2.2.2 b9 b10 b11 b12 b13 pre14 (Nd.take nd 5 rfl) _ hr20)) ?_
      rintro _ _ hQ nd
      obtain ⟨b22, b23, b24, b25, pre26, rfl, rfl⟩ := hQ
      refine TL.p (C := cx) (gc := true) (p_mv rfl) rfl rfl ?_
      refine TL.p (C := cx) (gc := true) (p_ex rfl rfl (by decide)) rfl rfl ?_
      refine TL.p (C := cx) (gc := true) (p_ex rfl rfl (by decide)) rfl rfl ?_
      refine TL.p (C := cx) (gc := true) (p_mv rfl) rfl rfl ?_
      refine TL.p (C := cx) (gc := true) (p_mv rfl) rfl rfl ?_
      refine TL.nil ?_
      refine hK19 _ _ ?_
      refine TK.seq_k fun K27 hK27 => ?_
      refine TK.reg ?_
      refine TL.p (C := cx) (gc := true) (p_mv rfl) rfl rfl ?_
      refine TL.lit (C := cx) ([(2 : Int)] : List Int) kd46 ty3 rfl ⟨⟨rfl, rfl⟩, trivial⟩ rfl rfl rfl ?_
      obtain ⟨r28, hr28, hX⟩ := bind_some hX
      refine TL.tcX [(b9, RV 109 [.ref b22 0 2, Enc.v (r20.2.2.2.2.1 : Int), Enc.v (r20.2.2.2.2.2.1 : (List Int)), OL (α := Int) b24 r20.2.2.2.2.2.2.1, OQ (α := Int) b25 pre26 r20.2.2.2.2.2.2.2]), (b22, RV 127 [Enc.v (r20.2.2.1 : (List Int)), OL (α := Int) b23 r20.2.2.2.1]), (b23, RL (α := Int) 3 r20.2.2.2.1), (b24, RL (α := Int) 3 r20.2.2.2.2.2.2.1), (b25, RL (α := Int) 3 (pre26 ++ r20.2.2.2.2.2.2.2))] [] rfl nd (dlt rfl) rfl ⟨rfl, ⟨rfl, ⟨rfl, ⟨rfl, trivial⟩⟩⟩⟩ (ok_robot_Robot_Serve ([(2 : Int)] : List Int) (0 : Int) r20.2.2.1 r20.2.2.2.1 r20.2.2.2.2.1 r20.2.2.2.2.2.1 r20.2.2.2.2.2.2.1 r20.2.2.2.2.2.2.2 b9 b22 b23 b24 b25 pre26 (Nd.take nd 5 rfl) _ hr28) ?_
      rintro _ _ hQ nd
      obtain ⟨b30, b31, b32, b33, pre34, rfl, rfl⟩ := hQ
      refine TL.p (C := cx) (gc := true) (p_mv rfl) rfl rfl ?_
      refine TL.p (C := cx) (gc := true) (p_ex rfl rfl (by decide)) rfl rfl ?_
      refine TL.p (C := cx) (gc := true) (p_ex rfl rfl (by decide)) rfl rfl ?_
      refine TL.p (C := cx) (gc := true) (p_mv rfl) rfl rfl ?_
      refine TL.p (C := cx) (gc := true) (p_mv rfl) rfl rfl ?_
      refine TL.nil ?_
      refine hK27 _ _ ?_
      refine TK.seq_k fun K35 hK35 => ?_
      refine TK.reg ?_
      refine TL.p (C := cx) (gc := true) (p_mv rfl) rfl rfl ?_
      refine TL.p (C := cx) (gc := true) (p_eql rfl rfl) rfl rfl ?_
      refine TL.p (C := cx) (gc := true) (p_mv rfl) rfl rfl ?_
      refine TL.p (C := cx) (gc := ((r20.1 == (0 : Int)))) (p_mv rfl (hg := fun e => rfl)) (gcT1 rfl) rfl ?_
      obtain ⟨r36, hr36, hX⟩ := bind_some hX
      refine TL.cvX (gcT1 rfl) rfl rfl (fun e => ⟨rfl, ⟨e, trivial⟩⟩) (fun e => ok_cartridgelaw24_num r20.2.1 _ (optG_t hr36 e)) ?_
      refine TL.p (C := cx) (gc := ((r20.1 == (0 : Int)))) (p_eql rfl rfl (hg := fun e => ⟨e, rfl⟩)) (gcT1 rfl) rfl ?_
      refine TL.p (C := cx) (gc := true) (p_and rfl rfl (fun e => ⟨rfl, fun h => h⟩)) rfl rfl ?_
      refine TL.p (C := cx) (gc := true) (p_mv rfl) rfl rfl ?_
      refine TL.p (C := cx) (gc := (((r20.1 == (0 : Int)) && (r36 == (0 : Int))))) (p_mv rfl (hg := fun e => rfl)) (gcT1 rfl) rfl ?_
      refine TL.p (C := cx) (gc := (((r20.1 == (0 : Int)) && (r36 == (0 : Int))))) (p_eql rfl rfl (hg := fun e => ⟨e, rfl⟩)) (gcT1 rfl) rfl ?_
      refine TL.p (C := cx) (gc := true) (p_and rfl rfl (fun e => ⟨rfl, fun h => h⟩)) rfl rfl ?_
      refine TL.p (C := cx) (gc := true) (p_mv rfl) rfl rfl ?_
      refine TL.p (C := cx) (gc := ((((r20.1 == (0 : Int)) && (r36 == (0 : Int))) && (r28.1 == (2 : Int))))) (p_mv rfl (hg := fun e => rfl)) (gcT1 rfl) rfl ?_
      obtain ⟨r37, hr37, hX⟩ := bind_some hX
      refine TL.cvX (gcT1 rfl) rfl rfl (fun e => ⟨rfl, ⟨e, trivial⟩⟩) (fun e => ok_cartridgelaw24_num r28.2.1 _ (optG_t hr37 e)) ?_
      refine TL.p (C := cx) (gc := ((((r20.1 == (0 : Int)) && (r36 == (0 : Int))) && (r28.1 == (2 : Int))))) (p_eql rfl rfl (hg := fun e => ⟨e, rfl⟩)) (gcT1 rfl) rfl ?_
      refine TL.p (C := cx) (gc := true) (p_and rfl rfl (fun e => ⟨rfl, fun h => h⟩)) rfl rfl ?_
      refine TL.p (C := cx) (gc := true) (p_mv rfl) rfl rfl ?_
      refine TL.p (C := cx) (gc := (((((r20.1 == (0 : Int)) && (r36 == (0 : Int))) && (r28.1 == (2 : Int))) && (r37 == (0 : Int))))) (p_mv rfl (hg := fun e => rfl)) (gcT1 rfl) rfl ?_
      obtain ⟨r38, hr38, hX⟩ := bind_some hX
      refine TL.lookX [.vref (ofL [.vref (ofL [Enc.v (r28.2.2.1 : (List Int)), Enc.v (r28.2.2.2.1 : (List Int))]) 2 0, Enc.v (r28.2.2.2.2.1 : Int), Enc.v (r28.2.2.2.2.2.1 : (List Int)), Enc.v (r28.2.2.2.2.2.2.1 : (List Int)), Enc.v (r28.2.2.2.2.2.2.2 : (List Int))]) 5 0, Enc.v ((0 : Int) : Int)] (gcT1 rfl) rfl rfl (fun e => ⟨rfl, ⟨e, ⟨rfl, trivial⟩⟩⟩) ⟨look_ref (l := [.ref b30 0 2, Enc.v (r28.2.2.2.2.1 : Int), Enc.v (r28.2.2.2.2.2.1 : (List Int)), OL (α := Int) b32 r28.2.2.2.2.2.2.1, OQ (α := Int) b33 pre34 r28.2.2.2.2.2.2.2]) nd (j := 0) rfl ⟨look_ref (l := [Enc.v (r28.2.2.1 : (List Int)), OL (α := Int) b31 r28.2.2.2.1]) nd (j := 1) rfl ⟨look_v (v := Enc.v (r28.2.2.1 : (List Int))) (v_val _), look_OL nd (j := 2) rfl, trivial⟩, look_v (v := Enc.v (r28.2.2.2.2.1 : Int)) (v_val _), look_v (v := Enc.v (r28.2.2.2.2.2.1 : (List Int))) (v_val _), look_OL nd (j := 3) rfl, look_OQ nd (j := 4) rfl, trivial⟩, look_v (v := Enc.v ((0 : Int) : Int)) (v_val _), trivial⟩ (fun e => ok_robot_Robot_Mounted r28.2.2.1 r28.2.2.2.1 r28.2.2.2.2.1 r28.2.2.2.2.2.1 r28.2.2.2.2.2.2.1 r28.2.2.2.2.2.2.2 (0 : Int) _ (optG_t hr38 e)) (trivial) ?_
      refine TL.p (C := cx) (gc := (((((r20.1 == (0 : Int)) && (r36 == (0 : Int))) && (r28.1 == (2 : Int))) && (r37 == (0 : Int))))) (p_eql rfl rfl (hg := fun e => ⟨e, rfl⟩)) (gcT1 rfl) rfl ?_
      refine TL.p (C := cx) (gc := true) (p_and rfl rfl (fun e => ⟨rfl, fun h => h⟩)) rfl rfl ?_
      refine TL.p (C := cx) (gc := true) (p_mv rfl) rfl rfl ?_
      refine TL.nil ?_
      refine hK35 _ _ ?_
      refine TK.ret ?_
      try dsimp only [thenQ]
      exact ret1 (v := Enc.v ((((((r20.1 == (0 : Int)) && (r36 == (0 : Int))) && (r28.1 == (2 : Int))) && (r37 == (0 : Int))) && (r38 == (2 : Int))) : Bool)) rfl (by obtain rfl := some_in hX; rfl) (v_val _)

/-- cartridge/cartridgelaw24.RobotBound -/
theorem ok_cartridgelaw24_RobotBound (n1 : Int) (drives2 : Int) (fails3 : Int) (rows4 : (List (List Int))) (r : Bool) (hX : X.cartridgelaw24_RobotBound n1 drives2 fails3 rows4 = some r) : Fun Try.prog 10 [Enc.v (n1 : Int), Enc.v (drives2 : Int), Enc.v (fails3 : Int), Enc.v (rows4 : (List (List Int)))] (· = Enc.v (r : Bool)) := by
  refine Fun.of b10 (Nat.le_of_ble_eq_true rfl) (allVal.mem ⟨(by exact (v_val _)), (by exact (v_val _)), (by exact (v_val _)), (by exact (v_val _)), trivial⟩) ?_
  unfold k10
  have nd : Nd [] := Nd_nil
  unfold X.cartridgelaw24_RobotBound at hX
  refine TK.seq_k fun K5 hK5 => ?_
  refine TK.reg ?_
  refine TL.p (C := cx) (gc := true) (p_mv rfl) rfl rfl ?_
  refine TL.nil ?_
  refine hK5 _ _ ?_
  refine TK.seq_k fun K6 hK6 => ?_
  refine TK.reg ?_
  obtain ⟨r7, hr7, hX⟩ := bind_some hX
  refine TL.cvX rfl rfl rfl (fun _ => ⟨rfl, trivial⟩) (fun e => ok_cartridgelaw24_alive  _ hr7) ?_
  refine TL.p (C := cx) (gc := true) (p_mv rfl) rfl rfl ?_
  refine TL.nil ?_
  refine hK6 _ _ ?_
  refine TK.seq_k fun K8 hK8 => ?_
  refine TK.seq_k fun K9 hK9 => ?_
  refine TK.reg ?_
  refine TL.p (C := cx) (gc := true) (p_mv rfl) rfl rfl ?_
  refine TL.p (C := cx) (gc := true) (p_not rfl) rfl rfl ?_
  refine TL.p (C := cx) (gc := true) (p_mv rfl) rfl rfl ?_
  refine TL.p (C := cx) (gc := (!((!r7)))) (p_mv rfl (hg := fun e => rfl)) (gcF1 rfl) rfl ?_
  refine TL.p (C := cx) (gc := (!((!r7)))) (p_lss rfl rfl (hg := fun e => ⟨e, rfl⟩)) (gcF1 rfl) rfl ?_
  refine TL.p (C := cx) (gc := true) (p_or rfl rfl (fun e => ⟨rfl, fun h => (not_t h)⟩)) rfl rfl ?_
  refine TL.p (C := cx) (gc := true) (p_mv rfl) rfl rfl ?_
  refine TL.p (C := cx) (gc := (!(((!r7) || (decide (n1 < (1 : Int))))))) (p_mv rfl (hg := fun e => rfl)) (gcF1 rfl) rfl ?_
  refine TL.p (C := cx) (gc := (!(((!r7) || (decide (n1 < (1 : Int))))))) (p_gtr rfl rfl (hg := fun e => ⟨e, rfl⟩)) (gcF1 rfl) rfl ?_
  refine TL.p (C := cx) (gc := true) (p_or rfl rfl (fun e => ⟨rfl, fun h => (not_t h)⟩)) rfl rfl ?_
  refine TL.p (C := cx) (gc := true) (p_mv rfl) rfl rfl ?_
  refine TL.p (C := cx) (gc := (!((((!r7) || (decide (n1 < (1 : Int)))) || (decide (n1 > (20 : Int))))))) (p_mv rfl (hg := fun e => rfl)) (gcF1 rfl) rfl ?_
  refine TL.p (C := cx) (gc := (!((((!r7) || (decide (n1 < (1 : Int)))) || (decide (n1 > (20 : Int))))))) (p_lss rfl rfl (hg := fun e => ⟨e, rfl⟩)) (gcF1 rfl) rfl ?_
  refine TL.p (C := cx) (gc := true) (p_or rfl rfl (fun e => ⟨rfl, fun h => (not_t h)⟩)) rfl rfl ?_
  refine TL.p (C := cx) (gc := true) (p_mv rfl) rfl rfl ?_
  refine TL.p (C := cx) (gc := (!(((((!r7) || (decide (n1 < (1 : Int)))) || (decide (n1 > (20 : Int)))) || (decide (drives2 < (1 : Int))))))) (p_mv rfl (hg := fun e => rfl)) (gcF1 rfl) rfl ?_
  refine TL.p (C := cx) (gc := (!(((((!r7) || (decide (n1 < (1 : Int)))) || (decide (n1 > (20 : Int)))) || (decide (drives2 < (1 : Int))))))) (p_gtr rfl rfl (hg := fun e => ⟨e, rfl⟩)) (gcF1 rfl) rfl ?_
  refine TL.p (C := cx) (gc := true) (p_or rfl rfl (fun e => ⟨rfl, fun h => (not_t h)⟩)) rfl rfl ?_
  refine TL.p (C := cx) (gc := true) (p_mv rfl) rfl rfl ?_
  refine TL.p (C := cx) (gc := (!((((((!r7) || (decide (n1 < (1 : Int)))) || (decide (n1 > (20 : Int)))) || (decide (drives2 < (1 : Int)))) || (decide (drives2 > (4 : Int))))))) (p_mv rfl (hg := fun e => rfl)) (gcF1 rfl) rfl ?_
  refine TL.p (C := cx) (gc := (!((((((!r7) || (decide (n1 < (1 : Int)))) || (decide (n1 > (20 : Int)))) || (decide (drives2 < (1 : Int)))) || (decide (drives2 > (4 : Int))))))) (p_lss rfl rfl (hg := fun e => ⟨e, rfl⟩)) (gcF1 rfl) rfl ?_
  refine TL.p (C := cx) (gc := true) (p_or rfl rfl (fun e => ⟨rfl, fun h => (not_t h)⟩)) rfl rfl ?_
  refine TL.p (C := cx) (gc := true) (p_mv rfl) rfl rfl ?_
  refine TL.p (C := cx) (gc := (!(((((((!r7) || (decide (n1 < (1 : Int)))) || (decide (n1 > (20 : Int)))) || (decide (drives2 < (1 : Int)))) || (decide (drives2 > (4 : Int)))) || (decide (fails3 < (0 : Int))))))) (p_mv rfl (hg := fun e => rfl)) (gcF1 rfl) rfl ?_
  refine TL.p (C := cx) (gc := (!(((((((!r7) || (decide (n1 < (1 : Int)))) || (decide (n1 > (20 : Int)))) || (decide (drives2 < (1 : Int)))) || (decide (drives2 > (4 : Int)))) || (decide (fails3 < (0 : Int))))))) (p_gtr rfl rfl (hg := fun e => ⟨e, rfl⟩)) (gcF1 rfl) rfl ?_
  refine TL.p (C := cx) (gc := true) (p_or rfl rfl (fun e => ⟨rfl, fun h => (not_t h)⟩)) rfl rfl ?_
  refine TL.p (C := cx) (gc := true) (p_mv rfl) rfl rfl ?_
  refine TL.p (C := cx) (gc := (!((((((((!r7) || (decide (n1 < (1 : Int)))) || (decide (n1 > (20 : Int)))) || (decide (drives2 < (1 : Int)))) || (decide (drives2 > (4 : Int)))) || (decide (fails3 < (0 : Int)))) || (decide (fails3 > (100 : Int))))))) (p_mv rfl (hg := fun e => rfl)) (gcF1 rfl) rfl ?_
  refine TL.p (C := cx) (gc := (!((((((((!r7) || (decide (n1 < (1 : Int)))) || (decide (n1 > (20 : Int)))) || (decide (drives2 < (1 : Int)))) || (decide (drives2 > (4 : Int)))) || (decide (fails3 < (0 : Int)))) || (decide (fails3 > (100 : Int))))))) (p_lenL (xs := rows4) kd63 rfl (hg := fun e => e)) (gcF1 rfl) rfl ?_
  refine TL.p (C := cx) (gc := (!((((((((!r7) || (decide (n1 < (1 : Int)))) || (decide (n1 > (20 : Int)))) || (decide (drives2 < (1 : Int)))) || (decide (drives2 > (4 : Int)))) || (decide (fails3 < (0 : Int)))) || (decide (fails3 > (100 : Int))))))) (p_gtr rfl rfl (hg := fun e => ⟨e, rfl⟩)) (gcF1 rfl) rfl ?_
  refine TL.p (C := cx) (gc := true) (p_or rfl rfl (fun e => ⟨rfl, fun h => (not_t h)⟩)) rfl rfl ?_
  refine TL.nil ?_
  refine hK9 _ _ ?_
  refine TK.cond (b := ((((((((!r7) || (decide (n1 < (1 : Int)))) || (decide (n1 > (20 : Int)))) || (decide (drives2 < (1 : Int)))) || (decide (drives2 > (4 : Int)))) || (decide (fails3 < (0 : Int)))) || (decide (fails3 > (100 : Int)))) || (decide ((rows4.length : Int) > (20 : Int))))) rfl (fun hc => ?_) (fun hc => ?_)
  · have hX := ite_t hc hX
    refine TK.seq_k fun K10 hK10 => ?_
    refine TK.reg ?_
    refine TL.p (C := cx) (gc := true) (p_mv rfl) rfl rfl ?_
    refine TL.p (C := cx) (gc := true) (p_mv rfl) rfl rfl ?_
    refine TL.nil ?_
    refine hK10 _ _ ?_
    refine TK.ret ?_
    try dsimp only [thenQ]
    exact ret1 (v := Enc.v (r7 : Bool)) rfl (by obtain rfl := some_in hX; rfl) (v_val _)
  · have hX := ite_f hc hX
    refine TK.skip ?_
    refine hK8 _ _ ?_
    refine TK.seq_k fun K11 hK11 => ?_
    refine TK.reg ?_
    refine TL.p (C := cx) (gc := true) (p_mv rfl) rfl rfl ?_
    refine TL.nil ?_
    refine hK11 _ _ ?_
    refine TK.ownL (α := Int) 10 3 nd rfl (.inl rfl) fun b12 nd => ?_
    refine TK.seq_k fun K13 hK13 => ?_
    refine TK.seq_k fun K14 hK14 => ?_
    refine TK.reg ?_
    refine TL.p (C := cx) (gc := true) (p_mv rfl) rfl rfl ?_
    refine TL.nil ?_
    refine hK14 _ _ ?_
    refine TK.block ?_
    obtain ⟨o15, hO15, hA15⟩ := bind_some hX
    have E15 : ∀ (l20 : List Int) (env : Env) (h : Hp), (∃ b19, keepE [0, 1, 2, 3, 10] env = [(0, true, Enc.v (n1 : Int)), (1, true, Enc.v (drives2 : Int)), (2, true, Enc.v (fails3 : Int)), (3, true, Enc.v (rows4 : (List (List Int)))), (10, true, OL (α := Int) b19 l20)] ∧ Nd [(b19, RL (α := Int) 3 l20)] ∧ HSub [(b19, RL (α := Int) 3 l20)] h) → X.cartridgelaw24_RobotBound_e15 drives2 rows4 n1 fails3 l20 = some r → K13 env h := by
      intro l20 env h hE hX
      obtain ⟨b19, henv, nd, hs⟩ := hE
      unfold X.cartridgelaw24_RobotBound_e15 at hX
      refine hK13 _ _ (TK.keep [0, 1, 2, 3, 10] ?_)
      rw [henv]
      refine TK.subH hs ?_
      refine TK.seq_k fun K21 hK21 => ?_
      refine TK.reg ?_
      refine TL.p (C := cx) (gc := true) (p_mv rfl) rfl rfl ?_
      refine TL.p (C := cx) (gc := true) (p_mv rfl) rfl rfl ?_
      refine TL.lay [(63, L l20)] nd (j := 0) rfl ⟨⟨_, rfl, fix_OL nd (j := 0) rfl, rfl⟩, trivial⟩ fun nd => ?_
      obtain ⟨r22, hr22, hX⟩ := bind_some hX
      refine TL.tcX [] [] rfl nd (dlt rfl) rfl ⟨rfl, ⟨rfl, ⟨rfl, trivial⟩⟩⟩ (ok_robot_New l20 drives2 (Nd.take nd 0 rfl) _ hr22) ?_
      rintro _ _ hQ nd
      cases hqr22 : r22.1 with
      | none =>
        simp only [hqr22] at hQ hX
        obtain ⟨rfl, rfl⟩ := hQ
        refine TL.p (C := cx) (gc := true) (p_mv rfl) rfl rfl ?_
        refine TL.p (C := cx) (gc := true) (p_ex rfl rfl (by decide)) rfl rfl ?_
        refine TL.p (C := cx) (gc := true) (p_ex rfl rfl (by decide)) rfl rfl ?_
        refine TL.p (C := cx) (gc := true) (p_mv rfl) rfl rfl ?_
        refine TL.p (C := cx) (gc := true) (p_mv rfl) rfl rfl ?_
        refine TL.nil ?_
        refine hK21 _ _ ?_
        refine TK.seq_k fun K23 hK23 => ?_
        refine TK.seq_k fun K24 hK24 => ?_
        refine TK.reg ?_
        refine TL.p (C := cx) (gc := true) (p_mv rfl) rfl rfl ?_
        obtain ⟨r25, hr25, hX⟩ := bind_some hX
        refine TL.cvX rfl rfl rfl (fun _ => ⟨rfl, ⟨rfl, trivial⟩⟩) (fun e => ok_cartridgelaw24_num r22.2 _ hr25) ?_
        refine TL.p (C := cx) (gc := true) (p_neq rfl rfl) rfl rfl ?_
        refine TL.p (C := cx) (gc := true) (p_mv rfl) rfl rfl ?_
        refine TL.p (C := cx) (gc := (!((r25 != (0 : Int))))) (p_mv rfl (hg := fun e => rfl)) (gcF1 rfl) rfl ?_
        refine TL.p (C := cx) (gc := (!((r25 != (0 : Int))))) (p_eqN kd64 rfl rfl (hg := fun e => ⟨e, rfl⟩)) (gcF1 rfl) rfl ?_
        refine TL.p (C := cx) (gc := true) (p_or rfl rfl (fun e => ⟨rfl, fun h => (not_t h)⟩)) rfl rfl ?_
        refine TL.nil ?_
        refine hK24 _ _ ?_
        refine TK.cond (b := ((r25 != (0 : Int)) || true)) rfl (fun _ => ?_) (fun hc => by simp at hc)
        refine TK.seq_k fun K26 hK26 => ?_
        refine TK.reg ?_
        refine TL.p (C := cx) (gc := true) (p_mv rfl) rfl rfl ?_
        refine TL.nil ?_
        refine hK26 _ _ ?_
        refine TK.ret ?_
        try dsimp only [thenQ]
        exact ret1 (v := Enc.v (false : Bool)) rfl (by obtain rfl := some_in hX; rfl) (v_val _)
      | some o27 =>
        simp only [hqr22] at hQ hX
        obtain ⟨b28, b29, b30, b31, b32, pre33, rfl, rfl⟩ := hQ
        refine TL.p (C := cx) (gc := true) (p_mv rfl) rfl rfl ?_
        refine TL.p (C := cx) (gc := true) (p_ex rfl rfl (by decide)) rfl rfl ?_
        refine TL.p (C := cx) (gc := true) (p_ex rfl rfl (by decide)) rfl rfl ?_
        refine TL.p (C := cx) (gc := true) (p_mv rfl) rfl rfl ?_
        refine TL.p (C := cx) (gc := true) (p_mv rfl) rfl rfl ?_
        refine TL.nil ?_
        refine hK21 _ _ ?_
        refine TK.seq_k fun K34 hK34 => ?_
        refine TK.seq_k fun K35 hK35 => ?_
        refine TK.reg ?_
        refine TL.p (C := cx) (gc := true) (p_mv rfl) rfl rfl ?_
        obtain ⟨r36, hr36, hX⟩ := bind_some hX
        refine TL.cvX rfl rfl rfl (fun _ => ⟨rfl, ⟨rfl, trivial⟩⟩) (fun e => ok_cartridgelaw24_num r22.2 _ hr36) ?_
        refine TL.p (C := cx) (gc := true) (p_neq rfl rfl) rfl rfl ?_
        refine TL.p (C := cx) (gc := true) (p_mv rfl) rfl rfl ?_
        refine TL.p (C := cx) (gc := (!((r36 != (0 : Int))))) (p_mv rfl (hg := fun e => rfl)) (gcF1 rfl) rfl ?_
        refine TL.p (C := cx) (gc := (!((r36 != (0 : Int))))) (p_eqP kd64 rfl rfl (fun _ => refOK_of nd (j := 0) rfl rfl) (hg := fun e => ⟨e, rfl⟩)) (gcF1 rfl) rfl ?_
        refine TL.p (C := cx) (gc := true) (p_or rfl rfl (fun e => ⟨rfl, fun h => (not_t h)⟩)) rfl rfl ?_
        refine TL.nil ?_
        refine hK35 _ _ ?_
        refine TK.cond (b := ((r36 != (0 : Int)) || false)) rfl (fun hc => ?_) (fun hc => ?_)
        · have hX := ite_t hc hX
          refine TK.seq_k fun K37 hK37 => ?_
          refine TK.reg ?_
          refine TL.p (C := cx) (gc := true) (p_mv rfl) rfl rfl ?_
          refine TL.nil ?_
          refine hK37 _ _ ?_
          refine TK.ret ?_
          try dsimp only [thenQ]
          exact ret1 (v := Enc.v (false : Bool)) rfl (by obtain rfl := some_in hX; rfl) (v_val _)
        · have hX := ite_f hc hX
          refine TK.skip ?_
          refine hK34 _ _ ?_
          refine TK.seq_k fun K38 hK38 => ?_
          refine TK.seq_k fun K39 hK39 => ?_
          refine TK.reg ?_
          refine TL.p (C := cx) (gc := true) (p_mv rfl) rfl rfl ?_
          refine TL.nil ?_
          refine hK39 _ _ ?_
          refine TK.block ?_
          obtain ⟨o40, hO40, hA40⟩ := bind_some hX
          have E40 : ∀ (env : Env) (h : Hp), (∃ _u : Unit, keepE [] env = [] ∧ Nd [] ∧ HSub [] h) → X.cartridgelaw24_RobotBound_e40 = some r → K38 env h := by
            intro  env h hE hX
            obtain ⟨_u, henv, nd, hs⟩ := hE
            unfold X.cartridgelaw24_RobotBound_e40 at hX
            refine hK38 _ _ (TK.keep [] ?_)
            rw [henv]
            refine TK.subH hs ?_
            refine TK.seq_k fun K54 hK54 => ?_
            refine TK.reg ?_
            refine TL.p (C := cx) (gc := true) (p_mv rfl) rfl rfl ?_
            refine TL.nil ?_
            refine hK54 _ _ ?_
            refine TK.ret ?_
            try dsimp only [thenQ]
            exact ret1 (v := Enc.v (true : Bool)) rfl (by obtain rfl := some_in hX; rfl) (v_val _)
          refine TK.iter [0, 2, 3, 12, 14] (fun s env h => match s with | (c43, l45, c46, c47, l49, l52, i53) => ∃ b44 b42 b48 b50 pre51 b41, env = [(0, true, Enc.v (n1 : Int)), (2, true, Enc.v (fails3 : Int)), (3, true, Enc.v (rows4 : (List (List Int)))), (12, true, .ref b41 0 5), (14, true, Enc.v (i53 : Int))] ∧ Nd [(b44, RL (α := Int) 3 l45), (b42, RV 127 [Enc.v (c43 : (List Int)), OL (α := Int) b44 l45]), (b48, RL (α := Int) 3 l49), (b50, RL (α := Int) 3 (pre51 ++ l52)), (b41, RV 109 [.ref b42 0 2, Enc.v (c46 : Int), Enc.v (c47 : (List Int)), OL (α := Int) b48 l49, OQ (α := Int) b50 pre51 l52])] ∧ HSub [(b44, RL (α := Int) 3 l45), (b42, RV 127 [Enc.v (c43 : (List Int)), OL (α := Int) b44 l45]), (b48, RL (α := Int) 3 l49), (b50, RL (α := Int) 3 (pre51 ++ l52)), (b41, RV 109 [.ref b42 0 2, Enc.v (c46 : Int), Enc.v (c47 : (List Int)), OL (α := Int) b48 l49, OQ (α := Int) b50 pre51 l52])] h) hO40 ⟨b30, b29, b31, b32, pre33, b28, rfl, (Nd.pick nd (is := [2, 1, 3, 4, 0]) (by decide)), (HSub.pick nd (is := [2, 1, 3, 4, 0]) (by decide))⟩ ?_
          rintro ⟨c43, l45, c46, c47, l49, l52, i53⟩ env h x40x ⟨b44, b42, b48, b50, pre51, b41, rfl, nd, hs⟩ hX hR40
          refine TK.subH hs ?_
          unfold X.cartridgelaw24_RobotBound_s40 at hX
          try dsimp only at hX
          refine TK.seq_k fun K55 hK55 => ?_
          refine TK.seq_k fun K56 hK56 => ?_
          refine TK.reg ?_
          refine TL.p (C := cx) (gc := true) (p_mv rfl) rfl rfl ?_
          refine TL.p (C := cx) (gc := true) (p_mv rfl) rfl rfl ?_
          refine TL.p (C := cx) (gc := true) (p_lenL (xs := rows4) kd63 rfl) rfl rfl ?_
          refine TL.p (C := cx) (gc := true) (p_lss rfl rfl) rfl rfl ?_
          refine TL.nil ?_
          refine hK56 _ _ ?_
          refine TK.cond (b := (decide (i53 < (rows4.length : Int)))) rfl (fun hc => ?_) (fun hc => ?_)
          · have hX := ite_t hc hX
            refine TK.skip ?_
            refine hK55 _ _ ?_
            refine TK.seq_k fun K57 hK57 => ?_
            refine TK.block ?_
            refine TK.seq_k fun K58 hK58 => ?_
            refine TK.seq_k fun K59 hK59 => ?_
            refine TK.reg ?_
            refine TL.p (C := cx) (gc := true) (p_mv rfl) rfl rfl ?_
            refine TL.p (C := cx) (gc := true) (p_mv rfl) rfl rfl ?_
            obtain ⟨e60, he60, hX⟩ := bind_some hX
            refine TL.p (C := cx) (gc := true) (p_iaL (xs := rows4) kd63 ty46 rfl rfl rfl (fun _ => he60)) rfl rfl ?_
            refine TL.p (C := cx) (gc := true) (p_ldE (xs := rows4) (a := e60) (e60 : (List Int)) ty46 rfl rfl (fun _ => he60) rfl rfl rfl) rfl rfl ?_
            refine TL.p (C := cx) (gc := true) (p_lenL (xs := e60) kd46 rfl) rfl rfl ?_
            refine TL.p (C := cx) (gc := true) (p_gtr rfl rfl) rfl rfl ?_
            refine TL.nil ?_
            refine hK59 _ _ ?_
            refine TK.cond (b := (decide ((e60.length : Int) > (40 : Int)))) rfl (fun hc => ?_) (fun hc => ?_)
            · have hX := ite_t hc hX
              refine TK.seq_k fun K61 hK61 => ?_
              refine TK.reg ?_
              refine TL.p (C := cx) (gc := true) (p_mv rfl) rfl rfl ?_
              refine TL.nil ?_
              refine hK61 _ _ ?_
              refine TK.ret ?_
              obtain rfl := hR40 _ (some_in hX).symm
              replace hX := hA40
              try dsimp only [thenQ]
              exact ret1 (v := Enc.v (true : Bool)) rfl (by obtain rfl := some_in hX; rfl) (v_val _)
            · have hX := ite_f hc hX
              refine TK.skip ?_
              refine hK58 _ _ ?_
              refine TK.seq_k fun K62 hK62 => ?_
              refine TK.reg ?_
              refine TL.p (C := cx) (gc := true) (p_mv rfl) rfl rfl ?_
              refine TL.nil ?_
              refine hK62 _ _ ?_
              refine TK.ownL (α := Int) 15 3 nd rfl (.inl rfl) fun b63 nd => ?_
              refine TK.seq_k fun K64 hK64 => ?_
              refine TK.seq_k fun K65 hK65 => ?_
              refine TK.reg ?_
              refine TL.p (C := cx) (gc := true) (p_mv rfl) rfl rfl ?_
              refine TL.nil ?_
              refine hK65 _ _ ?_
              refine TK.block ?_
              obtain ⟨o66, hO66, hA66⟩ := bind_some hX
              have E66 : ∀ (l83 : List Int) (env : Env) (h : Hp), (∃ b78 b77 b79 b80 pre81 b76 b82, keepE [0, 2, 3, 12, 14, 15] env = [(0, true, Enc.v (n1 : Int)), (2, true, Enc.v (fails3 : Int)), (3, true, Enc.v (rows4 : (List (List Int)))), (12, true, .ref b76 0 5), (14, true, Enc.v (i53 : Int)), (15, true, OL (α := Int) b82 l83)] ∧ Nd [(b78, RL (α := Int) 3 l45), (b77, RV 127 [Enc.v (c43 : (List Int)), OL (α := Int) b78 l45]), (b79, RL (α := Int) 3 l49), (b80, RL (α := Int) 3 (pre81 ++ l52)), (b76, RV 109 [.ref b77 0 2, Enc.v (c46 : Int), Enc.v (c47 : (List Int)), OL (α := Int) b79 l49, OQ (α := Int) b80 pre81 l52]), (b82, RL (α := Int) 3 l83)] ∧ HSub [(b78, RL (α := Int) 3 l45), (b77, RV 127 [Enc.v (c43 : (List Int)), OL (α := Int) b78 l45]), (b79, RL (α := Int) 3 l49), (b80, RL (α := Int) 3 (pre81 ++ l52)), (b76, RV 109 [.ref b77 0 2, Enc.v (c46 : Int), Enc.v (c47 : (List Int)), OL (α := Int) b79 l49, OQ (α := Int) b80 pre81 l52]), (b82, RL (α := Int) 3 l83)] h) → X.cartridgelaw24_RobotBound_e66 fails3 c43 l45 c46 c47 l49 l52 i53 l83 = some x40x → K64 env h := by
                intro l83 env h hE hX
                obtain ⟨b78, b77, b79, b80, pre81, b76, b82, henv, nd, hs⟩ := hE
                unfold X.cartridgelaw24_RobotBound_e66 at hX
                refine hK64 _ _ (TK.keep [0, 2, 3, 12, 14, 15] ?_)
                rw [henv]
                refine TK.subH hs ?_
                refine TK.seq_k fun K84 hK84 => ?_
                refine TK.reg ?_
                refine TL.p (C := cx) (gc := true) (p_mv rfl) rfl rfl ?_
                refine TL.p (C := cx) (gc := true) (p_mv rfl) rfl rfl ?_
                refine TL.p (C := cx) (gc := true) (p_mv rfl) rfl rfl ?_
                refine TL.lay [(15, L l83), (112, L l83)] nd (j := 5) rfl ⟨⟨_, rfl, fix_OL nd (j := 5) rfl, rfl⟩, ⟨⟨_, rfl, fix_OL nd (j := 5) rfl, rfl⟩, trivial⟩⟩ fun nd => ?_
                obtain ⟨r85, hr85, hX⟩ := bind_some hX
                refine TL.pick [4, 1, 0, 2, 3] nd (by decide) fun nd => ?_
                refine TL.tcX [(b76, RV 109 [.ref b77 0 2, Enc.v (c46 : Int), Enc.v (c47 : (List Int)), OL (α := Int) b79 l49, OQ (α := Int) b80 pre81 l52]), (b77, RV 127 [Enc.v (c43 : (List Int)), OL (α := Int) b78 l45]), (b78, RL (α := Int) 3 l45), (b79, RL (α := Int) 3 l49), (b80, RL (α := Int) 3 (pre81 ++ l52))] [] rfl nd (dlt rfl) rfl ⟨rfl, ⟨rfl, ⟨rfl, ⟨rfl, trivial⟩⟩⟩⟩ (ok_robot_Robot_Serve l83 fails3 c43 l45 c46 c47 l49 l52 b76 b77 b78 b79 b80 pre81 (Nd.take nd 5 rfl) _ hr85) ?_
                rintro _ _ hQ nd
                obtain ⟨b87, b88, b89, b90, pre91, rfl, rfl⟩ := hQ
                refine TL.p (C := cx) (gc := true) (p_mv rfl) rfl rfl ?_
                refine TL.p (C := cx) (gc := true) (p_ex rfl rfl (by decide)) rfl rfl ?_
                refine TL.p (C := cx) (gc := true) (p_ex rfl rfl (by decide)) rfl rfl ?_
                refine TL.p (C := cx) (gc := true) (p_mv rfl) rfl rfl ?_
                refine TL.p (C := cx) (gc := true) (p_mv rfl) rfl rfl ?_
                refine TL.nil ?_
                refine hK84 _ _ ?_
                refine TK.seq_k fun K92 hK92 => ?_
                refine TK.reg ?_
                refine TL.p (C := cx) (gc := true) (p_mv rfl) rfl rfl ?_
                obtain ⟨r93, hr93, hX⟩ := bind_some hX
                refine TL.cvX rfl rfl rfl (fun _ => ⟨rfl, ⟨rfl, trivial⟩⟩) (fun e => ok_cartridgelaw24_num r85.2.1 _ hr93) ?_
                refine TL.p (C := cx) (gc := true) (p_neq rfl rfl) rfl rfl ?_
                refine TL.p (C := cx) (gc := true) (p_mv rfl) rfl rfl ?_
                refine TL.p (C := cx) (gc := (!((r93 != (0 : Int))))) (p_mv rfl (hg := fun e => rfl)) (gcF1 rfl) rfl ?_
                refine TL.p (C := cx) (gc := (!((r93 != (0 : Int))))) (p_mv rfl (hg := fun e => rfl)) (gcF1 rfl) rfl ?_
                refine TL.p (C := cx) (gc := (!((r93 != (0 : Int))))) (p_lenL (xs := l83) kd46 rfl (hg := fun e => e)) (gcF1 rfl) rfl ?_
                refine TL.p (C := cx) (gc := (!((r93 != (0 : Int))))) (p_mul rfl rfl (hg := fun e => ⟨rfl, e⟩)) (gcF1 rfl) rfl ?_
                refine TL.p (C := cx) (gc := (!((r93 != (0 : Int))))) (p_mv rfl (hg := fun e => rfl)) (gcF1 rfl) rfl ?_
                refine TL.p (C := cx) (gc := (!((r93 != (0 : Int))))) (p_add rfl rfl (hg := fun e => ⟨e, e⟩)) (gcF1 rfl) rfl ?_
                refine TL.p (C := cx) (gc := (!((r93 != (0 : Int))))) (p_gtr rfl rfl (hg := fun e => ⟨e, e⟩)) (gcF1 rfl) rfl ?_
                refine TL.p (C := cx) (gc := true) (p_or rfl rfl (fun e => ⟨rfl, fun h => (not_t h)⟩)) rfl rfl ?_
                refine TL.p (C := cx) (gc := true) (p_mv rfl) rfl rfl ?_
                refine TL.p (C := cx) (gc := (!(((r93 != (0 : Int)) || (decide (r85.1 > (wr ((wr ((3 : Int) * (l83.length : Int))) + fails3)))))))) (p_mv rfl (hg := fun e => rfl)) (gcF1 rfl) rfl ?_
                refine TL.p (C := cx) (gc := (!(((r93 != (0 : Int)) || (decide (r85.1 > (wr ((wr ((3 : Int) * (l83.length : Int))) + fails3)))))))) (p_lss rfl rfl (hg := fun e => ⟨e, rfl⟩)) (gcF1 rfl) rfl ?_
                refine TL.p (C := cx) (gc := true) (p_or rfl rfl (fun e => ⟨rfl, fun h => (not_t h)⟩)) rfl rfl ?_
                refine TL.p (C := cx) (gc := true) (p_mv rfl) rfl rfl ?_
                refine TL.p (C := cx) (gc := (!((((r93 != (0 : Int)) || (decide (r85.1 > (wr ((wr ((3 : Int) * (l83.length : Int))) + fails3))))) || (decide (r85.1 < (0 : Int))))))) (p_mv rfl (hg := fun e => rfl)) (gcF1 rfl) rfl ?_
                obtain ⟨r94, hr94, hX⟩ := bind_some hX
                refine TL.lookX [.vref (ofL [.vref (ofL [Enc.v (r85.2.2.1 : (List Int)), Enc.v (r85.2.2.2.1 : (List Int))]) 2 0, Enc.v (r85.2.2.2.2.1 : Int), Enc.v (r85.2.2.2.2.2.1 : (List Int)), Enc.v (r85.2.2.2.2.2.2.1 : (List Int)), Enc.v (r85.2.2.2.2.2.2.2 : (List Int))]) 5 0] (gcF1 rfl) rfl rfl (fun e => ⟨rfl, ⟨e, trivial⟩⟩) ⟨look_ref (l := [.ref b87 0 2, Enc.v (r85.2.2.2.2.1 : Int), Enc.v (r85.2.2.2.2.2.1 : (List Int)), OL (α := Int) b89 r85.2.2.2.2.2.2.1, OQ (α := Int) b90 pre91 r85.2.2.2.2.2.2.2]) nd (j := 0) rfl ⟨look_ref (l := [Enc.v (r85.2.2.1 : (List Int)), OL (α := Int) b88 r85.2.2.2.1]) nd (j := 1) rfl ⟨look_v (v := Enc.v (r85.2.2.1 : (List Int))) (v_val _), look_OL nd (j := 2) rfl, trivial⟩, look_v (v := Enc.v (r85.2.2.2.2.1 : Int)) (v_val _), look_v (v := Enc.v (r85.2.2.2.2.2.1 : (List Int))) (v_val _), look_OL nd (j := 3) rfl, look_OQ nd (j := 4) rfl, trivial⟩, trivial⟩ (fun e => ok_robot_Robot_Waiting r85.2.2.1 r85.2.2.2.1 r85.2.2.2.2.1 r85.2.2.2.2.2.1 r85.2.2.2.2.2.2.1 r85.2.2.2.2.2.2.2 _ (optG_t hr94 e)) (trivial) ?_
                refine TL.p (C := cx) (gc := (!((((r93 != (0 : Int)) || (decide (r85.1 > (wr ((wr ((3 : Int) * (l83.length : Int))) + fails3))))) || (decide (r85.1 < (0 : Int))))))) (p_neq rfl rfl (hg := fun e => ⟨e, rfl⟩)) (gcF1 rfl) rfl ?_
                refine TL.p (C := cx) (gc := true) (p_or rfl rfl (fun e => ⟨rfl, fun h => (not_t h)⟩)) rfl rfl ?_
                refine TL.p (C := cx) (gc := true) (p_mv rfl) rfl rfl ?_
                refine TL.p (C := cx) (gc := (!(((((r93 != (0 : Int)) || (decide (r85.1 > (wr ((wr ((3 : Int) * (l83.length : Int))) + fails3))))) || (decide (r85.1 < (0 : Int)))) || (r94 != (0 : Int)))))) (p_mv rfl (hg := fun e => rfl)) (gcF1 rfl) rfl ?_
                refine TL.p (C := cx) (gc := (!(((((r93 != (0 : Int)) || (decide (r85.1 > (wr ((wr ((3 : Int) * (l83.length : Int))) + fails3))))) || (decide (r85.1 < (0 : Int)))) || (r94 != (0 : Int)))))) (p_lenL (xs := l83) kd46 rfl (hg := fun e => e)) (gcF1 rfl) rfl ?_
                refine TL.p (C := cx) (gc := (!(((((r93 != (0 : Int)) || (decide (r85.1 > (wr ((wr ((3 : Int) * (l83.length : Int))) + fails3))))) || (decide (r85.1 < (0 : Int)))) || (r94 != (0 : Int)))))) (p_gtr rfl rfl (hg := fun e => ⟨e, rfl⟩)) (gcF1 rfl) rfl ?_
                refine TL.p (C := cx) (gc := (!(((((r93 != (0 : Int)) || (decide (r85.1 > (wr ((wr ((3 : Int) * (l83.length : Int))) + fails3))))) || (decide (r85.1 < (0 : Int)))) || (r94 != (0 : Int)))))) (p_mv rfl (hg := fun e => e)) (gcF1 rfl) rfl ?_
                refine TL.p (C := cx) (gc := ((!(((((r93 != (0 : Int)) || (decide (r85.1 > (wr ((wr ((3 : Int) * (l83.length : Int))) + fails3))))) || (decide (r85.1 < (0 : Int)))) || (r94 != (0 : Int))))) && ((decide ((l83.length : Int) > (0 : Int)))))) (p_mv rfl (hg := fun e => rfl)) (gcT rfl) rfl ?_
                refine TL.p (C := cx) (gc := ((!(((((r93 != (0 : Int)) || (decide (r85.1 > (wr ((wr ((3 : Int) * (l83.length : Int))) + fails3))))) || (decide (r85.1 < (0 : Int)))) || (r94 != (0 : Int))))) && ((decide ((l83.length : Int) > (0 : Int)))))) (p_eql rfl rfl (hg := fun e => ⟨e, rfl⟩)) (gcT rfl) rfl ?_
                refine TL.p (C := cx) (gc := (!(((((r93 != (0 : Int)) || (decide (r85.1 > (wr ((wr ((3 : Int) * (l83.length : Int))) + fails3))))) || (decide (r85.1 < (0 : Int)))) || (r94 != (0 : Int)))))) (p_and rfl rfl (fun e => ⟨e, fun h => (and_i e h)⟩)) (gcF1 rfl) rfl ?_
                refine TL.p (C := cx) (gc := true) (p_or rfl rfl (fun e => ⟨rfl, fun h => (not_t h)⟩)) rfl rfl ?_
                refine TL.nil ?_
                refine hK92 _ _ ?_
                refine TK.cond (b := (((((r93 != (0 : Int)) || (decide (r85.1 > (wr ((wr ((3 : Int) * (l83.length : Int))) + fails3))))) || (decide (r85.1 < (0 : Int)))) || (r94 != (0 : Int))) || ((decide ((l83.length : Int) > (0 : Int))) && (r85.1 == (0 : Int))))) rfl (fun hc => ?_) (fun hc => ?_)
                · have hX := ite_t hc hX
                  refine TK.seq_k fun K95 hK95 => ?_
                  refine TK.reg ?_
                  refine TL.p (C := cx) (gc := true) (p_mv rfl) rfl rfl ?_
                  refine TL.nil ?_
                  refine hK95 _ _ ?_
                  refine TK.ret ?_
                  obtain rfl := hR40 _ (some_in hX).symm
                  replace hX := hA40
                  try dsimp only [thenQ]
                  exact ret1 (v := Enc.v (false : Bool)) rfl (by obtain rfl := some_in hX; rfl) (v_val _)
                · have hX := ite_f hc hX
                  refine TK.skip ?_
                  refine hK57 _ _ ?_
                  refine TK.reg ?_
                  refine TL.p (C := cx) (gc := true) (p_mv rfl) rfl rfl ?_
                  refine TL.p (C := cx) (gc := true) (p_add rfl rfl) rfl rfl ?_
                  refine TL.p (C := cx) (gc := true) (p_mv rfl) rfl rfl ?_
                  refine TL.nil ?_
                  exact ⟨_, (some_in hX).symm, b88, b87, b89, b90, pre91, b76, rfl, (Nd.pick nd (is := [2, 1, 3, 4, 0]) (by decide)), (HSub.pick nd (is := [2, 1, 3, 4, 0]) (by decide))⟩
              refine TK.iter [0, 2, 3, 12, 14, 15, 16] (fun s env h => match s with | (ask74, k75) => ∃ b69 b68 b70 b71 pre72 b67 b73, env = [(0, true, Enc.v (n1 : Int)), (2, true, Enc.v (fails3 : Int)), (3, true, Enc.v (rows4 : (List (List Int)))), (12, true, .ref b67 0 5), (14, true, Enc.v (i53 : Int)), (15, true, OL (α := Int) b73 ask74), (16, true, Enc.v (k75 : Int))] ∧ Nd [(b69, RL (α := Int) 3 l45), (b68, RV 127 [Enc.v (c43 : (List Int)), OL (α := Int) b69 l45]), (b70, RL (α := Int) 3 l49), (b71, RL (α := Int) 3 (pre72 ++ l52)), (b67, RV 109 [.ref b68 0 2, Enc.v (c46 : Int), Enc.v (c47 : (List Int)), OL (α := Int) b70 l49, OQ (α := Int) b71 pre72 l52]), (b73, RL (α := Int) 3 ask74)] ∧ HSub [(b69, RL (α := Int) 3 l45), (b68, RV 127 [Enc.v (c43 : (List Int)), OL (α := Int) b69 l45]), (b70, RL (α := Int) 3 l49), (b71, RL (α := Int) 3 (pre72 ++ l52)), (b67, RV 109 [.ref b68 0 2, Enc.v (c46 : Int), Enc.v (c47 : (List Int)), OL (α := Int) b70 l49, OQ (α := Int) b71 pre72 l52]), (b73, RL (α := Int) 3 ask74)] h) hO66 ⟨b44, b42, b48, b50, pre51, b41, b63, rfl, (Nd.pick nd (is := [1, 2, 3, 4, 5, 0]) (by decide)), (HSub.pick nd (is := [1, 2, 3, 4, 5, 0]) (by decide))⟩ ?_
              rintro ⟨ask74, k75⟩ env h x66x ⟨b69, b68, b70, b71, pre72, b67, b73, rfl, nd, hs⟩ hX hR66
              refine TK.subH hs ?_
              unfold X.cartridgelaw24_RobotBound_s66 at hX
              try dsimp only at hX
              refine TK.seq_k fun K96 hK96 => ?_
              refine TK.seq_k fun K97 hK97 => ?_
              refine TK.reg ?_
              refine TL.p (C := cx) (gc := true) (p_mv rfl) rfl rfl ?_
              refine TL.p (C := cx) (gc := true) (p_mv rfl) rfl rfl ?_
              refine TL.p (C := cx) (gc := true) (p_mv rfl) rfl rfl ?_
              obtain ⟨e98, he98, hX⟩ := bind_some hX
              refine TL.p (C := cx) (gc := true) (p_iaL (xs := rows4) kd63 ty46 rfl rfl rfl (fun _ => he98)) rfl rfl ?_
              refine TL.p (C := cx) (gc := true) (p_ldE (xs := rows4) (a := e98) (e98 : (List Int)) ty46 rfl rfl (fun _ => he98) rfl rfl rfl) rfl rfl ?_
              refine TL.p (C := cx) (gc := true) (p_lenL (xs := e98) kd46 rfl) rfl rfl ?_
              refine TL.p (C := cx) (gc := true) (p_lss rfl rfl) rfl rfl ?_
              refine TL.nil ?_
              refine hK97 _ _ ?_
              refine TK.cond (b := (decide (k75 < (e98.length : Int)))) rfl (fun hc => ?_) (fun hc => ?_)
              · have hX := ite_t hc hX
                refine TK.skip ?_
                refine hK96 _ _ ?_
                refine TK.seq_k fun K99 hK99 => ?_
                refine TK.block ?_
                refine TK.reg ?_
                refine TL.p (C := cx) (gc := true) (p_mv rfl) rfl rfl ?_
                refine TL.p (C := cx) (gc := true) (p_mv rfl) rfl rfl ?_
                refine TL.p (C := cx) (gc := true) (p_mv rfl) rfl rfl ?_
                obtain ⟨e100, he100, hX⟩ := bind_some hX
                refine TL.p (C := cx) (gc := true) (p_iaL (xs := rows4) kd63 ty46 rfl rfl rfl (fun _ => he100)) rfl rfl ?_
                refine TL.p (C := cx) (gc := true) (p_ldE (xs := rows4) (a := e100) (e100 : (List Int)) ty46 rfl rfl (fun _ => he100) rfl rfl rfl) rfl rfl ?_
                refine TL.p (C := cx) (gc := true) (p_mv rfl) rfl rfl ?_
                obtain ⟨e101, he101, hX⟩ := bind_some hX
                refine TL.p (C := cx) (gc := true) (p_iaL (xs := e100) kd46 ty3 rfl rfl rfl (fun _ => he101)) rfl rfl ?_
                refine TL.p (C := cx) (gc := true) (p_ldE (xs := e100) (a := e101) (e101 : Int) ty3 rfl rfl (fun _ => he101) rfl rfl rfl) rfl rfl ?_
                refine TL.p (C := cx) (gc := true) (p_and64 rfl rfl) rfl rfl ?_
                refine TL.p (C := cx) (gc := true) (p_mv rfl) rfl rfl ?_
                obtain ⟨u102, hu102, hX⟩ := bind_some hX
                refine TL.p (C := cx) (gc := true) (p_rem rfl rfl (fun _ => need_t hu102)) rfl rfl ?_
                refine TL.p (C := cx) (gc := true) (p_add rfl rfl) rfl rfl ?_
                refine TL.lit (C := cx) ([(wr ((1 : Int) + ((and64 e101 (1023 : Int)).tmod n1)))] : List Int) kd46 ty3 rfl ⟨⟨rfl, rfl⟩, trivial⟩ rfl rfl rfl ?_
                obtain ⟨u103, hu103, hX⟩ := bind_some hX
                refine TL.appO (C := cx) nd kd46 bo46 ty3 rfl rfl (j := 5) rfl rfl (Src_L _) (by decide) (need_t hu103) rfl fun nd => ?_
                refine TL.p (C := cx) (gc := true) (p_mv rfl) rfl rfl ?_
                refine TL.nil ?_
                refine hK99 _ _ ?_
                refine TK.reg ?_
                refine TL.p (C := cx) (gc := true) (p_mv rfl) rfl rfl ?_
                refine TL.p (C := cx) (gc := true) (p_add rfl rfl) rfl rfl ?_
                refine TL.p (C := cx) (gc := true) (p_mv rfl) rfl rfl ?_
                refine TL.nil ?_
                exact ⟨_, (some_in hX).symm, b69, b68, b70, b71, pre72, b67, b73, rfl, (Nd.pick nd (is := [0, 1, 2, 3, 4, 5]) (by decide)), (HSub.pick nd (is := [0, 1, 2, 3, 4, 5]) (by decide))⟩
              · have hX := ite_f hc hX
                refine TK.exit ?_
                obtain rfl := hR66 _ (some_in hX).symm
                exact E66 ask74 _ _ ⟨b69, b68, b70, b71, pre72, b67, b73, rfl, (Nd.pick nd (is := [0, 1, 2, 3, 4, 5]) (by decide)), (HSub.pick nd (is := [0, 1, 2, 3, 4, 5]) (by decide))⟩ hA66
          · have hX := ite_f hc hX
            refine TK.exit ?_
            obtain rfl := hR40 _ (some_in hX).symm
            exact E40 _ _ ⟨(), rfl, (Nd.pick nd (is := []) (by decide)), (HSub.pick nd (is := []) (by decide))⟩ hA40
    refine TK.iter [0, 1, 2, 3, 10, 11] (fun s env h => match s with | (labels17, i18) => ∃ b16, env = [(0, true, Enc.v (n1 : Int)), (1, true, Enc.v (drives2 : Int)), (2, true, Enc.v (fails3 : Int)), (3, true, Enc.v (rows4 : (List (List Int)))), (10, true, OL (α := Int) b16 labels17), (11, true, Enc.v (i18 : Int))] ∧ Nd [(b16, RL (α := Int) 3 labels17)] ∧ HSub [(b16, RL (α := Int) 3 labels17)] h) hO15 ⟨b12, rfl, (Nd.pick nd (is := [0]) (by decide)), (HSub.pick nd (is := [0]) (by decide))⟩ ?_
    rintro ⟨labels17, i18⟩ env h x15x ⟨b16, rfl, nd, hs⟩ hX hR15
    refine TK.subH hs ?_
    unfold X.cartridgelaw24_RobotBound_s15 at hX
    try dsimp only at hX
    refine TK.seq_k fun K104 hK104 => ?_
    refine TK.seq_k fun K105 hK105 => ?_
    refine TK.reg ?_
    refine TL.p (C := cx) (gc := true) (p_mv rfl) rfl rfl ?_
    refine TL.p (C := cx) (gc := true) (p_mv rfl) rfl rfl ?_
    refine TL.p (C := cx) (gc := true) (p_lss rfl rfl) rfl rfl ?_
    refine TL.nil ?_
    refine hK105 _ _ ?_
    refine TK.cond (b := (decide (i18 < n1))) rfl (fun hc => ?_) (fun hc => ?_)
    · have hX := ite_t hc hX
      refine TK.skip ?_
      refine hK104 _ _ ?_
      refine TK.seq_k fun K106 hK106 => ?_
      refine TK.block ?_
      refine TK.reg ?_
      refine TL.p (C := cx) (gc := true) (p_mv rfl) rfl rfl ?_
      refine TL.p (C := cx) (gc := true) (p_mv rfl) rfl rfl ?_
      refine TL.p (C := cx) (gc := true) (p_add rfl rfl) rfl rfl ?_
      refine TL.lit (C := cx) ([(wr (i18 + (1 : Int)))] : List Int) kd46 ty3 rfl ⟨⟨rfl, rfl⟩, trivial⟩ rfl rfl rfl ?_
      obtain ⟨u107, hu107, hX⟩ := bind_some hX
      refine TL.appO (C := cx) nd kd46 bo46 ty3 rfl rfl (j := 0) rfl rfl (Src_L _) (by decide) (need_t hu107) rfl fun nd => ?_
      refine TL.p (C := cx) (gc := true) (p_mv rfl) rfl rfl ?_
      refine TL.nil ?_
      refine hK106 _ _ ?_
      refine TK.reg ?_
      refine TL.p (C := cx) (gc := true) (p_mv rfl) rfl rfl ?_
      refine TL.p (C := cx) (gc := true) (p_add rfl rfl) rfl rfl ?_
      refine TL.p (C := cx) (gc := true) (p_mv rfl) rfl rfl ?_
      refine TL.nil ?_
      exact ⟨_, (some_in hX).symm, b16, rfl, (Nd.pick nd (is := [0]) (by decide)), (HSub.pick nd (is := [0]) (by decide))⟩
    · have hX := ite_f hc hX
      refine TK.exit ?_
      obtain rfl := hR15 _ (some_in hX).symm
      exact E15 labels17 _ _ ⟨b16, rfl, (Nd.pick nd (is := [0]) (by decide)), (HSub.pick nd (is := [0]) (by decide))⟩ hA15

end Go.Proofs.Ytgkbjnhpmlfgdaa
