import Derived.Test.YtpipaggkbiapjaaDoorXFn
import Derived.Test.YtpipaggkbiapjaaDoorXS
import Derived.Test.YtpipaggkbiapjaaDoorAmK0
import Derived.Test.YtpipaggkbiapjaaDoorSh
import Derived.Test.YtpipaggkbiapjaaDoorXP0
/- That they do. -/
namespace Go.Proofs.YtpipaggkbiapjaaDoor
open Go.AM Go.AX
set_option linter.unusedVariables false
set_option maxRecDepth 20000

/-- cartridge/cartridgeref10.ReadSeal -/
theorem bc29 : BodyC cx 29 51 [.c 2 45, .t 3] k29 := ⟨Enters.of Tryd.func29 (by kernel_rfl) (by kernel_rfl), _, _, Tryd.func29, rfl, by kernel_rfl, rfl, rfl⟩
theorem ok_cartridgeref10_ReadSeal (b1 : (List UInt8)) (r : (Seal_api × Int)) (hX : X.cartridgeref10_ReadSeal b1 = some r) : Fun Tryd.prog 29 [Enc.v (b1 : (List UInt8))] (· = .tup 2 (ofL [Enc.v r.1, Enc.v r.2])) := by
  refine Fun.ofC (C := cx) bc29 (Nat.le_of_ble_eq_true rfl) (allVal.mem ⟨(by exact (v_val _)), trivial⟩) ?_
  unfold k29
  have nd : Nd [] := Nd_nil
  unfold X.cartridgeref10_ReadSeal at hX
  refine TK.seq_k fun K2 hK2 => ?_
  refine TK.reg ?_
  refine TL.alO (C := cx) (l := [Enc.v ((0 : Int) : Int), Enc.v ((0 : Int) : Int), Enc.v ((0 : Int) : Int), Enc.v ((0 : Int) : Int), .nils]) nd ty45 ti45_z rfl rfl fun b3 nd => ?_
  refine TL.p (C := cx) (gc := true) (p_mv rfl) rfl rfl ?_
  refine TL.nil ?_
  refine hK2 _ _ ?_
  refine TK.ownC (α := Int) nd (j := 0) rfl 4 3 (.inl rfl) fun b4 nd => ?_
  refine TK.seq_k fun K5 hK5 => ?_
  refine TK.reg ?_
  refine TL.p (C := cx) (gc := true) (p_mv rfl) rfl rfl ?_
  obtain ⟨r6, hr6, hX⟩ := bind_some hX
  refine TL.tcX [] [(b4, RL (α := Int) 3 ([] : List Int)), (b3, RV 45 [Enc.v ((0 : Int) : Int), Enc.v ((0 : Int) : Int), Enc.v ((0 : Int) : Int), Enc.v ((0 : Int) : Int), OL (α := Int) b4 ([] : List Int)])] rfl nd (dlt rfl) rfl ⟨rfl, ⟨rfl, trivial⟩⟩ (ok_cartridgeref1_NewReader b1 (Nd.take nd 0 rfl) _ hr6) ?_
  rintro _ _ hQ nd
  obtain ⟨b7, rfl, rfl⟩ := hQ
  refine TL.p (C := cx) (gc := true) (p_mv rfl) rfl rfl ?_
  refine TL.nil ?_
  refine hK5 _ _ ?_
  refine TK.seq_k fun K8 hK8 => ?_
  refine TK.reg ?_
  refine TL.p (C := cx) (gc := true) (p_mv rfl) rfl rfl ?_
  obtain ⟨r9, hr9, hX⟩ := bind_some hX
  refine TL.tcX [(b7, RV 90 [Enc.v (r6.1 : (List UInt8)), Enc.v (r6.2 : Bool)])] [(b4, RL (α := Int) 3 ([] : List Int)), (b3, RV 45 [Enc.v ((0 : Int) : Int), Enc.v ((0 : Int) : Int), Enc.v ((0 : Int) : Int), Enc.v ((0 : Int) : Int), OL (α := Int) b4 ([] : List Int)])] rfl nd (dlt rfl) rfl ⟨rfl, ⟨rfl, trivial⟩⟩ (ok_cartridgeref1_Reader_Int r6.1 r6.2 b7 (Nd.take nd 1 rfl) _ hr9) ?_
  rintro _ _ hQ nd
  obtain ⟨rfl, rfl⟩ := hQ
  refine TL.p (C := cx) (gc := true) (p_mv rfl) rfl rfl ?_
  obtain ⟨r11, hr11, hX⟩ := bind_some hX
  refine TL.tcX [(b7, RV 90 [Enc.v (r9.2.1 : (List UInt8)), Enc.v (r9.2.2 : Bool)])] [(b4, RL (α := Int) 3 ([] : List Int)), (b3, RV 45 [Enc.v ((0 : Int) : Int), Enc.v ((0 : Int) : Int), Enc.v ((0 : Int) : Int), Enc.v ((0 : Int) : Int), OL (α := Int) b4 ([] : List Int)])] rfl nd (dlt rfl) rfl ⟨rfl, ⟨rfl, trivial⟩⟩ (ok_cartridgeref1_Reader_Byte r9.2.1 r9.2.2 b7 (Nd.take nd 1 rfl) _ hr11) ?_
  rintro _ _ hQ nd
  obtain ⟨rfl, rfl⟩ := hQ
  refine TL.p (C := cx) (gc := true) (p_cvt src5 kd3 rfl (cv_8 r11.1)) rfl rfl ?_
  refine TL.p (C := cx) (gc := true) (p_mv rfl) rfl rfl ?_
  obtain ⟨r13, hr13, hX⟩ := bind_some hX
  refine TL.tcX [(b7, RV 90 [Enc.v (r11.2.1 : (List UInt8)), Enc.v (r11.2.2 : Bool)])] [(b4, RL (α := Int) 3 ([] : List Int)), (b3, RV 45 [Enc.v ((0 : Int) : Int), Enc.v ((0 : Int) : Int), Enc.v ((0 : Int) : Int), Enc.v ((0 : Int) : Int), OL (α := Int) b4 ([] : List Int)])] rfl nd (dlt rfl) rfl ⟨rfl, ⟨rfl, trivial⟩⟩ (ok_cartridgeref1_Reader_Byte r11.2.1 r11.2.2 b7 (Nd.take nd 1 rfl) _ hr13) ?_
  rintro _ _ hQ nd
  obtain ⟨rfl, rfl⟩ := hQ
  refine TL.p (C := cx) (gc := true) (p_cvt src5 kd3 rfl (cv_8 r13.1)) rfl rfl ?_
  refine TL.p (C := cx) (gc := true) (p_mv rfl) rfl rfl ?_
  obtain ⟨r15, hr15, hX⟩ := bind_some hX
  refine TL.tcX [(b7, RV 90 [Enc.v (r13.2.1 : (List UInt8)), Enc.v (r13.2.2 : Bool)])] [(b4, RL (α := Int) 3 ([] : List Int)), (b3, RV 45 [Enc.v ((0 : Int) : Int), Enc.v ((0 : Int) : Int), Enc.v ((0 : Int) : Int), Enc.v ((0 : Int) : Int), OL (α := Int) b4 ([] : List Int)])] rfl nd (dlt rfl) rfl ⟨rfl, ⟨rfl, trivial⟩⟩ (ok_cartridgeref1_Reader_Byte r13.2.1 r13.2.2 b7 (Nd.take nd 1 rfl) _ hr15) ?_
  rintro _ _ hQ nd
  obtain ⟨rfl, rfl⟩ := hQ
  refine TL.p (C := cx) (gc := true) (p_cvt src5 kd3 rfl (cv_8 r15.1)) rfl rfl ?_
  refine TL.p (C := cx) (gc := true) (p_bld (l := [Enc.v (r9.1 : Int), Enc.v ((r11.1.toNat : Int) : Int), Enc.v ((r13.1.toNat : Int) : Int), Enc.v ((r15.1.toNat : Int) : Int), .nils]) ty45 rfl all45 rfl (fun _ => ⟨⟨rfl, trivial, rfl⟩, ⟨rfl, trivial, rfl⟩, ⟨rfl, trivial, rfl⟩, ⟨rfl, trivial, rfl⟩, trivial⟩)) rfl rfl ?_
  refine TL.alO (C := cx) (l := [Enc.v ((0 : Int) : Int), Enc.v ((0 : Int) : Int), Enc.v ((0 : Int) : Int), Enc.v ((0 : Int) : Int), .nils]) nd ty45 ti45_z rfl rfl fun b17 nd => ?_
  refine TL.stV (C := cx) (lu := [Enc.v (r9.1 : Int), Enc.v ((r11.1.toNat : Int) : Int), Enc.v ((r13.1.toNat : Int) : Int), Enc.v ((r15.1.toNat : Int) : Int), .nils]) nd ty45 rfl (j := 0) rfl rfl rfl (Cells_agg rfl (allA.mem ⟨trivial, trivial, trivial, trivial, trivial, trivial⟩)) rfl rfl [Enc.v (r9.1 : Int), Enc.v ((r11.1.toNat : Int) : Int), Enc.v ((r13.1.toNat : Int) : Int), Enc.v ((r15.1.toNat : Int) : Int), .nils] rfl fun nd => ?_
  refine TL.nil ?_
  refine hK8 _ _ ?_
  refine TK.ownC (α := Int) nd (j := 0) rfl 4 3 (.inl rfl) fun b18 nd => ?_
  refine TK.seq_k fun K19 hK19 => ?_
  refine TK.block ?_
  obtain ⟨o20, hO20, hA20⟩ := bind_some hX
  have E20 : ∀ (c36 : Int) (c37 : Int) (c38 : Int) (c39 : Int) (l41 : List Int) (env : Env) (h : Hp), (∃ b34 b33 b40 b35, keepE [0, 2, 5] env = [(0, true, Enc.v (b1 : (List UInt8))), (2, true, .ref b33 0 5), (5, true, .ref b35 0 5)] ∧ Nd [(b34, RL (α := Int) 3 ([] : List Int)), (b33, RV 45 [Enc.v ((0 : Int) : Int), Enc.v ((0 : Int) : Int), Enc.v ((0 : Int) : Int), Enc.v ((0 : Int) : Int), OL (α := Int) b34 ([] : List Int)]), (b40, RL (α := Int) 3 l41), (b35, RV 45 [Enc.v (c36 : Int), Enc.v (c37 : Int), Enc.v (c38 : Int), Enc.v (c39 : Int), OL (α := Int) b40 l41])] ∧ HSub [(b34, RL (α := Int) 3 ([] : List Int)), (b33, RV 45 [Enc.v ((0 : Int) : Int), Enc.v ((0 : Int) : Int), Enc.v ((0 : Int) : Int), Enc.v ((0 : Int) : Int), OL (α := Int) b34 ([] : List Int)]), (b40, RL (α := Int) 3 l41), (b35, RV 45 [Enc.v (c36 : Int), Enc.v (c37 : Int), Enc.v (c38 : Int), Enc.v (c39 : Int), OL (α := Int) b40 l41])] h) → X.cartridgeref10_ReadSeal_e20 b1 c36 c37 c38 c39 l41 = some r → K19 env h := by
    intro c36 c37 c38 c39 l41 env h hE hX
    obtain ⟨b34, b33, b40, b35, henv, nd, hs⟩ := hE
    unfold X.cartridgeref10_ReadSeal_e20 at hX
    refine hK19 _ _ (TK.keep [0, 2, 5] ?_)
    rw [henv]
    refine TK.subH hs ?_
    refine TK.seq_k fun K42 hK42 => ?_
    refine TK.reg ?_
    refine TL.layR (l2' := [Enc.v (c36 : Int), Enc.v (c37 : Int), Enc.v (c38 : Int), Enc.v (c39 : Int), Enc.v (l41 : (List Int))]) [] nd (j := 2) rfl 3 rfl rfl ⟨fix_id _, fix_id _, fix_id _, fix_id _, fix_OL nd (j := 2) rfl, trivial⟩ trivial fun nd => ?_
    refine TL.p (C := cx) (gc := true) (p_ldVa (l' := Enc.cl ((Seal_api.mk c36 c37 c38 c39 l41) : Seal_api)) ty45 rfl rfl nd (j := 2) rfl rfl rfl rfl (Nat.le_of_ble_eq_true rfl)) rfl rfl ?_
    obtain ⟨r43, hr43, hX⟩ := bind_some hX
    refine TL.cvX rfl rfl rfl (fun _ => ⟨rfl, ⟨rfl, trivial⟩⟩) (fun e => ok_cartridgeref10_SealBytes (Seal_api.mk c36 c37 c38 c39 l41) _ hr43) ?_
    refine TL.p (C := cx) (gc := true) (p_mv rfl) rfl rfl ?_
    refine TL.nil ?_
    refine hK42 _ _ ?_
    refine TK.seq_k fun K44 hK44 => ?_
    refine TK.seq_k fun K45 hK45 => ?_
    refine TK.reg ?_
    refine TL.p (C := cx) (gc := true) (p_mv rfl) rfl rfl ?_
    refine TL.p (C := cx) (gc := true) (p_lenL (xs := r43) kd32 rfl) rfl rfl ?_
    refine TL.p (C := cx) (gc := true) (p_eql rfl rfl) rfl rfl ?_
    refine TL.p (C := cx) (gc := true) (p_mv rfl) rfl rfl ?_
    refine TL.p (C := cx) (gc := (!(((r43.length : Int) == (0 : Int))))) (p_mv rfl (hg := fun e => rfl)) (gcF1 rfl) rfl ?_
    refine TL.ofV (gc := (!(((r43.length : Int) == (0 : Int))))) (vok_cvtBS (C := cx) (gc := (!(((r43.length : Int) == (0 : Int))))) (xs := r43) kd32 kd5 kd9 rfl (look_v (v := Enc.v (r43 : (List UInt8))) (v_val _)) (hg := fun e => e)) (gcF1 rfl) rfl ?_
    refine TL.p (C := cx) (gc := (!(((r43.length : Int) == (0 : Int))))) (p_mv rfl (hg := fun e => rfl)) (gcF1 rfl) rfl ?_
    refine TL.ofV (gc := (!(((r43.length : Int) == (0 : Int))))) (vok_cvtBS (C := cx) (gc := (!(((r43.length : Int) == (0 : Int))))) (xs := b1) kd32 kd5 kd9 rfl (look_v (v := Enc.v (b1 : (List UInt8))) (v_val _)) (hg := fun e => e)) (gcF1 rfl) rfl ?_
    refine TL.p (C := cx) (gc := (!(((r43.length : Int) == (0 : Int))))) (ps_neq (s := (Str.mk r43)) (r := (Str.mk b1)) rfl rfl (hg := fun e => ⟨e, e⟩)) (gcF1 rfl) rfl ?_
    refine TL.p (C := cx) (gc := true) (p_or rfl rfl (fun e => ⟨rfl, fun h => (not_t h)⟩)) rfl rfl ?_
    refine TL.nil ?_
    refine hK45 _ _ ?_
    refine TK.cond (b := (((r43.length : Int) == (0 : Int)) || (!((Str.mk r43).l == (Str.mk b1).l)))) rfl (fun hc => ?_) (fun hc => ?_)
    · have hX := ite_t hc hX
      refine TK.seq_k fun K46 hK46 => ?_
      refine TK.reg ?_
      refine TL.p (C := cx) (gc := true) (p_bld (l := [Enc.v ((0 : Int) : Int), Enc.v ((0 : Int) : Int), Enc.v ((0 : Int) : Int), Enc.v ((0 : Int) : Int), .nils]) ty45 rfl all45 rfl (fun _ => trivial)) rfl rfl ?_
      refine TL.stV (C := cx) (lu := [Enc.v ((0 : Int) : Int), Enc.v ((0 : Int) : Int), Enc.v ((0 : Int) : Int), Enc.v ((0 : Int) : Int), .nils]) nd ty45 rfl (j := 1) rfl rfl rfl (Cells_agg rfl (allA.mem ⟨trivial, trivial, trivial, trivial, trivial, trivial⟩)) rfl rfl [Enc.v ((0 : Int) : Int), Enc.v ((0 : Int) : Int), Enc.v ((0 : Int) : Int), Enc.v ((0 : Int) : Int), .nils] rfl fun nd => ?_
      refine TL.p (C := cx) (gc := true) (p_mv rfl) rfl rfl ?_
      refine TL.nil ?_
      refine hK46 _ _ ?_
      refine TK.ownC (α := Int) nd (j := 1) rfl 4 3 (.inl rfl) fun b47 nd => ?_
      refine TK.layR (l2' := [Enc.v ((0 : Int) : Int), Enc.v ((0 : Int) : Int), Enc.v ((0 : Int) : Int), Enc.v ((0 : Int) : Int), Enc.v (([] : List Int) : (List Int))]) [] nd (j := 0) rfl 2 rfl rfl ⟨fix_id _, fix_id _, fix_id _, fix_id _, fix_OL nd (j := 0) rfl, trivial⟩ trivial fun nd => ?_
      refine TK.ret ?_
      try dsimp only [thenQ]
      exact retC [Enc.v ((Seal_api.mk (0 : Int) (0 : Int) (0 : Int) (0 : Int) ([] : List Int)) : Seal_api), Enc.v ((2 : Int) : Int)] ⟨p_ldVa (l' := Enc.cl ((Seal_api.mk (0 : Int) (0 : Int) (0 : Int) (0 : Int) ([] : List Int)) : Seal_api)) ty45 rfl rfl nd (j := 1) rfl rfl rfl rfl (Nat.le_of_ble_eq_true rfl), p_mv rfl, trivial⟩ (by obtain rfl := some_in hX; rfl) (tup_val (allVal.mem ⟨v_val _, v_val _, trivial⟩))
    · have hX := ite_f hc hX
      refine TK.skip ?_
      refine hK44 _ _ ?_
      refine TK.seq_k fun K48 hK48 => ?_
      refine TK.reg ?_
      refine TL.p (C := cx) (gc := true) (p_ldVa (l' := Enc.cl ((Seal_api.mk c36 c37 c38 c39 l41) : Seal_api)) ty45 rfl rfl nd (j := 2) rfl rfl rfl rfl (Nat.le_of_ble_eq_true rfl)) rfl rfl ?_
      refine TL.stV (C := cx) (lu := Enc.cl ((Seal_api.mk c36 c37 c38 c39 l41) : Seal_api)) nd ty45 rfl (j := 1) rfl rfl rfl (Cells_v ((Seal_api.mk c36 c37 c38 c39 l41) : Seal_api)) rfl rfl [Enc.v ((Seal_api.mk c36 c37 c38 c39 l41).Number : Int), Enc.v ((Seal_api.mk c36 c37 c38 c39 l41).Index : Int), Enc.v ((Seal_api.mk c36 c37 c38 c39 l41).Data : Int), Enc.v ((Seal_api.mk c36 c37 c38 c39 l41).Parity : Int), Enc.v ((Seal_api.mk c36 c37 c38 c39 l41).Labels : (List Int))] rfl fun nd => ?_
      refine TL.p (C := cx) (gc := true) (p_mv rfl) rfl rfl ?_
      refine TL.nil ?_
      refine hK48 _ _ ?_
      refine TK.ret ?_
      try dsimp only [thenQ]
      exact retC [Enc.v ((Seal_api.mk c36 c37 c38 c39 l41) : Seal_api), Enc.v ((0 : Int) : Int)] ⟨p_ldVa (l' := Enc.cl ((Seal_api.mk c36 c37 c38 c39 l41) : Seal_api)) ty45 rfl rfl nd (j := 1) rfl rfl rfl rfl (Nat.le_of_ble_eq_true rfl), p_mv rfl, trivial⟩ (by obtain rfl := some_in hX; rfl) (tup_val (allVal.mem ⟨v_val _, v_val _, trivial⟩))
  refine TK.iter [0, 2, 4, 5] (fun s env h => match s with | (c24, c25, c27, c28, c29, c30, l32) => ∃ b22 b21 b23 b31 b26, env = [(0, true, Enc.v (b1 : (List UInt8))), (2, true, .ref b21 0 5), (4, true, .ref b23 0 2), (5, true, .ref b26 0 5)] ∧ Nd [(b22, RL (α := Int) 3 ([] : List Int)), (b21, RV 45 [Enc.v ((0 : Int) : Int), Enc.v ((0 : Int) : Int), Enc.v ((0 : Int) : Int), Enc.v ((0 : Int) : Int), OL (α := Int) b22 ([] : List Int)]), (b23, RV 90 [Enc.v (c24 : (List UInt8)), Enc.v (c25 : Bool)]), (b31, RL (α := Int) 3 l32), (b26, RV 45 [Enc.v (c27 : Int), Enc.v (c28 : Int), Enc.v (c29 : Int), Enc.v (c30 : Int), OL (α := Int) b31 l32])] ∧ HSub [(b22, RL (α := Int) 3 ([] : List Int)), (b21, RV 45 [Enc.v ((0 : Int) : Int), Enc.v ((0 : Int) : Int), Enc.v ((0 : Int) : Int), Enc.v ((0 : Int) : Int), OL (α := Int) b22 ([] : List Int)]), (b23, RV 90 [Enc.v (c24 : (List UInt8)), Enc.v (c25 : Bool)]), (b31, RL (α := Int) 3 l32), (b26, RV 45 [Enc.v (c27 : Int), Enc.v (c28 : Int), Enc.v (c29 : Int), Enc.v (c30 : Int), OL (α := Int) b31 l32])] h) hO20 ⟨b4, b3, b7, b18, b17, rfl, (Nd.pick nd (is := [3, 4, 2, 0, 1]) (by decide)), (HSub.pick nd (is := [3, 4, 2, 0, 1]) (by decide))⟩ ?_
  rintro ⟨c24, c25, c27, c28, c29, c30, l32⟩ env h x20x ⟨b22, b21, b23, b31, b26, rfl, nd, hs⟩ hX hR20
  refine TK.subH hs ?_
  unfold X.cartridgeref10_ReadSeal_s20 at hX
  try dsimp only at hX
  refine TK.seq_k fun K49 hK49 => ?_
  refine TK.seq_k fun K50 hK50 => ?_
  refine TK.reg ?_
  refine TL.p (C := cx) (gc := true) (p_mv rfl) rfl rfl ?_
  obtain ⟨r51, hr51, hX⟩ := bind_some hX
  refine TL.lookX [.vref (ofL [Enc.v (c24 : (List UInt8)), Enc.v (c25 : Bool)]) 2 0] rfl rfl rfl (fun _ => ⟨rfl, ⟨rfl, trivial⟩⟩) ⟨look_ref (l := [Enc.v (c24 : (List UInt8)), Enc.v (c25 : Bool)]) nd (j := 2) rfl ⟨look_v (v := Enc.v (c24 : (List UInt8))) (v_val _), look_v (v := Enc.v (c25 : Bool)) (v_val _), trivial⟩, trivial⟩ (fun e => ok_cartridgeref1_Reader_Left c24 c25 _ hr51) (trivial) ?_
  refine TL.p (C := cx) (gc := true) (p_geq rfl rfl) rfl rfl ?_
  refine TL.p (C := cx) (gc := true) (p_mv rfl) rfl rfl ?_
  refine TL.p (C := cx) (gc := ((decide (r51 ≥ (4 : Int))))) (p_faV fs45_4 (by decide) rfl nd (j := 4) rfl rfl (hg := fun e => rfl)) (gcT1 rfl) rfl ?_
  refine TL.p (C := cx) (gc := ((decide (r51 ≥ (4 : Int))))) (p_ldV (v := OL (α := Int) b31 l32) ty43 rfl rfl nd (j := 4) rfl rfl rfl rfl rfl (hg := fun e => e)) (gcT1 rfl) rfl ?_
  refine TL.p (C := cx) (gc := ((decide (r51 ≥ (4 : Int))))) (p_lenR kd43 rfl (fun _ => refOK_of nd (j := 3) rfl rfl) (hg := fun e => e)) (gcT1 rfl) rfl ?_
  refine TL.p (C := cx) (gc := ((decide (r51 ≥ (4 : Int))))) (p_lss rfl rfl (hg := fun e => ⟨e, rfl⟩)) (gcT1 rfl) rfl ?_
  refine TL.p (C := cx) (gc := true) (p_and rfl rfl (fun e => ⟨rfl, fun h => h⟩)) rfl rfl ?_
  refine TL.nil ?_
  refine hK50 _ _ ?_
  refine TK.cond (b := ((decide (r51 ≥ (4 : Int))) && (decide ((l32.length : Int) < (14 : Int))))) rfl (fun hc => ?_) (fun hc => ?_)
  · have hX := ite_t hc hX
    refine TK.skip ?_
    refine hK49 _ _ ?_
    refine TK.block ?_
    refine TK.pick [2, 3, 0, 1, 4] nd (by decide) fun nd => ?_
    have ndS : Nd [(b22, RL (α := Int) 3 ([] : List Int)), (b21, RV 45 [Enc.v ((0 : Int) : Int), Enc.v ((0 : Int) : Int), Enc.v ((0 : Int) : Int), Enc.v ((0 : Int) : Int), OL (α := Int) b22 ([] : List Int)]), (b26, RV 45 [Enc.v (c27 : Int), Enc.v (c28 : Int), Enc.v (c29 : Int), Enc.v (c30 : Int), OL (α := Int) b31 l32])] := Nd.pick nd (is := [2, 3, 4]) (by decide)
    refine TK.drwX (h := [(b23, RV 90 [Enc.v (c24 : (List UInt8)), Enc.v (c25 : Bool)]), (b31, RL (α := Int) 3 l32)]) (hS := [(b22, RL (α := Int) 3 ([] : List Int)), (b21, RV 45 [Enc.v ((0 : Int) : Int), Enc.v ((0 : Int) : Int), Enc.v ((0 : Int) : Int), Enc.v ((0 : Int) : Int), OL (α := Int) b22 ([] : List Int)]), (b26, RV 45 [Enc.v (c27 : Int), Enc.v (c28 : Int), Enc.v (c29 : Int), Enc.v (c30 : Int), OL (α := Int) b31 l32])]) [(0, 0), (0, 1), (0, 2), (2, 3), (0, 4), (2, 5), (0, 6), (3, 7)] mixed (by kernel_rfl) (HSub_app nd) ?_
    refine DR0 (gc := true) rfl (vok_p (C := cx) (p_faV fs45_4 (by decide) rfl ndS (j := 2) rfl rfl)) rfl rfl ?_
    refine DR0 (gc := true) rfl (vok_p (C := cx) (p_ldV (v := OL (α := Int) b31 l32) ty43 rfl rfl ndS (j := 2) rfl rfl rfl rfl rfl)) rfl rfl ?_
    refine DR0 (gc := true) rfl (vok_p (C := cx) (p_mv rfl)) rfl rfl ?_
    obtain ⟨r52, hr52, hX⟩ := bind_some hX
    refine DR2 rfl rfl ?_
    refine TL.tcX [(b23, RV 90 [Enc.v (c24 : (List UInt8)), Enc.v (c25 : Bool)])] [(b31, RL (α := Int) 3 l32), (b22, RL (α := Int) 3 ([] : List Int)), (b21, RV 45 [Enc.v ((0 : Int) : Int), Enc.v ((0 : Int) : Int), Enc.v ((0 : Int) : Int), Enc.v ((0 : Int) : Int), OL (α := Int) b22 ([] : List Int)]), (b26, RV 45 [Enc.v (c27 : Int), Enc.v (c28 : Int), Enc.v (c29 : Int), Enc.v (c30 : Int), OL (α := Int) b31 l32])] rfl nd (dlt rfl) rfl ⟨rfl, ⟨rfl, trivial⟩⟩ (ok_cartridgeref1_Reader_Int c24 c25 b23 (Nd.take nd 1 rfl) _ hr52) ?_
    rintro _ _ hQ nd
    obtain ⟨rfl, rfl⟩ := hQ
    refine TL.nil ⟨_, [(b23, RV 90 [Enc.v (r52.2.1 : (List UInt8)), Enc.v (r52.2.2 : Bool)]), (b31, RL (α := Int) 3 l32)], rfl, rfl, HSub_app nd, ?_⟩
    refine DR0 (gc := true) rfl (vok_lit (C := cx) ([r52.1] : List Int) kd43 ty3 rfl ⟨⟨rfl, rfl⟩, trivial⟩ rfl rfl) rfl rfl ?_
    obtain ⟨u54, hu54, hX⟩ := bind_some hX
    refine DR2 rfl rfl ?_
    refine TL.appO (C := cx) nd kd43 bo43 ty3 rfl rfl (j := 1) rfl rfl (Src_L _) (by decide) (need_t hu54) rfl fun nd => ?_
    refine TL.nil ⟨_, [(b23, RV 90 [Enc.v (r52.2.1 : (List UInt8)), Enc.v (r52.2.2 : Bool)]), (b31, RL (α := Int) 3 (l32 ++ ([r52.1] : List Int)))], rfl, rfl, HSub_app nd, ?_⟩
    refine DR0 (gc := true) rfl (vok_p (C := cx) (p_faV fs45_4 (by decide) rfl ndS (j := 2) rfl rfl)) rfl rfl ?_
    refine DR3n rfl ?_
    refine TL.stV (C := cx) (lu := [OL (α := Int) b31 (l32 ++ ([r52.1] : List Int))]) nd ty43 rfl (j := 4) rfl rfl rfl (Cells_rs (refOK_of nd (j := 1) rfl rfl)) rfl rfl [Enc.v (c27 : Int), Enc.v (c28 : Int), Enc.v (c29 : Int), Enc.v (c30 : Int), OL (α := Int) b31 (l32 ++ ([r52.1] : List Int))] rfl fun nd => ?_
    refine TL.nil ⟨rfl, ?_⟩
    refine DRende ?_
    exact ⟨_, (some_in hX).symm, b22, b21, b23, b31, b26, rfl, (Nd.pick nd (is := [2, 3, 0, 1, 4]) (by decide)), (HSub.pick nd (is := [2, 3, 0, 1, 4]) (by decide))⟩
  · have hX := ite_f hc hX
    refine TK.exit ?_
    obtain rfl := hR20 _ (some_in hX).symm
    exact E20 c27 c28 c29 c30 l32 _ _ ⟨b22, b21, b31, b26, rfl, (Nd.pick nd (is := [0, 1, 3, 4]) (by decide)), (HSub.pick nd (is := [0, 1, 3, 4]) (by decide))⟩ hA20

/-- cartridge/cartridgeref10.SameSeal -/
theorem ok_cartridgeref10_SameSeal (a1 : Seal_api) (b2 : Seal_api) (r : Bool) (hX : X.cartridgeref10_SameSeal a1 b2 = some r) : Fun Tryd.prog 32 [Enc.v (a1 : Seal_api), Enc.v (b2 : Seal_api)] (· = Enc.v (r : Bool)) := by
  refine Fun.of b32 (Nat.le_of_ble_eq_true rfl) (allVal.mem ⟨(by exact (v_val _)), (by exact (v_val _)), trivial⟩) ?_
  unfold k32
  have nd : Nd [] := Nd_nil
  unfold X.cartridgeref10_SameSeal at hX
  refine TK.seq_k fun K3 hK3 => ?_
  refine TK.reg ?_
  refine TL.boxV (C := cx) (lu := [Enc.v (a1.Number : Int), Enc.v (a1.Index : Int), Enc.v (a1.Data : Int), Enc.v (a1.Parity : Int), Enc.v (a1.Labels : (List Int))]) nd rfl (Cells_v (a1 : Seal_api)) rfl ?_
  refine TL.boxV (C := cx) (lu := [Enc.v (b2.Number : Int), Enc.v (b2.Index : Int), Enc.v (b2.Data : Int), Enc.v (b2.Parity : Int), Enc.v (b2.Labels : (List Int))]) nd rfl (Cells_v (b2 : Seal_api)) rfl ?_
  refine TL.p (C := cx) (gc := true) (p_mv rfl) rfl rfl ?_
  refine TL.nil ?_
  refine hK3 _ _ ?_
  refine TK.seq_k fun K4 hK4 => ?_
  refine TK.seq_k fun K5 hK5 => ?_
  refine TK.reg ?_
  refine TL.p (C := cx) (gc := true) (p_faR fs45_0 (by decide) rfl) rfl rfl ?_
  refine TL.p (C := cx) (gc := true) (p_ldR (v := Enc.v (a1.Number : Int)) ty3 rfl rfl rfl rfl rfl rfl) rfl rfl ?_
  refine TL.p (C := cx) (gc := true) (p_faR fs45_0 (by decide) rfl) rfl rfl ?_
  refine TL.p (C := cx) (gc := true) (p_ldR (v := Enc.v (b2.Number : Int)) ty3 rfl rfl rfl rfl rfl rfl) rfl rfl ?_
  refine TL.p (C := cx) (gc := true) (p_neq rfl rfl) rfl rfl ?_
  refine TL.p (C := cx) (gc := true) (p_mv rfl) rfl rfl ?_
  refine TL.p (C := cx) (gc := (!((a1.Number != b2.Number)))) (p_faR fs45_1 (by decide) rfl (hg := fun e => rfl)) (gcF1 rfl) rfl ?_
  refine TL.p (C := cx) (gc := (!((a1.Number != b2.Number)))) (p_ldR (v := Enc.v (a1.Index : Int)) ty3 rfl rfl rfl rfl rfl rfl (hg := fun e => e)) (gcF1 rfl) rfl ?_
  refine TL.p (C := cx) (gc := (!((a1.Number != b2.Number)))) (p_faR fs45_1 (by decide) rfl (hg := fun e => rfl)) (gcF1 rfl) rfl ?_
  refine TL.p (C := cx) (gc := (!((a1.Number != b2.Number)))) (p_ldR (v := Enc.v (b2.Index : Int)) ty3 rfl rfl rfl rfl rfl rfl (hg := fun e => e)) (gcF1 rfl) rfl ?_
  refine TL.p (C := cx) (gc := (!((a1.Number != b2.Number)))) (p_neq rfl rfl (hg := fun e => ⟨e, e⟩)) (gcF1 rfl) rfl ?_
  refine TL.p (C := cx) (gc := true) (p_or rfl rfl (fun e => ⟨rfl, fun h => (not_t h)⟩)) rfl rfl ?_
  refine TL.p (C := cx) (gc := true) (p_mv rfl) rfl rfl ?_
  refine TL.p (C := cx) (gc := (!(((a1.Number != b2.Number) || (a1.Index != b2.Index))))) (p_faR fs45_2 (by decide) rfl (hg := fun e => rfl)) (gcF1 rfl) rfl ?_
  refine TL.p (C := cx) (gc := (!(((a1.Number != b2.Number) || (a1.Index != b2.Index))))) (p_ldR (v := Enc.v (a1.Data : Int)) ty3 rfl rfl rfl rfl rfl rfl (hg := fun e => e)) (gcF1 rfl) rfl ?_
  refine TL.p (C := cx) (gc := (!(((a1.Number != b2.Number) || (a1.Index != b2.Index))))) (p_faR fs45_2 (by decide) rfl (hg := fun e => rfl)) (gcF1 rfl) rfl ?_
  refine TL.p (C := cx) (gc := (!(((a1.Number != b2.Number) || (a1.Index != b2.Index))))) (p_ldR (v := Enc.v (b2.Data : Int)) ty3 rfl rfl rfl rfl rfl rfl (hg := fun e => e)) (gcF1 rfl) rfl ?_
  refine TL.p (C := cx) (gc := (!(((a1.Number != b2.Number) || (a1.Index != b2.Index))))) (p_neq rfl rfl (hg := fun e => ⟨e, e⟩)) (gcF1 rfl) rfl ?_
  refine TL.p (C := cx) (gc := true) (p_or rfl rfl (fun e => ⟨rfl, fun h => (not_t h)⟩)) rfl rfl ?_
  refine TL.p (C := cx) (gc := true) (p_mv rfl) rfl rfl ?_
  refine TL.p (C := cx) (gc := (!((((a1.Number != b2.Number) || (a1.Index != b2.Index)) || (a1.Data != b2.Data))))) (p_faR fs45_3 (by decide) rfl (hg := fun e => rfl)) (gcF1 rfl) rfl ?_
  refine TL.p (C := cx) (gc := (!((((a1.Number != b2.Number) || (a1.Index != b2.Index)) || (a1.Data != b2.Data))))) (p_ldR (v := Enc.v (a1.Parity : Int)) ty3 rfl rfl rfl rfl rfl rfl (hg := fun e => e)) (gcF1 rfl) rfl ?_
  refine TL.p (C := cx) (gc := (!((((a1.Number != b2.Number) || (a1.Index != b2.Index)) || (a1.Data != b2.Data))))) (p_faR fs45_3 (by decide) rfl (hg := fun e => rfl)) (gcF1 rfl) rfl ?_
  refine TL.p (C := cx) (gc := (!((((a1.Number != b2.Number) || (a1.Index != b2.Index)) || (a1.Data != b2.Data))))) (p_ldR (v := Enc.v (b2.Parity : Int)) ty3 rfl rfl rfl rfl rfl rfl (hg := fun e => e)) (gcF1 rfl) rfl ?_
  refine TL.p (C := cx) (gc := (!((((a1.Number != b2.Number) || (a1.Index != b2.Index)) || (a1.Data != b2.Data))))) (p_neq rfl rfl (hg := fun e => ⟨e, e⟩)) (gcF1 rfl) rfl ?_
  refine TL.p (C := cx) (gc := true) (p_or rfl rfl (fun e => ⟨rfl, fun h => (not_t h)⟩)) rfl rfl ?_
  refine TL.p (C := cx) (gc := true) (p_mv rfl) rfl rfl ?_
  refine TL.p (C := cx) (gc := (!(((((a1.Number != b2.Number) || (a1.Index != b2.Index)) || (a1.Data != b2.Data)) || (a1.Parity != b2.Parity))))) (p_faR fs45_4 (by decide) rfl (hg := fun e => rfl)) (gcF1 rfl) rfl ?_
  refine TL.p (C := cx) (gc := (!(((((a1.Number != b2.Number) || (a1.Index != b2.Index)) || (a1.Data != b2.Data)) || (a1.Parity != b2.Parity))))) (p_ldR (v := Enc.v (a1.Labels : (List Int))) ty43 rfl rfl rfl rfl rfl rfl (hg := fun e => e)) (gcF1 rfl) rfl ?_
  refine TL.p (C := cx) (gc := (!(((((a1.Number != b2.Number) || (a1.Index != b2.Index)) || (a1.Data != b2.Data)) || (a1.Parity != b2.Parity))))) (p_lenL (xs := a1.Labels) kd43 rfl (hg := fun e => e)) (gcF1 rfl) rfl ?_
  refine TL.p (C := cx) (gc := (!(((((a1.Number != b2.Number) || (a1.Index != b2.Index)) || (a1.Data != b2.Data)) || (a1.Parity != b2.Parity))))) (p_faR fs45_4 (by decide) rfl (hg := fun e => rfl)) (gcF1 rfl) rfl ?_
  refine TL.p (C := cx) (gc := (!(((((a1.Number != b2.Number) || (a1.Index != b2.Index)) || (a1.Data != b2.Data)) || (a1.Parity != b2.Parity))))) (p_ldR (v := Enc.v (b2.Labels : (List Int))) ty43 rfl rfl rfl rfl rfl rfl (hg := fun e => e)) (gcF1 rfl) rfl ?_
  refine TL.p (C := cx) (gc := (!(((((a1.Number != b2.Number) || (a1.Index != b2.Index)) || (a1.Data != b2.Data)) || (a1.Parity != b2.Parity))))) (p_lenL (xs := b2.Labels) kd43 rfl (hg := fun e => e)) (gcF1 rfl) rfl ?_
  refine TL.p (C := cx) (gc := (!(((((a1.Number != b2.Number) || (a1.Index != b2.Index)) || (a1.Data != b2.Data)) || (a1.Parity != b2.Parity))))) (p_neq rfl rfl (hg := fun e => ⟨e, e⟩)) (gcF1 rfl) rfl ?_
  refine TL.p (C := cx) (gc := true) (p_or rfl rfl (fun e => ⟨rfl, fun h => (not_t h)⟩)) rfl rfl ?_
  refine TL.nil ?_
  refine hK5 _ _ ?_
  refine TK.cond (b := (((((a1.Number != b2.Number) || (a1.Index != b2.Index)) || (a1.Data != b2.Data)) || (a1.Parity != b2.Parity)) || ((a1.Labels.length : Int) != (b2.Labels.length : Int)))) rfl (fun hc => ?_) (fun hc => ?_)
  · have hX := ite_t hc hX
    refine TK.seq_k fun K6 hK6 => ?_
    refine TK.reg ?_
    refine TL.p (C := cx) (gc := true) (p_mv rfl) rfl rfl ?_
    refine TL.nil ?_
    refine hK6 _ _ ?_
    refine TK.ret ?_
    try dsimp only [thenQ]
    exact ret1 (v := Enc.v (false : Bool)) rfl (by obtain rfl := some_in hX; rfl) (v_val _)
  · have hX := ite_f hc hX
    refine TK.skip ?_
    refine hK4 _ _ ?_
    refine TK.seq_k fun K7 hK7 => ?_
    refine TK.seq_k fun K8 hK8 => ?_
    refine TK.reg ?_
    refine TL.p (C := cx) (gc := true) (p_mv rfl) rfl rfl ?_
    refine TL.nil ?_
    refine hK8 _ _ ?_
    refine TK.block ?_
    obtain ⟨o9, hO9, hA9⟩ := bind_some hX
    have E9 : ∀ (env : Env) (h : Hp), (∃ _u : Unit, keepE [] env = [] ∧ Nd [] ∧ HSub [] h) → X.cartridgeref10_SameSeal_e9 = some r → K7 env h := by
      intro  env h hE hX
      obtain ⟨_u, henv, nd, hs⟩ := hE
      unfold X.cartridgeref10_SameSeal_e9 at hX
      refine hK7 _ _ (TK.keep [] ?_)
      rw [henv]
      refine TK.subH hs ?_
      refine TK.seq_k fun K11 hK11 => ?_
      refine TK.reg ?_
      refine TL.p (C := cx) (gc := true) (p_mv rfl) rfl rfl ?_
      refine TL.nil ?_
      refine hK11 _ _ ?_
      refine TK.ret ?_
      try dsimp only [thenQ]
      exact ret1 (v := Enc.v (true : Bool)) rfl (by obtain rfl := some_in hX; rfl) (v_val _)
    refine TK.iter [2, 3, 5] (fun s env h => match s with | i10 => ∃ _u : Unit, env = [(2, true, .vref (ofL [Enc.v (a1.Number : Int), Enc.v (a1.Index : Int), Enc.v (a1.Data : Int), Enc.v (a1.Parity : Int), Enc.v (a1.Labels : (List Int))]) 5 0), (3, true, .vref (ofL [Enc.v (b2.Number : Int), Enc.v (b2.Index : Int), Enc.v (b2.Data : Int), Enc.v (b2.Parity : Int), Enc.v (b2.Labels : (List Int))]) 5 0), (5, true, Enc.v (i10 : Int))] ∧ Nd [] ∧ HSub [] h) hO9 ⟨(), rfl, Nd_nil, HSub.refl _⟩ ?_
    rintro i10 env h x9x ⟨_u, rfl, nd, hs⟩ hX hR9
    refine TK.subH hs ?_
    unfold X.cartridgeref10_SameSeal_s9 at hX
    try dsimp only at hX
    refine TK.seq_k fun K12 hK12 => ?_
    refine TK.seq_k fun K13 hK13 => ?_
    refine TK.reg ?_
    refine TL.p (C := cx) (gc := true) (p_mv rfl) rfl rfl ?_
    refine TL.p (C := cx) (gc := true) (p_faR fs45_4 (by decide) rfl) rfl rfl ?_
    refine TL.p (C := cx) (gc := true) (p_ldR (v := Enc.v (a1.Labels : (List Int))) ty43 rfl rfl rfl rfl rfl rfl) rfl rfl ?_
    refine TL.p (C := cx) (gc := true) (p_lenL (xs := a1.Labels) kd43 rfl) rfl rfl ?_
    refine TL.p (C := cx) (gc := true) (p_lss rfl rfl) rfl rfl ?_
    refine TL.nil ?_
    refine hK13 _ _ ?_
    refine TK.cond (b := (decide (i10 < (a1.Labels.length : Int)))) rfl (fun hc => ?_) (fun hc => ?_)
    · have hX := ite_t hc hX
      refine TK.skip ?_
      refine hK12 _ _ ?_
      refine TK.seq_k fun K14 hK14 => ?_
      refine TK.block ?_
      refine TK.seq_k fun K15 hK15 => ?_
      have ndS : Nd [] := Nd.pick nd (is := []) (by decide)
      refine TK.drwX (h := []) (hS := []) [(0, 0), (0, 1), (0, 2), (0, 3), (0, 4), (0, 5), (0, 6), (0, 7), (0, 8), (0, 9), (0, 10)] mixed (by kernel_rfl) (HSub_app nd) ?_
      refine DR0 (gc := true) rfl (vok_p (C := cx) (p_faR fs45_4 (by decide) rfl)) rfl rfl ?_
      refine DR0 (gc := true) rfl (vok_p (C := cx) (p_ldR (v := Enc.v (a1.Labels : (List Int))) ty43 rfl rfl rfl rfl rfl rfl)) rfl rfl ?_
      refine DR0 (gc := true) rfl (vok_p (C := cx) (p_mv rfl)) rfl rfl ?_
      obtain ⟨e16, he16, hX⟩ := bind_some hX
      refine DR0 (gc := true) rfl (vok_p (C := cx) (p_iaL (xs := a1.Labels) kd43 ty3 rfl rfl rfl (fun _ => he16))) rfl rfl ?_
      refine DR0 (gc := true) rfl (vok_p (C := cx) (p_ldE (xs := a1.Labels) (a := e16) (e16 : Int) ty3 rfl rfl (fun _ => he16) rfl rfl rfl)) rfl rfl ?_
      refine DR0 (gc := true) rfl (vok_p (C := cx) (p_faR fs45_4 (by decide) rfl)) rfl rfl ?_
      refine DR0 (gc := true) rfl (vok_p (C := cx) (p_ldR (v := Enc.v (b2.Labels : (List Int))) ty43 rfl rfl rfl rfl rfl rfl)) rfl rfl ?_
      refine DR0 (gc := true) rfl (vok_p (C := cx) (p_mv rfl)) rfl rfl ?_
      obtain ⟨e17, he17, hX⟩ := bind_some hX
      refine DR0 (gc := true) rfl (vok_p (C := cx) (p_iaL (xs := b2.Labels) kd43 ty3 rfl rfl rfl (fun _ => he17))) rfl rfl ?_
      refine DR0 (gc := true) rfl (vok_p (C := cx) (p_ldE (xs := b2.Labels) (a := e17) (e17 : Int) ty3 rfl rfl (fun _ => he17) rfl rfl rfl)) rfl rfl ?_
      refine DR0 (gc := true) rfl (vok_p (C := cx) (p_neq rfl rfl)) rfl rfl ?_
      refine DRend ?_
      refine hK15 _ _ ?_
      refine TK.cond (b := (e16 != e17)) rfl (fun hc => ?_) (fun hc => ?_)
      · have hX := ite_t hc hX
        refine TK.seq_k fun K18 hK18 => ?_
        refine TK.reg ?_
        refine TL.p (C := cx) (gc := true) (p_mv rfl) rfl rfl ?_
        refine TL.nil ?_
        refine hK18 _ _ ?_
        refine TK.ret ?_
        obtain rfl := hR9 _ (some_in hX).symm
        replace hX := hA9
        try dsimp only [thenQ]
        exact ret1 (v := Enc.v (false : Bool)) rfl (by obtain rfl := some_in hX; rfl) (v_val _)
      · have hX := ite_f hc hX
        refine TK.skip ?_
        refine hK14 _ _ ?_
        refine TK.reg ?_
        refine TL.p (C := cx) (gc := true) (p_mv rfl) rfl rfl ?_
        refine TL.p (C := cx) (gc := true) (p_add rfl rfl) rfl rfl ?_
        refine TL.p (C := cx) (gc := true) (p_mv rfl) rfl rfl ?_
        refine TL.nil ?_
        exact ⟨_, (some_in hX).symm, (), rfl, Nd_nil, HSub.refl _⟩
    · have hX := ite_f hc hX
      refine TK.exit ?_
      obtain rfl := hR9 _ (some_in hX).symm
      exact E9 _ _ ⟨(), rfl, Nd_nil, HSub.refl _⟩ hA9

/-- cartridge/cartridgelaw10.RecordSeals -/
theorem ok_cartridgelaw10_RecordSeals (s1 : Seal_api) (b2 : (List UInt8)) (r : Bool) (hX : X.cartridgelaw10_RecordSeals s1 b2 = some r) : Fun Tryd.prog 8 [Enc.v (s1 : Seal_api), Enc.v (b2 : (List UInt8))] (· = Enc.v (r : Bool)) := by
  refine Fun.of b8 (Nat.le_of_ble_eq_true rfl) (allVal.mem ⟨(by exact (v_val _)), (by exact (v_val _)), trivial⟩) ?_
  unfold k8
  have nd : Nd [] := Nd_nil
  unfold X.cartridgelaw10_RecordSeals at hX
  refine TK.seq_k fun K3 hK3 => ?_
  refine TK.reg ?_
  refine TL.boxV (C := cx) (lu := [Enc.v (s1.Number : Int), Enc.v (s1.Index : Int), Enc.v (s1.Data : Int), Enc.v (s1.Parity : Int), Enc.v (s1.Labels : (List Int))]) nd rfl (Cells_v (s1 : Seal_api)) rfl ?_
  refine TL.p (C := cx) (gc := true) (p_mv rfl) rfl rfl ?_
  refine TL.nil ?_
  refine hK3 _ _ ?_
  refine TK.seq_k fun K4 hK4 => ?_
  refine TK.reg ?_
  obtain ⟨r5, hr5, hX⟩ := bind_some hX
  refine TL.cvX rfl rfl rfl (fun _ => ⟨rfl, trivial⟩) (fun e => ok_cartridgelaw10_alive  _ hr5) ?_
  refine TL.p (C := cx) (gc := true) (p_mv rfl) rfl rfl ?_
  refine TL.nil ?_
  refine hK4 _ _ ?_
  refine TK.seq_k fun K6 hK6 => ?_
  refine TK.seq_k fun K7 hK7 => ?_
  refine TK.reg ?_
  refine TL.p (C := cx) (gc := true) (p_mv rfl) rfl rfl ?_
  refine TL.p (C := cx) (gc := true) (p_not rfl) rfl rfl ?_
  refine TL.p (C := cx) (gc := true) (p_mv rfl) rfl rfl ?_
  refine TL.p (C := cx) (gc := (!((!r5)))) (p_faR fs45_4 (by decide) rfl (hg := fun e => rfl)) (gcF1 rfl) rfl ?_
  refine TL.p (C := cx) (gc := (!((!r5)))) (p_ldR (v := Enc.v (s1.Labels : (List Int))) ty43 rfl rfl rfl rfl rfl rfl (hg := fun e => e)) (gcF1 rfl) rfl ?_
  refine TL.p (C := cx) (gc := (!((!r5)))) (p_lenL (xs := s1.Labels) kd43 rfl (hg := fun e => e)) (gcF1 rfl) rfl ?_
  refine TL.p (C := cx) (gc := (!((!r5)))) (p_gtr rfl rfl (hg := fun e => ⟨e, rfl⟩)) (gcF1 rfl) rfl ?_
  refine TL.p (C := cx) (gc := true) (p_or rfl rfl (fun e => ⟨rfl, fun h => (not_t h)⟩)) rfl rfl ?_
  refine TL.p (C := cx) (gc := true) (p_mv rfl) rfl rfl ?_
  refine TL.p (C := cx) (gc := (!(((!r5) || (decide ((s1.Labels.length : Int) > (40 : Int))))))) (p_mv rfl (hg := fun e => rfl)) (gcF1 rfl) rfl ?_
  refine TL.p (C := cx) (gc := (!(((!r5) || (decide ((s1.Labels.length : Int) > (40 : Int))))))) (p_lenL (xs := b2) kd32 rfl (hg := fun e => e)) (gcF1 rfl) rfl ?_
  refine TL.p (C := cx) (gc := (!(((!r5) || (decide ((s1.Labels.length : Int) > (40 : Int))))))) (p_gtr rfl rfl (hg := fun e => ⟨e, rfl⟩)) (gcF1 rfl) rfl ?_
  refine TL.p (C := cx) (gc := true) (p_or rfl rfl (fun e => ⟨rfl, fun h => (not_t h)⟩)) rfl rfl ?_
  refine TL.nil ?_
  refine hK7 _ _ ?_
  refine TK.cond (b := (((!r5) || (decide ((s1.Labels.length : Int) > (40 : Int)))) || (decide ((b2.length : Int) > (300 : Int))))) rfl (fun hc => ?_) (fun hc => ?_)
  · have hX := ite_t hc hX
    refine TK.seq_k fun K8 hK8 => ?_
    refine TK.reg ?_
    refine TL.p (C := cx) (gc := true) (p_mv rfl) rfl rfl ?_
    refine TL.p (C := cx) (gc := true) (p_mv rfl) rfl rfl ?_
    refine TL.nil ?_
    refine hK8 _ _ ?_
    refine TK.ret ?_
    try dsimp only [thenQ]
    exact ret1 (v := Enc.v (r5 : Bool)) rfl (by obtain rfl := some_in hX; rfl) (v_val _)
  · have hX := ite_f hc hX
    refine TK.skip ?_
    refine hK6 _ _ ?_
    refine TK.seq_k fun K9 hK9 => ?_
    refine TK.reg ?_
    refine TL.p (C := cx) (gc := true) (p_ldRa (l' := Enc.cl (s1 : Seal_api)) ty45 rfl rfl rfl rfl rfl (Nat.le_of_ble_eq_true rfl)) rfl rfl ?_
    obtain ⟨r10, hr10, hX⟩ := bind_some hX
    refine TL.cvX rfl rfl rfl (fun _ => ⟨rfl, ⟨rfl, trivial⟩⟩) (fun e => ok_cartridgeref10_RightSeal s1 _ hr10) ?_
    refine TL.p (C := cx) (gc := true) (p_mv rfl) rfl rfl ?_
    refine TL.nil ?_
    refine hK9 _ _ ?_
    refine TK.seq_k fun K11 hK11 => ?_
    refine TK.reg ?_
    refine TL.p (C := cx) (gc := true) (p_ldRa (l' := Enc.cl (s1 : Seal_api)) ty45 rfl rfl rfl rfl rfl (Nat.le_of_ble_eq_true rfl)) rfl rfl ?_
    obtain ⟨r12, hr12, hX⟩ := bind_some hX
    refine TL.cvX rfl rfl rfl (fun _ => ⟨rfl, ⟨rfl, trivial⟩⟩) (fun e => ok_record_SealBytes s1 _ hr12) ?_
    refine TL.p (C := cx) (gc := true) (p_mv rfl) rfl rfl ?_
    refine TL.nil ?_
    refine hK11 _ _ ?_
    refine TK.seq_k fun K13 hK13 => ?_
    refine TK.reg ?_
    refine TL.p (C := cx) (gc := true) (p_mv rfl) rfl rfl ?_
    obtain ⟨u14, hu14, hX⟩ := bind_some hX
    refine TL.appN (C := cx) nd kd32 bo32 ty5 rfl rfl (.inl rfl) rfl (Src_L _) (by decide) (need_t hu14) rfl fun b15 nd => ?_
    refine TL.lay [(35, L b2)] nd (j := 0) rfl ⟨⟨_, rfl, fix_OL nd (j := 0) rfl, rfl⟩, trivial⟩ fun nd => ?_
    obtain ⟨r16, hr16, hX⟩ := bind_some hX
    refine TL.cvX rfl rfl rfl (fun _ => ⟨rfl, ⟨rfl, trivial⟩⟩) (fun e => ok_record_ReadSeal b2 _ hr16) ?_
    refine TL.p (C := cx) (gc := true) (p_mv rfl) rfl rfl ?_
    refine TL.p (C := cx) (gc := true) (p_ex rfl rfl (by decide)) rfl rfl ?_
    refine TL.p (C := cx) (gc := true) (p_ex rfl rfl (by decide)) rfl rfl ?_
    refine TL.alO (C := cx) (l := [Enc.v ((0 : Int) : Int), Enc.v ((0 : Int) : Int), Enc.v ((0 : Int) : Int), Enc.v ((0 : Int) : Int), .nils]) nd ty45 ti45_z rfl rfl fun b17 nd => ?_
    refine TL.stV (C := cx) (lu := Enc.cl (r16.1 : Seal_api)) nd ty45 rfl (j := 0) rfl rfl rfl (Cells_v (r16.1 : Seal_api)) rfl rfl [Enc.v (r16.1.Number : Int), Enc.v (r16.1.Index : Int), Enc.v (r16.1.Data : Int), Enc.v (r16.1.Parity : Int), Enc.v (r16.1.Labels : (List Int))] rfl fun nd => ?_
    refine TL.p (C := cx) (gc := true) (p_mv rfl) rfl rfl ?_
    refine TL.nil ?_
    refine hK13 _ _ ?_
    refine TK.seq_k fun K18 hK18 => ?_
    refine TK.reg ?_
    refine TL.p (C := cx) (gc := true) (p_mv rfl) rfl rfl ?_
    obtain ⟨r19, hr19, hX⟩ := bind_some hX
    refine TL.cvX rfl rfl rfl (fun _ => ⟨rfl, ⟨rfl, trivial⟩⟩) (fun e => ok_cartridgeref10_ReadSeal b2 _ hr19) ?_
    refine TL.p (C := cx) (gc := true) (p_mv rfl) rfl rfl ?_
    refine TL.p (C := cx) (gc := true) (p_ex rfl rfl (by decide)) rfl rfl ?_
    refine TL.p (C := cx) (gc := true) (p_ex rfl rfl (by decide)) rfl rfl ?_
    refine TL.alO (C := cx) (l := [Enc.v ((0 : Int) : Int), Enc.v ((0 : Int) : Int), Enc.v ((0 : Int) : Int), Enc.v ((0 : Int) : Int), .nils]) nd ty45 ti45_z rfl rfl fun b20 nd => ?_
    refine TL.stV (C := cx) (lu := Enc.cl (r19.1 : Seal_api)) nd ty45 rfl (j := 0) rfl rfl rfl (Cells_v (r19.1 : Seal_api)) rfl rfl [Enc.v (r19.1.Number : Int), Enc.v (r19.1.Index : Int), Enc.v (r19.1.Data : Int), Enc.v (r19.1.Parity : Int), Enc.v (r19.1.Labels : (List Int))] rfl fun nd => ?_
    refine TL.p (C := cx) (gc := true) (p_mv rfl) rfl rfl ?_
    refine TL.nil ?_
    refine hK18 _ _ ?_
    refine TK.seq_k fun K21 hK21 => ?_
    refine TK.seq_k fun K22 hK22 => ?_
    have ndS : Nd [(b20, RV 45 [Enc.v (r19.1.Number : Int), Enc.v (r19.1.Index : Int), Enc.v (r19.1.Data : Int), Enc.v (r19.1.Parity : Int), Enc.v (r19.1.Labels : (List Int))]), (b17, RV 45 [Enc.v (r16.1.Number : Int), Enc.v (r16.1.Index : Int), Enc.v (r16.1.Data : Int), Enc.v (r16.1.Parity : Int), Enc.v (r16.1.Labels : (List Int))])] := Nd.pick nd (is := [0, 1]) (by decide)
    refine TK.drwX (h := []) (hS := [(b20, RV 45 [Enc.v (r19.1.Number : Int), Enc.v (r19.1.Index : Int), Enc.v (r19.1.Data : Int), Enc.v (r19.1.Parity : Int), Enc.v (r19.1.Labels : (List Int))]), (b17, RV 45 [Enc.v (r16.1.Number : Int), Enc.v (r16.1.Index : Int), Enc.v (r16.1.Data : Int), Enc.v (r16.1.Parity : Int), Enc.v (r16.1.Labels : (List Int))])]) [(0, 0), (0, 1), (0, 2), (0, 3), (0, 4), (0, 5), (0, 6), (0, 7), (0, 8), (0, 9), (0, 10), (0, 11), (0, 12), (0, 13), (0, 14), (0, 15), (0, 16), (0, 17), (0, 18), (0, 19), (0, 20), (0, 21), (0, 22), (0, 23), (0, 24), (0, 25), (0, 26), (0, 27), (0, 28)] mixed (by kernel_rfl) (HSub_app nd) ?_
    refine DR0 (gc := true) rfl (vok_p (C := cx) (p_ldRa (l' := Enc.cl (s1 : Seal_api)) ty45 rfl rfl rfl rfl rfl (Nat.le_of_ble_eq_true rfl))) rfl rfl ?_
    obtain ⟨r23, hr23, hX⟩ := bind_some hX
    refine DR0 (gc := true) rfl (vok_c rfl (fun _ => ⟨rfl, ⟨rfl, trivial⟩⟩) (fun e => ok_record_RightSeal s1 _ hr23)) rfl rfl ?_
    refine DR0 (gc := true) rfl (vok_p (C := cx) (p_mv rfl)) rfl rfl ?_
    refine DR0 (gc := true) rfl (vok_p (C := cx) (p_neB kd4 rfl rfl)) rfl rfl ?_
    refine DR0 (gc := true) rfl (vok_p (C := cx) (p_mv rfl)) rfl rfl ?_
    refine DR0 (gc := (!((r23 != r10)))) rfl (vok_p (C := cx) (p_mv rfl (hg := fun e => rfl))) (gcF1 rfl) rfl ?_
    refine DR0 (gc := (!((r23 != r10)))) rfl (vok_cvtBS (C := cx) (gc := (!((r23 != r10)))) (xs := r12) kd32 kd5 kd9 rfl (look_v (v := Enc.v (r12 : (List UInt8))) (v_val _)) (hg := fun e => e)) (gcF1 rfl) rfl ?_
    refine DR0 (gc := (!((r23 != r10)))) rfl (vok_p (C := cx) (p_ldRa (l' := Enc.cl (s1 : Seal_api)) ty45 rfl rfl rfl rfl rfl (Nat.le_of_ble_eq_true rfl) (hg := fun e => rfl))) (gcF1 rfl) rfl ?_
    obtain ⟨r24, hr24, hX⟩ := bind_some hX
    refine DR0 (gc := (!((r23 != r10)))) rfl (vok_c rfl (fun e => ⟨rfl, ⟨e, trivial⟩⟩) (fun e => ok_cartridgeref10_SealBytes s1 _ (optG_t hr24 e))) (gcF1 rfl) rfl ?_
    refine DR0 (gc := (!((r23 != r10)))) rfl (vok_cvtBS (C := cx) (gc := (!((r23 != r10)))) (xs := r24) kd32 kd5 kd9 rfl (look_v (v := Enc.v (r24 : (List UInt8))) (v_val _)) (hg := fun e => e)) (gcF1 rfl) rfl ?_
    refine DR0 (gc := (!((r23 != r10)))) rfl (vok_p (C := cx) (ps_neq (s := (Str.mk r12)) (r := (Str.mk r24)) rfl rfl (hg := fun e => ⟨e, e⟩))) (gcF1 rfl) rfl ?_
    refine DR0 (gc := true) rfl (vok_p (C := cx) (p_or rfl rfl (fun e => ⟨rfl, fun h => (not_t h)⟩))) rfl rfl ?_
    refine DR0 (gc := true) rfl (vok_p (C := cx) (p_mv rfl)) rfl rfl ?_
    refine DR0 (gc := (!(((r23 != r10) || (!((Str.mk r12).l == (Str.mk r24).l)))))) rfl (vok_p (C := cx) (p_ldVa (l' := Enc.cl (r16.1 : Seal_api)) ty45 rfl rfl ndS (j := 1) rfl rfl rfl rfl (Nat.le_of_ble_eq_true rfl) (hg := fun e => rfl))) (gcF1 rfl) rfl ?_
    refine DR0 (gc := (!(((r23 != r10) || (!((Str.mk r12).l == (Str.mk r24).l)))))) rfl (vok_p (C := cx) (p_ldVa (l' := Enc.cl (r19.1 : Seal_api)) ty45 rfl rfl ndS (j := 0) rfl rfl rfl rfl (Nat.le_of_ble_eq_true rfl) (hg := fun e => rfl))) (gcF1 rfl) rfl ?_
    obtain ⟨r25, hr25, hX⟩ := bind_some hX
    refine DR0 (gc := (!(((r23 != r10) || (!((Str.mk r12).l == (Str.mk r24).l)))))) rfl (vok_c rfl (fun e => ⟨rfl, ⟨e, ⟨e, trivial⟩⟩⟩) (fun e => ok_cartridgeref10_SameSeal r16.1 r19.1 _ (optG_t hr25 e))) (gcF1 rfl) rfl ?_
    refine DR0 (gc := (!(((r23 != r10) || (!((Str.mk r12).l == (Str.mk r24).l)))))) rfl (vok_p (C := cx) (p_not rfl (hg := fun e => e))) (gcF1 rfl) rfl ?_
    refine DR0 (gc := true) rfl (vok_p (C := cx) (p_or rfl rfl (fun e => ⟨rfl, fun h => (not_t h)⟩))) rfl rfl ?_
    refine DR0 (gc := true) rfl (vok_p (C := cx) (p_mv rfl)) rfl rfl ?_
    refine DR0 (gc := (!((((r23 != r10) || (!((Str.mk r12).l == (Str.mk r24).l))) || (!r25))))) rfl (vok_p (C := cx) (p_mv rfl (hg := fun e => rfl))) (gcF1 rfl) rfl ?_
    obtain ⟨r26, hr26, hX⟩ := bind_some hX
    refine DR0 (gc := (!((((r23 != r10) || (!((Str.mk r12).l == (Str.mk r24).l))) || (!r25))))) rfl (vok_c rfl (fun e => ⟨rfl, ⟨e, trivial⟩⟩) (fun e => ok_cartridgelaw10_num r16.2 _ (optG_t hr26 e))) (gcF1 rfl) rfl ?_
    refine DR0 (gc := (!((((r23 != r10) || (!((Str.mk r12).l == (Str.mk r24).l))) || (!r25))))) rfl (vok_p (C := cx) (p_mv rfl (hg := fun e => rfl))) (gcF1 rfl) rfl ?_
    refine DR0 (gc := (!((((r23 != r10) || (!((Str.mk r12).l == (Str.mk r24).l))) || (!r25))))) rfl (vok_p (C := cx) (p_neq rfl rfl (hg := fun e => ⟨e, e⟩))) (gcF1 rfl) rfl ?_
    refine DR0 (gc := true) rfl (vok_p (C := cx) (p_or rfl rfl (fun e => ⟨rfl, fun h => (not_t h)⟩))) rfl rfl ?_
    refine DR0 (gc := true) rfl (vok_p (C := cx) (p_mv rfl)) rfl rfl ?_
    refine DR0 (gc := (!(((((r23 != r10) || (!((Str.mk r12).l == (Str.mk r24).l))) || (!r25)) || (r26 != r19.2))))) rfl (vok_p (C := cx) (p_mv rfl (hg := fun e => rfl))) (gcF1 rfl) rfl ?_
    refine DR0 (gc := (!(((((r23 != r10) || (!((Str.mk r12).l == (Str.mk r24).l))) || (!r25)) || (r26 != r19.2))))) rfl (vok_p (C := cx) (p_lenL (xs := r12) kd32 rfl (hg := fun e => e))) (gcF1 rfl) rfl ?_
    refine DR0 (gc := (!(((((r23 != r10) || (!((Str.mk r12).l == (Str.mk r24).l))) || (!r25)) || (r26 != r19.2))))) rfl (vok_p (C := cx) (p_gtr rfl rfl (hg := fun e => ⟨e, rfl⟩))) (gcF1 rfl) rfl ?_
    refine DR0 (gc := true) rfl (vok_p (C := cx) (p_or rfl rfl (fun e => ⟨rfl, fun h => (not_t h)⟩))) rfl rfl ?_
    refine DRend ?_
    refine hK22 _ _ ?_
    refine TK.cond (b := (((((r23 != r10) || (!((Str.mk r12).l == (Str.mk r24).l))) || (!r25)) || (r26 != r19.2)) || (decide ((r12.length : Int) > (64 : Int))))) rfl (fun hc => ?_) (fun hc => ?_)
    · have hX := ite_t hc hX
      refine TK.seq_k fun K27 hK27 => ?_
      refine TK.reg ?_
      refine TL.p (C := cx) (gc := true) (p_mv rfl) rfl rfl ?_
      refine TL.nil ?_
      refine hK27 _ _ ?_
      refine TK.ret ?_
      try dsimp only [thenQ]
      exact ret1 (v := Enc.v (false : Bool)) rfl (by obtain rfl := some_in hX; rfl) (v_val _)
    · have hX := ite_f hc hX
      refine TK.skip ?_
      refine hK21 _ _ ?_
      refine TK.seq_k fun K28 hK28 => ?_
      refine TK.reg ?_
      refine TL.p (C := cx) (gc := true) (p_mv rfl) rfl rfl ?_
      obtain ⟨r29, hr29, hX⟩ := bind_some hX
      refine TL.cvX rfl rfl rfl (fun _ => ⟨rfl, ⟨rfl, trivial⟩⟩) (fun e => ok_record_ReadSeal r12 _ hr29) ?_
      refine TL.p (C := cx) (gc := true) (p_mv rfl) rfl rfl ?_
      refine TL.p (C := cx) (gc := true) (p_ex rfl rfl (by decide)) rfl rfl ?_
      refine TL.p (C := cx) (gc := true) (p_ex rfl rfl (by decide)) rfl rfl ?_
      refine TL.alO (C := cx) (l := [Enc.v ((0 : Int) : Int), Enc.v ((0 : Int) : Int), Enc.v ((0 : Int) : Int), Enc.v ((0 : Int) : Int), .nils]) nd ty45 ti45_z rfl rfl fun b30 nd => ?_
      refine TL.stV (C := cx) (lu := Enc.cl (r29.1 : Seal_api)) nd ty45 rfl (j := 0) rfl rfl rfl (Cells_v (r29.1 : Seal_api)) rfl rfl [Enc.v (r29.1.Number : Int), Enc.v (r29.1.Index : Int), Enc.v (r29.1.Data : Int), Enc.v (r29.1.Parity : Int), Enc.v (r29.1.Labels : (List Int))] rfl fun nd => ?_
      refine TL.p (C := cx) (gc := true) (p_mv rfl) rfl rfl ?_
      refine TL.nil ?_
      refine hK28 _ _ ?_
      refine TK.seq_k fun K31 hK31 => ?_
      refine TK.reg ?_
      refine TL.p (C := cx) (gc := true) (p_mv rfl) rfl rfl ?_
      refine TL.p (C := cx) (gc := true) (p_not rfl) rfl rfl ?_
      refine TL.p (C := cx) (gc := true) (p_mv rfl) rfl rfl ?_
      refine TL.p (C := cx) (gc := ((!r10))) (p_mv rfl (hg := fun e => rfl)) (gcT1 rfl) rfl ?_
      refine TL.p (C := cx) (gc := ((!r10))) (p_lenL (xs := r12) kd32 rfl (hg := fun e => e)) (gcT1 rfl) rfl ?_
      refine TL.p (C := cx) (gc := ((!r10))) (p_eql rfl rfl (hg := fun e => ⟨e, rfl⟩)) (gcT1 rfl) rfl ?_
      refine TL.p (C := cx) (gc := true) (p_and rfl rfl (fun e => ⟨rfl, fun h => h⟩)) rfl rfl ?_
      refine TL.p (C := cx) (gc := true) (p_mv rfl) rfl rfl ?_
      refine TL.p (C := cx) (gc := (!(((!r10) && ((r12.length : Int) == (0 : Int)))))) (p_mv rfl (hg := fun e => rfl)) (gcF1 rfl) rfl ?_
      refine TL.p (C := cx) (gc := (!(((!r10) && ((r12.length : Int) == (0 : Int)))))) (p_mv rfl (hg := fun e => e)) (gcF1 rfl) rfl ?_
      refine TL.p (C := cx) (gc := ((!(((!r10) && ((r12.length : Int) == (0 : Int))))) && r10)) (p_mv rfl (hg := fun e => rfl)) (gcT rfl) rfl ?_
      obtain ⟨r32, hr32, hX⟩ := bind_some hX
      refine TL.cvX (gcT rfl) rfl rfl (fun e => ⟨rfl, ⟨e, trivial⟩⟩) (fun e => ok_cartridgelaw10_num r29.2 _ (optG_t hr32 e)) ?_
      refine TL.p (C := cx) (gc := ((!(((!r10) && ((r12.length : Int) == (0 : Int))))) && r10)) (p_eql rfl rfl (hg := fun e => ⟨e, rfl⟩)) (gcT rfl) rfl ?_
      refine TL.p (C := cx) (gc := (!(((!r10) && ((r12.length : Int) == (0 : Int)))))) (p_and rfl rfl (fun e => ⟨e, fun h => (and_i e h)⟩)) (gcF1 rfl) rfl ?_
      refine TL.p (C := cx) (gc := (!(((!r10) && ((r12.length : Int) == (0 : Int)))))) (p_mv rfl (hg := fun e => e)) (gcF1 rfl) rfl ?_
      refine TL.p (C := cx) (gc := ((!(((!r10) && ((r12.length : Int) == (0 : Int))))) && ((r10 && (r32 == (0 : Int)))))) (p_ldVa (l' := Enc.cl (r29.1 : Seal_api)) ty45 rfl rfl nd (j := 0) rfl rfl rfl rfl (Nat.le_of_ble_eq_true rfl) (hg := fun e => rfl)) (gcT rfl) rfl ?_
      refine TL.p (C := cx) (gc := ((!(((!r10) && ((r12.length : Int) == (0 : Int))))) && ((r10 && (r32 == (0 : Int)))))) (p_ldRa (l' := Enc.cl (s1 : Seal_api)) ty45 rfl rfl rfl rfl rfl (Nat.le_of_ble_eq_true rfl) (hg := fun e => rfl)) (gcT rfl) rfl ?_
      obtain ⟨r33, hr33, hX⟩ := bind_some hX
      refine TL.cvX (gcT rfl) rfl rfl (fun e => ⟨rfl, ⟨e, ⟨e, trivial⟩⟩⟩) (fun e => ok_cartridgeref10_SameSeal r29.1 s1 _ (optG_t hr33 e)) ?_
      refine TL.p (C := cx) (gc := (!(((!r10) && ((r12.length : Int) == (0 : Int)))))) (p_and rfl rfl (fun e => ⟨e, fun h => (and_i e h)⟩)) (gcF1 rfl) rfl ?_
      refine TL.p (C := cx) (gc := true) (p_or rfl rfl (fun e => ⟨rfl, fun h => (not_t h)⟩)) rfl rfl ?_
      refine TL.p (C := cx) (gc := true) (p_mv rfl) rfl rfl ?_
      refine TL.nil ?_
      refine hK31 _ _ ?_
      refine TK.ret ?_
      try dsimp only [thenQ]
      exact ret1 (v := Enc.v ((((!r10) && ((r12.length : Int) == (0 : Int))) || ((r10 && (r32 == (0 : Int))) && r33)) : Bool)) rfl (by obtain rfl := some_in hX; rfl) (v_val _)

end Go.Proofs.YtpipaggkbiapjaaDoor
