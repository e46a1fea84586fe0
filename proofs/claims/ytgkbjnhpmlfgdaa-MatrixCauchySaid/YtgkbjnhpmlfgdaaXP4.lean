import Derived.Test.YtgkbjnhpmlfgdaaXFn
import Derived.Test.YtgkbjnhpmlfgdaaXS
import Derived.Test.YtgkbjnhpmlfgdaaAmK0
import Derived.Test.YtgkbjnhpmlfgdaaAmK1
import Derived.Test.YtgkbjnhpmlfgdaaAmK2
import Derived.Test.YtgkbjnhpmlfgdaaXP3
/- That they do. -/
namespace Go.Proofs.Ytgkbjnhpmlfgdaa
open Go.AM Go.AX
set_option linter.unusedVariables false
set_option maxRecDepth 20000

/-- cartridge/cartridgelaw2.MatrixCauchy -/
theorem ok_cartridgelaw2_MatrixCauchy (data1 : Int) (parity2 : Int) (rows3 : (List Int)) (cols4 : (List Int)) (r : Bool) (hX : X.cartridgelaw2_MatrixCauchy data1 parity2 rows3 cols4 = some r) : Fun Try.prog 9 [Enc.v (data1 : Int), Enc.v (parity2 : Int), Enc.v (rows3 : (List Int)), Enc.v (cols4 : (List Int))] (· = Enc.v (r : Bool)) := by
  refine Fun.of b9 (Nat.le_of_ble_eq_true rfl) (allVal.mem ⟨(by exact (v_val _)), (by exact (v_val _)), (by exact (v_val _)), (by exact (v_val _)), trivial⟩) ?_
  unfold k9
  have nd : Nd [] := Nd_nil
  unfold X.cartridgelaw2_MatrixCauchy at hX
  refine TK.seq_k fun K5 hK5 => ?_
  refine TK.reg ?_
  refine TL.p (C := cx) (gc := true) (p_mv rfl) rfl rfl ?_
  refine TL.nil ?_
  refine hK5 _ _ ?_
  refine TK.seq_k fun K6 hK6 => ?_
  refine TK.reg ?_
  obtain ⟨r7, hr7, hX⟩ := bind_some hX
  refine TL.cvX rfl rfl rfl (fun _ => ⟨rfl, trivial⟩) (fun e => ok_cartridgelaw2_alive  _ hr7) ?_
  refine TL.p (C := cx) (gc := true) (p_mv rfl) rfl rfl ?_
  refine TL.nil ?_
  refine hK6 _ _ ?_
  refine TK.seq_k fun K8 hK8 => ?_
  refine TK.seq_k fun K9 hK9 => ?_
  refine TK.reg ?_
  refine TL.p (C := cx) (gc := true) (p_mv rfl) rfl rfl ?_
  refine TL.p (C := cx) (gc := true) (p_not rfl) rfl rfl ?_
  refine TL.p (C := cx) (gc := true) (p_mv rfl) rfl rfl ?_
  refine TL.p (C := cx) (gc := (!((!r7)))) (p_mv rfl (hg := fun e => rfl)) (gcF1 rfl) rfl ?_
  refine TL.p (C := cx) (gc := (!((!r7)))) (p_gtr rfl rfl (hg := fun e => ⟨e, rfl⟩)) (gcF1 rfl) rfl ?_
  refine TL.p (C := cx) (gc := true) (p_or rfl rfl (fun e => ⟨rfl, fun h => (not_t h)⟩)) rfl rfl ?_
  refine TL.p (C := cx) (gc := true) (p_mv rfl) rfl rfl ?_
  refine TL.p (C := cx) (gc := (!(((!r7) || (decide (data1 > (30 : Int))))))) (p_mv rfl (hg := fun e => rfl)) (gcF1 rfl) rfl ?_
  refine TL.p (C := cx) (gc := (!(((!r7) || (decide (data1 > (30 : Int))))))) (p_gtr rfl rfl (hg := fun e => ⟨e, rfl⟩)) (gcF1 rfl) rfl ?_
  refine TL.p (C := cx) (gc := true) (p_or rfl rfl (fun e => ⟨rfl, fun h => (not_t h)⟩)) rfl rfl ?_
  refine TL.p (C := cx) (gc := true) (p_mv rfl) rfl rfl ?_
  refine TL.p (C := cx) (gc := (!((((!r7) || (decide (data1 > (30 : Int)))) || (decide (parity2 > (30 : Int))))))) (p_mv rfl (hg := fun e => rfl)) (gcF1 rfl) rfl ?_
  refine TL.p (C := cx) (gc := (!((((!r7) || (decide (data1 > (30 : Int)))) || (decide (parity2 > (30 : Int))))))) (p_lenL (xs := rows3) kd46 rfl (hg := fun e => e)) (gcF1 rfl) rfl ?_
  refine TL.p (C := cx) (gc := (!((((!r7) || (decide (data1 > (30 : Int)))) || (decide (parity2 > (30 : Int))))))) (p_gtr rfl rfl (hg := fun e => ⟨e, rfl⟩)) (gcF1 rfl) rfl ?_
  refine TL.p (C := cx) (gc := true) (p_or rfl rfl (fun e => ⟨rfl, fun h => (not_t h)⟩)) rfl rfl ?_
  refine TL.p (C := cx) (gc := true) (p_mv rfl) rfl rfl ?_
  refine TL.p (C := cx) (gc := (!(((((!r7) || (decide (data1 > (30 : Int)))) || (decide (parity2 > (30 : Int)))) || (decide ((rows3.length : Int) > (8 : Int))))))) (p_mv rfl (hg := fun e => rfl)) (gcF1 rfl) rfl ?_
  refine TL.p (C := cx) (gc := (!(((((!r7) || (decide (data1 > (30 : Int)))) || (decide (parity2 > (30 : Int)))) || (decide ((rows3.length : Int) > (8 : Int))))))) (p_lenL (xs := cols4) kd46 rfl (hg := fun e => e)) (gcF1 rfl) rfl ?_
  refine TL.p (C := cx) (gc := (!(((((!r7) || (decide (data1 > (30 : Int)))) || (decide (parity2 > (30 : Int)))) || (decide ((rows3.length : Int) > (8 : Int))))))) (p_mv rfl (hg := fun e => rfl)) (gcF1 rfl) rfl ?_
  refine TL.p (C := cx) (gc := (!(((((!r7) || (decide (data1 > (30 : Int)))) || (decide (parity2 > (30 : Int)))) || (decide ((rows3.length : Int) > (8 : Int))))))) (p_lenL (xs := rows3) kd46 rfl (hg := fun e => e)) (gcF1 rfl) rfl ?_
  refine TL.p (C := cx) (gc := (!(((((!r7) || (decide (data1 > (30 : Int)))) || (decide (parity2 > (30 : Int)))) || (decide ((rows3.length : Int) > (8 : Int))))))) (p_lss rfl rfl (hg := fun e => ⟨e, e⟩)) (gcF1 rfl) rfl ?_
  refine TL.p (C := cx) (gc := true) (p_or rfl rfl (fun e => ⟨rfl, fun h => (not_t h)⟩)) rfl rfl ?_
  refine TL.nil ?_
  refine hK9 _ _ ?_
  refine TK.cond (b := (((((!r7) || (decide (data1 > (30 : Int)))) || (decide (parity2 > (30 : Int)))) || (decide ((rows3.length : Int) > (8 : Int)))) || (decide ((cols4.length : Int) < (rows3.length : Int))))) rfl (fun hc => ?_) (fun hc => ?_)
  · have hX := ite_t hc hX
    refine TK.seq_k fun K10 hK10 => ?_
    refine TK.reg ?_
    refine TL.p (C := cx) (gc := true) (p_mv rfl) rfl rfl ?_
    refine TL.p (C := cx) (gc := true) (p_mv rfl) rfl rfl ?_
    refine TL.nil ?_
    refine hK10 _ _ ?_
    refine TK.ret ?_
    try dsimp only [thenQ]
    exact ret1 (v := Enc.v (r7 : Bool)) rfl (by obtain rfl := some_in hX; rfl) (v_val _)
  · have hX := ite_f hc hX
    refine TK.skip ?_
    refine hK8 _ _ ?_
    refine TK.seq_k fun K11 hK11 => ?_
    refine TK.reg ?_
    refine TL.p (C := cx) (gc := true) (p_mv rfl) rfl rfl ?_
    refine TL.p (C := cx) (gc := true) (p_mv rfl) rfl rfl ?_
    obtain ⟨r12, hr12, hX⟩ := bind_some hX
    refine TL.cvX rfl rfl rfl (fun _ => ⟨rfl, ⟨rfl, ⟨rfl, trivial⟩⟩⟩) (fun e => ok_matrix_Cauchy data1 parity2 _ hr12) ?_
    refine TL.p (C := cx) (gc := true) (p_mv rfl) rfl rfl ?_
    refine TL.p (C := cx) (gc := true) (p_ex rfl rfl (by decide)) rfl rfl ?_
    refine TL.p (C := cx) (gc := true) (p_ex rfl rfl (by decide)) rfl rfl ?_
    refine TL.p (C := cx) (gc := true) (p_mv rfl) rfl rfl ?_
    refine TL.p (C := cx) (gc := true) (p_mv rfl) rfl rfl ?_
    refine TL.nil ?_
    refine hK11 _ _ ?_
    refine TK.seq_k fun K13 hK13 => ?_
    refine TK.reg ?_
    refine TL.p (C := cx) (gc := true) (p_mv rfl) rfl rfl ?_
    refine TL.p (C := cx) (gc := true) (p_mv rfl) rfl rfl ?_
    obtain ⟨r14, hr14, hX⟩ := bind_some hX
    refine TL.cvX rfl rfl rfl (fun _ => ⟨rfl, ⟨rfl, ⟨rfl, trivial⟩⟩⟩) (fun e => ok_cartridgeref1_Cauchy data1 parity2 _ hr14) ?_
    refine TL.p (C := cx) (gc := true) (p_mv rfl) rfl rfl ?_
    refine TL.p (C := cx) (gc := true) (p_ex rfl rfl (by decide)) rfl rfl ?_
    refine TL.p (C := cx) (gc := true) (p_ex rfl rfl (by decide)) rfl rfl ?_
    refine TL.p (C := cx) (gc := true) (p_mv rfl) rfl rfl ?_
    refine TL.p (C := cx) (gc := true) (p_mv rfl) rfl rfl ?_
    refine TL.nil ?_
    refine hK13 _ _ ?_
    refine TK.seq_k fun K15 hK15 => ?_
    refine TK.seq_k fun K16 hK16 => ?_
    refine TK.reg ?_
    refine TL.p (C := cx) (gc := true) (p_mv rfl) rfl rfl ?_
    obtain ⟨r17, hr17, hX⟩ := bind_some hX
    refine TL.cvX rfl rfl rfl (fun _ => ⟨rfl, ⟨rfl, trivial⟩⟩) (fun e => ok_cartridgelaw2_num r12.2 _ hr17) ?_
    refine TL.p (C := cx) (gc := true) (p_mv rfl) rfl rfl ?_
    refine TL.p (C := cx) (gc := true) (p_neq rfl rfl) rfl rfl ?_
    refine TL.p (C := cx) (gc := true) (p_mv rfl) rfl rfl ?_
    refine TL.p (C := cx) (gc := (!((r17 != r14.2)))) (p_mv rfl (hg := fun e => rfl)) (gcF1 rfl) rfl ?_
    refine TL.p (C := cx) (gc := (!((r17 != r14.2)))) (p_mv rfl (hg := fun e => rfl)) (gcF1 rfl) rfl ?_
    obtain ⟨r18, hr18, hX⟩ := bind_some hX
    refine TL.cvX (gcF1 rfl) rfl rfl (fun e => ⟨rfl, ⟨e, ⟨e, trivial⟩⟩⟩) (fun e => ok_cartridgeref1_SameRows r12.1 r14.1 _ (optG_t hr18 e)) ?_
    refine TL.p (C := cx) (gc := (!((r17 != r14.2)))) (p_not rfl (hg := fun e => e)) (gcF1 rfl) rfl ?_
    refine TL.p (C := cx) (gc := true) (p_or rfl rfl (fun e => ⟨rfl, fun h => (not_t h)⟩)) rfl rfl ?_
    refine TL.nil ?_
    refine hK16 _ _ ?_
    refine TK.cond (b := ((r17 != r14.2) || (!r18))) rfl (fun hc => ?_) (fun hc => ?_)
    · have hX := ite_t hc hX
      refine TK.seq_k fun K19 hK19 => ?_
      refine TK.reg ?_
      refine TL.p (C := cx) (gc := true) (p_mv rfl) rfl rfl ?_
      refine TL.nil ?_
      refine hK19 _ _ ?_
      refine TK.ret ?_
      try dsimp only [thenQ]
      exact ret1 (v := Enc.v (false : Bool)) rfl (by obtain rfl := some_in hX; rfl) (v_val _)
    · have hX := ite_f hc hX
      refine TK.skip ?_
      refine hK15 _ _ ?_
      refine TK.seq_k fun K20 hK20 => ?_
      refine TK.seq_k fun K21 hK21 => ?_
      refine TK.reg ?_
      refine TL.p (C := cx) (gc := true) (p_mv rfl) rfl rfl ?_
      refine TL.p (C := cx) (gc := true) (p_neq rfl rfl) rfl rfl ?_
      refine TL.p (C := cx) (gc := true) (p_mv rfl) rfl rfl ?_
      refine TL.p (C := cx) (gc := (!((r14.2 != (0 : Int))))) (p_mv rfl (hg := fun e => rfl)) (gcF1 rfl) rfl ?_
      refine TL.p (C := cx) (gc := (!((r14.2 != (0 : Int))))) (p_lenL (xs := rows3) kd46 rfl (hg := fun e => e)) (gcF1 rfl) rfl ?_
      refine TL.p (C := cx) (gc := (!((r14.2 != (0 : Int))))) (p_eql rfl rfl (hg := fun e => ⟨e, rfl⟩)) (gcF1 rfl) rfl ?_
      refine TL.p (C := cx) (gc := true) (p_or rfl rfl (fun e => ⟨rfl, fun h => (not_t h)⟩)) rfl rfl ?_
      refine TL.p (C := cx) (gc := true) (p_mv rfl) rfl rfl ?_
      refine TL.p (C := cx) (gc := (!(((r14.2 != (0 : Int)) || ((rows3.length : Int) == (0 : Int)))))) (p_mv rfl (hg := fun e => rfl)) (gcF1 rfl) rfl ?_
      refine TL.p (C := cx) (gc := (!(((r14.2 != (0 : Int)) || ((rows3.length : Int) == (0 : Int)))))) (p_lenL (xs := rows3) kd46 rfl (hg := fun e => e)) (gcF1 rfl) rfl ?_
      refine TL.p (C := cx) (gc := (!(((r14.2 != (0 : Int)) || ((rows3.length : Int) == (0 : Int)))))) (p_mv rfl (hg := fun e => rfl)) (gcF1 rfl) rfl ?_
      refine TL.p (C := cx) (gc := (!(((r14.2 != (0 : Int)) || ((rows3.length : Int) == (0 : Int)))))) (p_gtr rfl rfl (hg := fun e => ⟨e, e⟩)) (gcF1 rfl) rfl ?_
      refine TL.p (C := cx) (gc := true) (p_or rfl rfl (fun e => ⟨rfl, fun h => (not_t h)⟩)) rfl rfl ?_
      refine TL.p (C := cx) (gc := true) (p_mv rfl) rfl rfl ?_
      refine TL.p (C := cx) (gc := (!((((r14.2 != (0 : Int)) || ((rows3.length : Int) == (0 : Int))) || (decide ((rows3.length : Int) > parity2)))))) (p_mv rfl (hg := fun e => rfl)) (gcF1 rfl) rfl ?_
      refine TL.p (C := cx) (gc := (!((((r14.2 != (0 : Int)) || ((rows3.length : Int) == (0 : Int))) || (decide ((rows3.length : Int) > parity2)))))) (p_lenL (xs := rows3) kd46 rfl (hg := fun e => e)) (gcF1 rfl) rfl ?_
      refine TL.p (C := cx) (gc := (!((((r14.2 != (0 : Int)) || ((rows3.length : Int) == (0 : Int))) || (decide ((rows3.length : Int) > parity2)))))) (p_mv rfl (hg := fun e => rfl)) (gcF1 rfl) rfl ?_
      refine TL.p (C := cx) (gc := (!((((r14.2 != (0 : Int)) || ((rows3.length : Int) == (0 : Int))) || (decide ((rows3.length : Int) > parity2)))))) (p_gtr rfl rfl (hg := fun e => ⟨e, e⟩)) (gcF1 rfl) rfl ?_
      refine TL.p (C := cx) (gc := true) (p_or rfl rfl (fun e => ⟨rfl, fun h => (not_t h)⟩)) rfl rfl ?_
      refine TL.nil ?_
      refine hK21 _ _ ?_
      refine TK.cond (b := ((((r14.2 != (0 : Int)) || ((rows3.length : Int) == (0 : Int))) || (decide ((rows3.length : Int) > parity2))) || (decide ((rows3.length : Int) > data1)))) rfl (fun hc => ?_) (fun hc => ?_)
      · have hX := ite_t hc hX
        refine TK.seq_k fun K22 hK22 => ?_
        refine TK.reg ?_
        refine TL.p (C := cx) (gc := true) (p_mv rfl) rfl rfl ?_
        refine TL.nil ?_
        refine hK22 _ _ ?_
        refine TK.ret ?_
        try dsimp only [thenQ]
        exact ret1 (v := Enc.v (true : Bool)) rfl (by obtain rfl := some_in hX; rfl) (v_val _)
      · have hX := ite_f hc hX
        refine TK.skip ?_
        refine hK20 _ _ ?_
        refine TK.seq_k fun K23 hK23 => ?_
        refine TK.reg ?_
        refine TL.p (C := cx) (gc := true) (p_mv rfl) rfl rfl ?_
        refine TL.nil ?_
        refine hK23 _ _ ?_
        refine TK.ownL (α := (List UInt8)) 14 23 nd rfl (.inl rfl) fun b24 nd => ?_
        refine TK.seq_k fun K25 hK25 => ?_
        refine TK.seq_k fun K26 hK26 => ?_
        refine TK.reg ?_
        refine TL.p (C := cx) (gc := true) (p_mv rfl) rfl rfl ?_
        refine TL.nil ?_
        refine hK26 _ _ ?_
        refine TK.block ?_
        obtain ⟨o27, hO27, hA27⟩ := bind_some hX
        have E27 : ∀ (l32 : List (List UInt8)) (env : Env) (h : Hp), (∃ b31, keepE [14] env = [(14, true, OL (α := (List UInt8)) b31 l32)] ∧ Nd [(b31, RL (α := (List UInt8)) 23 l32)] ∧ HSub [(b31, RL (α := (List UInt8)) 23 l32)] h) → X.cartridgelaw2_MatrixCauchy_e27 l32 = some r → K25 env h := by
          intro l32 env h hE hX
          obtain ⟨b31, henv, nd, hs⟩ := hE
          unfold X.cartridgelaw2_MatrixCauchy_e27 at hX
          refine hK25 _ _ (TK.keep [14] ?_)
          rw [henv]
          refine TK.subH hs ?_
          refine TK.seq_k fun K33 hK33 => ?_
          refine TK.reg ?_
          refine TL.p (C := cx) (gc := true) (p_mv rfl) rfl rfl ?_
          refine TL.lay [(14, L l32), (122, L l32)] nd (j := 0) rfl ⟨⟨_, rfl, fix_OL nd (j := 0) rfl, rfl⟩, ⟨⟨_, rfl, fix_OL nd (j := 0) rfl, rfl⟩, trivial⟩⟩ fun nd => ?_
          obtain ⟨r34, hr34, hX⟩ := bind_some hX
          refine TL.cvX rfl rfl rfl (fun _ => ⟨rfl, ⟨rfl, trivial⟩⟩) (fun e => ok_matrix_Inverse l32 _ hr34) ?_
          refine TL.p (C := cx) (gc := true) (p_mv rfl) rfl rfl ?_
          refine TL.p (C := cx) (gc := true) (p_ex rfl rfl (by decide)) rfl rfl ?_
          refine TL.p (C := cx) (gc := true) (p_ex rfl rfl (by decide)) rfl rfl ?_
          refine TL.p (C := cx) (gc := true) (p_mv rfl) rfl rfl ?_
          refine TL.p (C := cx) (gc := true) (p_mv rfl) rfl rfl ?_
          refine TL.nil ?_
          refine hK33 _ _ ?_
          refine TK.seq_k fun K35 hK35 => ?_
          refine TK.reg ?_
          refine TL.p (C := cx) (gc := true) (p_mv rfl) rfl rfl ?_
          refine TL.p (C := cx) (gc := true) (p_mv rfl) rfl rfl ?_
          obtain ⟨r36, hr36, hX⟩ := bind_some hX
          refine TL.cvX rfl rfl rfl (fun _ => ⟨rfl, ⟨rfl, ⟨rfl, trivial⟩⟩⟩) (fun e => ok_matrix_Mul l32 r34.1 _ hr36) ?_
          refine TL.p (C := cx) (gc := true) (p_mv rfl) rfl rfl ?_
          refine TL.p (C := cx) (gc := true) (p_ex rfl rfl (by decide)) rfl rfl ?_
          refine TL.p (C := cx) (gc := true) (p_ex rfl rfl (by decide)) rfl rfl ?_
          refine TL.p (C := cx) (gc := true) (p_mv rfl) rfl rfl ?_
          refine TL.p (C := cx) (gc := true) (p_mv rfl) rfl rfl ?_
          refine TL.nil ?_
          refine hK35 _ _ ?_
          refine TK.seq_k fun K37 hK37 => ?_
          refine TK.seq_k fun K38 hK38 => ?_
          refine TK.reg ?_
          refine TL.p (C := cx) (gc := true) (p_mv rfl) rfl rfl ?_
          obtain ⟨r39, hr39, hX⟩ := bind_some hX
          refine TL.cvX rfl rfl rfl (fun _ => ⟨rfl, ⟨rfl, trivial⟩⟩) (fun e => ok_cartridgelaw2_num r34.2 _ hr39) ?_
          refine TL.p (C := cx) (gc := true) (p_neq rfl rfl) rfl rfl ?_
          refine TL.p (C := cx) (gc := true) (p_mv rfl) rfl rfl ?_
          refine TL.p (C := cx) (gc := (!((r39 != (0 : Int))))) (p_mv rfl (hg := fun e => rfl)) (gcF1 rfl) rfl ?_
          obtain ⟨r40, hr40, hX⟩ := bind_some hX
          refine TL.cvX (gcF1 rfl) rfl rfl (fun e => ⟨rfl, ⟨e, trivial⟩⟩) (fun e => ok_cartridgelaw2_num r36.2 _ (optG_t hr40 e)) ?_
          refine TL.p (C := cx) (gc := (!((r39 != (0 : Int))))) (p_neq rfl rfl (hg := fun e => ⟨e, rfl⟩)) (gcF1 rfl) rfl ?_
          refine TL.p (C := cx) (gc := true) (p_or rfl rfl (fun e => ⟨rfl, fun h => (not_t h)⟩)) rfl rfl ?_
          refine TL.p (C := cx) (gc := true) (p_mv rfl) rfl rfl ?_
          refine TL.p (C := cx) (gc := (!(((r39 != (0 : Int)) || (r40 != (0 : Int)))))) (p_mv rfl (hg := fun e => rfl)) (gcF1 rfl) rfl ?_
          refine TL.p (C := cx) (gc := (!(((r39 != (0 : Int)) || (r40 != (0 : Int)))))) (p_lenL (xs := r36.1) kd22 rfl (hg := fun e => e)) (gcF1 rfl) rfl ?_
          refine TL.p (C := cx) (gc := (!(((r39 != (0 : Int)) || (r40 != (0 : Int)))))) (p_mv rfl (hg := fun e => rfl)) (gcF1 rfl) rfl ?_
          refine TL.p (C := cx) (gc := (!(((r39 != (0 : Int)) || (r40 != (0 : Int)))))) (p_lenL (xs := l32) kd22 rfl (hg := fun e => e)) (gcF1 rfl) rfl ?_
          refine TL.p (C := cx) (gc := (!(((r39 != (0 : Int)) || (r40 != (0 : Int)))))) (p_neq rfl rfl (hg := fun e => ⟨e, e⟩)) (gcF1 rfl) rfl ?_
          refine TL.p (C := cx) (gc := true) (p_or rfl rfl (fun e => ⟨rfl, fun h => (not_t h)⟩)) rfl rfl ?_
          refine TL.nil ?_
          refine hK38 _ _ ?_
          refine TK.cond (b := (((r39 != (0 : Int)) || (r40 != (0 : Int))) || ((r36.1.length : Int) != (l32.length : Int)))) rfl (fun hc => ?_) (fun hc => ?_)
          · have hX := ite_t hc hX
            refine TK.seq_k fun K41 hK41 => ?_
            refine TK.reg ?_
            refine TL.p (C := cx) (gc := true) (p_mv rfl) rfl rfl ?_
            refine TL.nil ?_
            refine hK41 _ _ ?_
            refine TK.ret ?_
            try dsimp only [thenQ]
            exact ret1 (v := Enc.v (false : Bool)) rfl (by obtain rfl := some_in hX; rfl) (v_val _)
          · have hX := ite_f hc hX
            refine TK.skip ?_
            refine hK37 _ _ ?_
            refine TK.seq_k fun K42 hK42 => ?_
            refine TK.seq_k fun K43 hK43 => ?_
            refine TK.reg ?_
            refine TL.p (C := cx) (gc := true) (p_mv rfl) rfl rfl ?_
            refine TL.nil ?_
            refine hK43 _ _ ?_
            refine TK.block ?_
            obtain ⟨o44, hO44, hA44⟩ := bind_some hX
            have E44 : ∀ (env : Env) (h : Hp), (∃ _u : Unit, keepE [] env = [] ∧ Nd [] ∧ HSub [] h) → X.cartridgelaw2_MatrixCauchy_e44 = some r → K42 env h := by
              intro  env h hE hX
              obtain ⟨_u, henv, nd, hs⟩ := hE
              unfold X.cartridgelaw2_MatrixCauchy_e44 at hX
              refine hK42 _ _ (TK.keep [] ?_)
              rw [henv]
              refine TK.subH hs ?_
              refine TK.seq_k fun K46 hK46 => ?_
              refine TK.reg ?_
              refine TL.p (C := cx) (gc := true) (p_mv rfl) rfl rfl ?_
              refine TL.nil ?_
              refine hK46 _ _ ?_
              refine TK.ret ?_
              try dsimp only [thenQ]
              exact ret1 (v := Enc.v (true : Bool)) rfl (by obtain rfl := some_in hX; rfl) (v_val _)
            refine TK.iter [20, 22] (fun s env h => match s with | i45 => ∃ _u : Unit, env = [(20, true, Enc.v (r36.1 : (List (List UInt8)))), (22, true, Enc.v (i45 : Int))] ∧ Nd [] ∧ HSub [] h) hO44 ⟨(), rfl, Nd_nil, HSub.refl _⟩ ?_
            rintro i45 env h x44x ⟨_u, rfl, nd, hs⟩ hX hR44
            refine TK.subH hs ?_
            unfold X.cartridgelaw2_MatrixCauchy_s44 at hX
            try dsimp only at hX
            refine TK.seq_k fun K47 hK47 => ?_
            refine TK.seq_k fun K48 hK48 => ?_
            refine TK.reg ?_
            refine TL.p (C := cx) (gc := true) (p_mv rfl) rfl rfl ?_
            refine TL.p (C := cx) (gc := true) (p_mv rfl) rfl rfl ?_
            refine TL.p (C := cx) (gc := true) (p_lenL (xs := r36.1) kd22 rfl) rfl rfl ?_
            refine TL.p (C := cx) (gc := true) (p_lss rfl rfl) rfl rfl ?_
            refine TL.nil ?_
            refine hK48 _ _ ?_
            refine TK.cond (b := (decide (i45 < (r36.1.length : Int)))) rfl (fun hc => ?_) (fun hc => ?_)
            · have hX := ite_t hc hX
              refine TK.skip ?_
              refine hK47 _ _ ?_
              refine TK.seq_k fun K49 hK49 => ?_
              refine TK.block ?_
              refine TK.seq_k fun K50 hK50 => ?_
              refine TK.reg ?_
              refine TL.p (C := cx) (gc := true) (p_mv rfl) rfl rfl ?_
              refine TL.nil ?_
              refine hK50 _ _ ?_
              refine TK.block ?_
              obtain ⟨o51, hO51, hA51⟩ := bind_some hX
              have E51 : ∀ (env : Env) (h : Hp), (∃ _u : Unit, keepE [20, 22] env = [(20, true, Enc.v (r36.1 : (List (List UInt8)))), (22, true, Enc.v (i45 : Int))] ∧ Nd [] ∧ HSub [] h) → X.cartridgelaw2_MatrixCauchy_e51 i45 = some x44x → K49 env h := by
                intro  env h hE hX
                obtain ⟨_u, henv, nd, hs⟩ := hE
                unfold X.cartridgelaw2_MatrixCauchy_e51 at hX
                refine hK49 _ _ (TK.keep [20, 22] ?_)
                rw [henv]
                refine TK.subH hs ?_
                refine TK.reg ?_
                refine TL.p (C := cx) (gc := true) (p_mv rfl) rfl rfl ?_
                refine TL.p (C := cx) (gc := true) (p_add rfl rfl) rfl rfl ?_
                refine TL.p (C := cx) (gc := true) (p_mv rfl) rfl rfl ?_
                refine TL.nil ?_
                exact ⟨_, (some_in hX).symm, (), rfl, Nd_nil, HSub.refl _⟩
              refine TK.iter [20, 22, 23] (fun s env h => match s with | k52 => ∃ _u : Unit, env = [(20, true, Enc.v (r36.1 : (List (List UInt8)))), (22, true, Enc.v (i45 : Int)), (23, true, Enc.v (k52 : Int))] ∧ Nd [] ∧ HSub [] h) hO51 ⟨(), rfl, Nd_nil, HSub.refl _⟩ ?_
              rintro k52 env h x51x ⟨_u, rfl, nd, hs⟩ hX hR51
              refine TK.subH hs ?_
              unfold X.cartridgelaw2_MatrixCauchy_s51 at hX
              try dsimp only at hX
              refine TK.seq_k fun K53 hK53 => ?_
              refine TK.seq_k fun K54 hK54 => ?_
              refine TK.reg ?_
              refine TL.p (C := cx) (gc := true) (p_mv rfl) rfl rfl ?_
              refine TL.p (C := cx) (gc := true) (p_mv rfl) rfl rfl ?_
              refine TL.p (C := cx) (gc := true) (p_mv rfl) rfl rfl ?_
              obtain ⟨e55, he55, hX⟩ := bind_some hX
              refine TL.p (C := cx) (gc := true) (p_iaL (xs := r36.1) kd22 ty23 rfl rfl rfl (fun _ => he55)) rfl rfl ?_
              refine TL.p (C := cx) (gc := true) (p_ldE (xs := r36.1) (a := e55) (e55 : (List UInt8)) ty23 rfl rfl (fun _ => he55) rfl rfl rfl) rfl rfl ?_
              refine TL.p (C := cx) (gc := true) (p_lenL (xs := e55) kd23 rfl) rfl rfl ?_
              refine TL.p (C := cx) (gc := true) (p_lss rfl rfl) rfl rfl ?_
              refine TL.nil ?_
              refine hK54 _ _ ?_
              refine TK.cond (b := (decide (k52 < (e55.length : Int)))) rfl (fun hc => ?_) (fun hc => ?_)
              · have hX := ite_t hc hX
                refine TK.skip ?_
                refine hK53 _ _ ?_
                refine TK.seq_k fun K56 hK56 => ?_
                refine TK.block ?_
                refine TK.seq_k fun K57 hK57 => ?_
                refine TK.reg ?_
                refine TL.p (C := cx) (gc := true) (p_mv rfl) rfl rfl ?_
                refine TL.p (C := cx) (gc := true) (p_mv rfl) rfl rfl ?_
                obtain ⟨e58, he58, hX⟩ := bind_some hX
                refine TL.p (C := cx) (gc := true) (p_iaL (xs := r36.1) kd22 ty23 rfl rfl rfl (fun _ => he58)) rfl rfl ?_
                refine TL.p (C := cx) (gc := true) (p_ldE (xs := r36.1) (a := e58) (e58 : (List UInt8)) ty23 rfl rfl (fun _ => he58) rfl rfl rfl) rfl rfl ?_
                refine TL.p (C := cx) (gc := true) (p_mv rfl) rfl rfl ?_
                obtain ⟨e59, he59, hX⟩ := bind_some hX
                refine TL.p (C := cx) (gc := true) (p_iaL (xs := e58) kd23 ty5 rfl rfl rfl (fun _ => he59)) rfl rfl ?_
                refine TL.p (C := cx) (gc := true) (p_ldE (xs := e58) (a := e59) (e59 : UInt8) ty5 rfl rfl (fun _ => he59) rfl rfl rfl) rfl rfl ?_
                refine TL.p (C := cx) (gc := true) (p8_eql (a := e59) (b := (1 : UInt8)) rfl rfl) rfl rfl ?_
                refine TL.p (C := cx) (gc := true) (p_mv rfl) rfl rfl ?_
                refine TL.p (C := cx) (gc := true) (p_mv rfl) rfl rfl ?_
                refine TL.p (C := cx) (gc := true) (p_eql rfl rfl) rfl rfl ?_
                refine TL.p (C := cx) (gc := true) (p_neB kd4 rfl rfl) rfl rfl ?_
                refine TL.p (C := cx) (gc := true) (p_mv rfl) rfl rfl ?_
                refine TL.p (C := cx) (gc := (!(((e59 == (1 : UInt8)) != (i45 == k52))))) (p_mv rfl (hg := fun e => rfl)) (gcF1 rfl) rfl ?_
                refine TL.p (C := cx) (gc := (!(((e59 == (1 : UInt8)) != (i45 == k52))))) (p_mv rfl (hg := fun e => rfl)) (gcF1 rfl) rfl ?_
                obtain ⟨e60, he60, hX⟩ := bind_some hX
                refine TL.p (C := cx) (gc := (!(((e59 == (1 : UInt8)) != (i45 == k52))))) (p_iaL (xs := r36.1) kd22 ty23 rfl rfl rfl (fun e => optG_t he60 e) (hg := fun e => ⟨e, e⟩)) (gcF1 rfl) rfl ?_
                refine TL.p (C := cx) (gc := (!(((e59 == (1 : UInt8)) != (i45 == k52))))) (p_ldE (xs := r36.1) (a := e60) (e60 : (List UInt8)) ty23 rfl rfl (fun e => optG_t he60 e) rfl rfl rfl (hg := fun e => e)) (gcF1 rfl) rfl ?_
                refine TL.p (C := cx) (gc := (!(((e59 == (1 : UInt8)) != (i45 == k52))))) (p_mv rfl (hg := fun e => rfl)) (gcF1 rfl) rfl ?_
                obtain ⟨e61, he61, hX⟩ := bind_some hX
                refine TL.p (C := cx) (gc := (!(((e59 == (1 : UInt8)) != (i45 == k52))))) (p_iaL (xs := e60) kd23 ty5 rfl rfl rfl (fun e => optG_t he61 e) (hg := fun e => ⟨e, e⟩)) (gcF1 rfl) rfl ?_
                refine TL.p (C := cx) (gc := (!(((e59 == (1 : UInt8)) != (i45 == k52))))) (p_ldE (xs := e60) (a := e61) (e61 : UInt8) ty5 rfl rfl (fun e => optG_t he61 e) rfl rfl rfl (hg := fun e => e)) (gcF1 rfl) rfl ?_
                refine TL.p (C := cx) (gc := (!(((e59 == (1 : UInt8)) != (i45 == k52))))) (p8_gtr (a := e61) (b := (1 : UInt8)) rfl rfl (hg := fun e => ⟨e, rfl⟩)) (gcF1 rfl) rfl ?_
                refine TL.p (C := cx) (gc := true) (p_or rfl rfl (fun e => ⟨rfl, fun h => (not_t h)⟩)) rfl rfl ?_
                refine TL.nil ?_
                refine hK57 _ _ ?_
                refine TK.cond (b := (((e59 == (1 : UInt8)) != (i45 == k52)) || (decide (e61 > (1 : UInt8))))) rfl (fun hc => ?_) (fun hc => ?_)
                · have hX := ite_t hc hX
                  refine TK.seq_k fun K62 hK62 => ?_
                  refine TK.reg ?_
                  refine TL.p (C := cx) (gc := true) (p_mv rfl) rfl rfl ?_
                  refine TL.nil ?_
                  refine hK62 _ _ ?_
                  refine TK.ret ?_
                  obtain rfl := hR51 _ (some_in hX).symm
                  replace hX := hA51
                  obtain rfl := hR44 _ (some_in hX).symm
                  replace hX := hA44
                  try dsimp only [thenQ]
                  exact ret1 (v := Enc.v (false : Bool)) rfl (by obtain rfl := some_in hX; rfl) (v_val _)
                · have hX := ite_f hc hX
                  refine TK.skip ?_
                  refine hK56 _ _ ?_
                  refine TK.reg ?_
                  refine TL.p (C := cx) (gc := true) (p_mv rfl) rfl rfl ?_
                  refine TL.p (C := cx) (gc := true) (p_add rfl rfl) rfl rfl ?_
                  refine TL.p (C := cx) (gc := true) (p_mv rfl) rfl rfl ?_
                  refine TL.nil ?_
                  exact ⟨_, (some_in hX).symm, (), rfl, Nd_nil, HSub.refl _⟩
              · have hX := ite_f hc hX
                refine TK.exit ?_
                obtain rfl := hR51 _ (some_in hX).symm
                exact E51 _ _ ⟨(), rfl, Nd_nil, HSub.refl _⟩ hA51
            · have hX := ite_f hc hX
              refine TK.exit ?_
              obtain rfl := hR44 _ (some_in hX).symm
              exact E44 _ _ ⟨(), rfl, Nd_nil, HSub.refl _⟩ hA44
        refine TK.iter [0, 1, 2, 3, 12, 14, 15] (fun s env h => match s with | (p29, i30) => ∃ b28, env = [(0, true, Enc.v (data1 : Int)), (1, true, Enc.v (parity2 : Int)), (2, true, Enc.v (rows3 : (List Int))), (3, true, Enc.v (cols4 : (List Int))), (12, true, Enc.v (r14.1 : (List (List UInt8)))), (14, true, OL (α := (List UInt8)) b28 p29), (15, true, Enc.v (i30 : Int))] ∧ Nd [(b28, RL (α := (List UInt8)) 23 p29)] ∧ HSub [(b28, RL (α := (List UInt8)) 23 p29)] h) hO27 ⟨b24, rfl, (Nd.pick nd (is := [0]) (by decide)), (HSub.pick nd (is := [0]) (by decide))⟩ ?_
        rintro ⟨p29, i30⟩ env h x27x ⟨b28, rfl, nd, hs⟩ hX hR27
        refine TK.subH hs ?_
        unfold X.cartridgelaw2_MatrixCauchy_s27 at hX
        try dsimp only at hX
        refine TK.seq_k fun K63 hK63 => ?_
        refine TK.seq_k fun K64 hK64 => ?_
        refine TK.reg ?_
        refine TL.p (C := cx) (gc := true) (p_mv rfl) rfl rfl ?_
        refine TL.p (C := cx) (gc := true) (p_mv rfl) rfl rfl ?_
        refine TL.p (C := cx) (gc := true) (p_lenL (xs := rows3) kd46 rfl) rfl rfl ?_
        refine TL.p (C := cx) (gc := true) (p_lss rfl rfl) rfl rfl ?_
        refine TL.nil ?_
        refine hK64 _ _ ?_
        refine TK.cond (b := (decide (i30 < (rows3.length : Int)))) rfl (fun hc => ?_) (fun hc => ?_)
        · have hX := ite_t hc hX
          refine TK.skip ?_
          refine hK63 _ _ ?_
          refine TK.seq_k fun K65 hK65 => ?_
          refine TK.block ?_
          refine TK.seq_k fun K66 hK66 => ?_
          refine TK.reg ?_
          refine TL.p (C := cx) (gc := true) (p_mv rfl) rfl rfl ?_
          refine TL.nil ?_
          refine hK66 _ _ ?_
          refine TK.ownL (α := UInt8) 16 5 nd rfl (.inl rfl) fun b67 nd => ?_
          refine TK.seq_k fun K68 hK68 => ?_
          refine TK.seq_k fun K69 hK69 => ?_
          refine TK.reg ?_
          refine TL.p (C := cx) (gc := true) (p_mv rfl) rfl rfl ?_
          refine TL.nil ?_
          refine hK69 _ _ ?_
          refine TK.block ?_
          obtain ⟨o70, hO70, hA70⟩ := bind_some hX
          have E70 : ∀ (l77 : List UInt8) (env : Env) (h : Hp), (∃ b75 b76, keepE [0, 1, 2, 3, 12, 14, 15, 16] env = [(0, true, Enc.v (data1 : Int)), (1, true, Enc.v (parity2 : Int)), (2, true, Enc.v (rows3 : (List Int))), (3, true, Enc.v (cols4 : (List Int))), (12, true, Enc.v (r14.1 : (List (List UInt8)))), (14, true, OL (α := (List UInt8)) b75 p29), (15, true, Enc.v (i30 : Int)), (16, true, OL (α := UInt8) b76 l77)] ∧ Nd [(b75, RL (α := (List UInt8)) 23 p29), (b76, RL (α := UInt8) 5 l77)] ∧ HSub [(b75, RL (α := (List UInt8)) 23 p29), (b76, RL (α := UInt8) 5 l77)] h) → X.cartridgelaw2_MatrixCauchy_e70 p29 i30 l77 = some x27x → K68 env h := by
            intro l77 env h hE hX
            obtain ⟨b75, b76, henv, nd, hs⟩ := hE
            unfold X.cartridgelaw2_MatrixCauchy_e70 at hX
            refine hK68 _ _ (TK.keep [0, 1, 2, 3, 12, 14, 15, 16] ?_)
            rw [henv]
            refine TK.subH hs ?_
            refine TK.reg ?_
            refine TL.p (C := cx) (gc := true) (p_mv rfl) rfl rfl ?_
            refine TL.p (C := cx) (gc := true) (p_mv rfl) rfl rfl ?_
            refine TL.lay [(118, L l77)] nd (j := 1) rfl ⟨⟨_, rfl, fix_OL nd (j := 1) rfl, rfl⟩, trivial⟩ fun nd => ?_
            refine TL.lit (C := cx) ([l77] : List (List UInt8)) kd22 ty23 rfl ⟨⟨rfl, rfl⟩, trivial⟩ rfl rfl rfl ?_
            obtain ⟨u78, hu78, hX⟩ := bind_some hX
            refine TL.appO (C := cx) nd kd22 bo22 ty23 rfl rfl (j := 0) rfl rfl (Src_L _) (by decide) (need_t hu78) rfl fun nd => ?_
            refine TL.p (C := cx) (gc := true) (p_mv rfl) rfl rfl ?_
            refine TL.nil ?_
            refine hK65 _ _ ?_
            refine TK.reg ?_
            refine TL.p (C := cx) (gc := true) (p_mv rfl) rfl rfl ?_
            refine TL.p (C := cx) (gc := true) (p_add rfl rfl) rfl rfl ?_
            refine TL.p (C := cx) (gc := true) (p_mv rfl) rfl rfl ?_
            refine TL.nil ?_
            exact ⟨_, (some_in hX).symm, b75, rfl, (Nd.pick nd (is := [0]) (by decide)), (HSub.pick nd (is := [0]) (by decide))⟩
          refine TK.iter [0, 1, 2, 3, 12, 14, 15, 16, 17] (fun s env h => match s with | (row73, k74) => ∃ b71 b72, env = [(0, true, Enc.v (data1 : Int)), (1, true, Enc.v (parity2 : Int)), (2, true, Enc.v (rows3 : (List Int))), (3, true, Enc.v (cols4 : (List Int))), (12, true, Enc.v (r14.1 : (List (List UInt8)))), (14, true, OL (α := (List UInt8)) b71 p29), (15, true, Enc.v (i30 : Int)), (16, true, OL (α := UInt8) b72 row73), (17, true, Enc.v (k74 : Int))] ∧ Nd [(b71, RL (α := (List UInt8)) 23 p29), (b72, RL (α := UInt8) 5 row73)] ∧ HSub [(b71, RL (α := (List UInt8)) 23 p29), (b72, RL (α := UInt8) 5 row73)] h) hO70 ⟨b28, b67, rfl, (Nd.pick nd (is := [1, 0]) (by decide)), (HSub.pick nd (is := [1, 0]) (by decide))⟩ ?_
          rintro ⟨row73, k74⟩ env h x70x ⟨b71, b72, rfl, nd, hs⟩ hX hR70
          refine TK.subH hs ?_
          unfold X.cartridgelaw2_MatrixCauchy_s70 at hX
          try dsimp only at hX
          refine TK.seq_k fun K79 hK79 => ?_
          refine TK.seq_k fun K80 hK80 => ?_
          refine TK.reg ?_
          refine TL.p (C := cx) (gc := true) (p_mv rfl) rfl rfl ?_
          refine TL.p (C := cx) (gc := true) (p_mv rfl) rfl rfl ?_
          refine TL.p (C := cx) (gc := true) (p_lenL (xs := rows3) kd46 rfl) rfl rfl ?_
          refine TL.p (C := cx) (gc := true) (p_lss rfl rfl) rfl rfl ?_
          refine TL.nil ?_
          refine hK80 _ _ ?_
          refine TK.cond (b := (decide (k74 < (rows3.length : Int)))) rfl (fun hc => ?_) (fun hc => ?_)
          · have hX := ite_t hc hX
            refine TK.skip ?_
            refine hK79 _ _ ?_
            refine TK.seq_k fun K81 hK81 => ?_
            refine TK.block ?_
            refine TK.pick [1, 0] nd (by decide) fun nd => ?_
            have ndS : Nd [(b71, RL (α := (List UInt8)) 23 p29)] := Nd.pick nd (is := [1]) (by decide)
            refine TK.drwX (h := [(b72, RL (α := UInt8) 5 row73)]) (hS := [(b71, RL (α := (List UInt8)) 23 p29)]) [(0, 0), (0, 1), (0, 2), (0, 3), (0, 4), (0, 5), (0, 6), (0, 7), (0, 8), (0, 9), (0, 10), (0, 11), (0, 12), (0, 13), (0, 14), (2, 15), (0, 16)] mixed (by kernel_rfl) (HSub_app nd) ?_
            refine DR0 (gc := true) rfl (vok_p (C := cx) (p_mv rfl)) rfl rfl ?_
            refine DR0 (gc := true) rfl (vok_p (C := cx) (p_mv rfl)) rfl rfl ?_
            refine DR0 (gc := true) rfl (vok_p (C := cx) (p_mv rfl)) rfl rfl ?_
            refine DR0 (gc := true) rfl (vok_p (C := cx) (p_mv rfl)) rfl rfl ?_
            refine DR0 (gc := true) rfl (vok_p (C := cx) (p_mv rfl)) rfl rfl ?_
            obtain ⟨r82, hr82, hX⟩ := bind_some hX
            refine DR0 (gc := true) rfl (vok_c rfl (fun _ => ⟨rfl, ⟨rfl, ⟨rfl, ⟨rfl, trivial⟩⟩⟩⟩) (fun e => ok_cartridgelaw2_at rows3 i30 parity2 _ hr82)) rfl rfl ?_
            obtain ⟨e83, he83, hX⟩ := bind_some hX
            refine DR0 (gc := true) rfl (vok_p (C := cx) (p_iaL (xs := r14.1) kd22 ty23 rfl rfl rfl (fun _ => he83))) rfl rfl ?_
            refine DR0 (gc := true) rfl (vok_p (C := cx) (p_ldE (xs := r14.1) (a := e83) (e83 : (List UInt8)) ty23 rfl rfl (fun _ => he83) rfl rfl rfl)) rfl rfl ?_
            refine DR0 (gc := true) rfl (vok_p (C := cx) (p_mv rfl)) rfl rfl ?_
            refine DR0 (gc := true) rfl (vok_p (C := cx) (p_mv rfl)) rfl rfl ?_
            refine DR0 (gc := true) rfl (vok_p (C := cx) (p_mv rfl)) rfl rfl ?_
            obtain ⟨r84, hr84, hX⟩ := bind_some hX
            refine DR0 (gc := true) rfl (vok_c rfl (fun _ => ⟨rfl, ⟨rfl, ⟨rfl, ⟨rfl, trivial⟩⟩⟩⟩) (fun e => ok_cartridgelaw2_at cols4 k74 data1 _ hr84)) rfl rfl ?_
            obtain ⟨e85, he85, hX⟩ := bind_some hX
            refine DR0 (gc := true) rfl (vok_p (C := cx) (p_iaL (xs := e83) kd23 ty5 rfl rfl rfl (fun _ => he85))) rfl rfl ?_
            refine DR0 (gc := true) rfl (vok_p (C := cx) (p_ldE (xs := e83) (a := e85) (e85 : UInt8) ty5 rfl rfl (fun _ => he85) rfl rfl rfl)) rfl rfl ?_
            refine DR0 (gc := true) rfl (vok_lit (C := cx) ([e85] : List UInt8) kd23 ty5 rfl ⟨⟨rfl, rfl⟩, trivial⟩ rfl rfl) rfl rfl ?_
            obtain ⟨u86, hu86, hX⟩ := bind_some hX
            refine DR2 rfl rfl ?_
            refine TL.appO (C := cx) nd kd23 bo23 ty5 rfl rfl (j := 0) rfl rfl (Src_L _) (by decide) (need_t hu86) rfl fun nd => ?_
            refine TL.nil ⟨_, [(b72, RL (α := UInt8) 5 (row73 ++ ([e85] : List UInt8)))], rfl, rfl, HSub_app nd, ?_⟩
            refine DR0 (gc := true) rfl (vok_p (C := cx) (p_mv rfl)) rfl rfl ?_
            refine DRend ?_
            refine hK81 _ _ ?_
            refine TK.reg ?_
            refine TL.p (C := cx) (gc := true) (p_mv rfl) rfl rfl ?_
            refine TL.p (C := cx) (gc := true) (p_add rfl rfl) rfl rfl ?_
            refine TL.p (C := cx) (gc := true) (p_mv rfl) rfl rfl ?_
            refine TL.nil ?_
            exact ⟨_, (some_in hX).symm, b71, b72, rfl, (Nd.pick nd (is := [1, 0]) (by decide)), (HSub.pick nd (is := [1, 0]) (by decide))⟩
          · have hX := ite_f hc hX
            refine TK.exit ?_
            obtain rfl := hR70 _ (some_in hX).symm
            exact E70 row73 _ _ ⟨b71, b72, rfl, (Nd.pick nd (is := [0, 1]) (by decide)), (HSub.pick nd (is := [0, 1]) (by decide))⟩ hA70
        · have hX := ite_f hc hX
          refine TK.exit ?_
          obtain rfl := hR27 _ (some_in hX).symm
          exact E27 p29 _ _ ⟨b28, rfl, (Nd.pick nd (is := [0]) (by decide)), (HSub.pick nd (is := [0]) (by decide))⟩ hA27

end Go.Proofs.Ytgkbjnhpmlfgdaa
