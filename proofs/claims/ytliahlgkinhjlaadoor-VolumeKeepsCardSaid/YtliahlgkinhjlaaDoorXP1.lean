import Derived.Test.YtliahlgkinhjlaaDoorXFn
import Derived.Test.YtliahlgkinhjlaaDoorXS
import Derived.Test.YtliahlgkinhjlaaDoorAmK0
import Derived.Test.YtliahlgkinhjlaaDoorAmK1
import Derived.Test.YtliahlgkinhjlaaDoorSh
import Derived.Test.YtliahlgkinhjlaaDoorXP0
/- That they do. -/
namespace Go.Proofs.YtliahlgkinhjlaaDoor
open Go.AM Go.AX
set_option linter.unusedVariables false
set_option maxRecDepth 20000

/-- cartridge/cartridgeref1.More -/
theorem ok_cartridgeref1_More (sum1 : UInt32) (b2 : (List UInt8)) (r : UInt32) (hX : X.cartridgeref1_More sum1 b2 = some r) : Fun Tryd.prog 88 [Enc.v (sum1 : UInt32), Enc.v (b2 : (List UInt8))] (· = Enc.v (r : UInt32)) := by
  refine Fun.of b88 (Nat.le_of_ble_eq_true rfl) (allVal.mem ⟨(by exact (v_val _)), (by exact (v_val _)), trivial⟩) ?_
  unfold k88
  have nd : Nd [] := Nd_nil
  unfold X.cartridgeref1_More at hX
  refine TK.seq_k fun K3 hK3 => ?_
  refine TK.reg ?_
  refine TL.p (C := cx) (gc := true) (p_mv rfl) rfl rfl ?_
  refine TL.nil ?_
  refine hK3 _ _ ?_
  refine TK.seq_k fun K4 hK4 => ?_
  refine TK.reg ?_
  refine TL.p (C := cx) (gc := true) (p_mv rfl) rfl rfl ?_
  refine TL.p (C := cx) (gc := true) (p32_xor (a := sum1) (b := (4294967295 : UInt32)) rfl rfl) rfl rfl ?_
  refine TL.p (C := cx) (gc := true) (p_mv rfl) rfl rfl ?_
  refine TL.nil ?_
  refine hK4 _ _ ?_
  refine TK.seq_k fun K5 hK5 => ?_
  refine TK.seq_k fun K6 hK6 => ?_
  refine TK.reg ?_
  refine TL.p (C := cx) (gc := true) (p_mv rfl) rfl rfl ?_
  refine TL.nil ?_
  refine hK6 _ _ ?_
  refine TK.block ?_
  obtain ⟨o7, hO7, hA7⟩ := bind_some hX
  have E7 : ∀ (c10 : UInt32) (env : Env) (h : Hp), (∃ _u : Unit, keepE [5] env = [(5, true, Enc.v (c10 : UInt32))] ∧ Nd [] ∧ HSub [] h) → X.cartridgeref1_More_e7 c10 = some r → K5 env h := by
    intro c10 env h hE hX
    obtain ⟨_u, henv, nd, hs⟩ := hE
    unfold X.cartridgeref1_More_e7 at hX
    refine hK5 _ _ (TK.keep [5] ?_)
    rw [henv]
    refine TK.subH hs ?_
    refine TK.seq_k fun K11 hK11 => ?_
    refine TK.reg ?_
    refine TL.p (C := cx) (gc := true) (p_mv rfl) rfl rfl ?_
    refine TL.p (C := cx) (gc := true) (p32_xor (a := c10) (b := (4294967295 : UInt32)) rfl rfl) rfl rfl ?_
    refine TL.p (C := cx) (gc := true) (p_mv rfl) rfl rfl ?_
    refine TL.nil ?_
    refine hK11 _ _ ?_
    refine TK.ret ?_
    try dsimp only [thenQ]
    exact ret1 (v := Enc.v ((c10 ^^^ (4294967295 : UInt32)) : UInt32)) rfl (by obtain rfl := some_in hX; rfl) (v_val _)
  refine TK.iter [1, 5, 6] (fun s env h => match s with | (c8, i9) => ∃ _u : Unit, env = [(1, true, Enc.v (b2 : (List UInt8))), (5, true, Enc.v (c8 : UInt32)), (6, true, Enc.v (i9 : Int))] ∧ Nd [] ∧ HSub [] h) hO7 ⟨(), rfl, Nd_nil, HSub.refl _⟩ ?_
  rintro ⟨c8, i9⟩ env h x7x ⟨_u, rfl, nd, hs⟩ hX hR7
  refine TK.subH hs ?_
  unfold X.cartridgeref1_More_s7 at hX
  try dsimp only at hX
  refine TK.seq_k fun K12 hK12 => ?_
  refine TK.seq_k fun K13 hK13 => ?_
  refine TK.reg ?_
  refine TL.p (C := cx) (gc := true) (p_mv rfl) rfl rfl ?_
  refine TL.p (C := cx) (gc := true) (p_mv rfl) rfl rfl ?_
  refine TL.p (C := cx) (gc := true) (p_lenL (xs := b2) kd24 rfl) rfl rfl ?_
  refine TL.p (C := cx) (gc := true) (p_lss rfl rfl) rfl rfl ?_
  refine TL.nil ?_
  refine hK13 _ _ ?_
  refine TK.cond (b := (decide (i9 < (b2.length : Int)))) rfl (fun hc => ?_) (fun hc => ?_)
  · have hX := ite_t hc hX
    refine TK.skip ?_
    refine hK12 _ _ ?_
    refine TK.seq_k fun K14 hK14 => ?_
    refine TK.block ?_
    refine TK.seq_k fun K15 hK15 => ?_
    refine TK.reg ?_
    refine TL.p (C := cx) (gc := true) (p_mv rfl) rfl rfl ?_
    refine TL.p (C := cx) (gc := true) (p_mv rfl) rfl rfl ?_
    refine TL.p (C := cx) (gc := true) (p_mv rfl) rfl rfl ?_
    obtain ⟨e16, he16, hX⟩ := bind_some hX
    refine TL.p (C := cx) (gc := true) (p_iaL (xs := b2) kd24 ty5 rfl rfl rfl (fun _ => he16)) rfl rfl ?_
    refine TL.p (C := cx) (gc := true) (p_ldE (xs := b2) (a := e16) (e16 : UInt8) ty5 rfl rfl (fun _ => he16) rfl rfl rfl) rfl rfl ?_
    refine TL.p (C := cx) (gc := true) (p_cvt src5 kd106 rfl (cv_u32 _)) rfl rfl ?_
    refine TL.p (C := cx) (gc := true) (p32_xor (a := c8) (b := (u32 (e16.toNat : Int))) rfl rfl) rfl rfl ?_
    refine TL.p (C := cx) (gc := true) (p_mv rfl) rfl rfl ?_
    refine TL.nil ?_
    refine hK15 _ _ ?_
    refine TK.seq_k fun K17 hK17 => ?_
    refine TK.reg ?_
    refine TL.p (C := cx) (gc := true) (p_mv rfl) rfl rfl ?_
    refine TL.nil ?_
    refine hK17 _ _ ?_
    refine TK.block ?_
    obtain ⟨o18, hO18, hA18⟩ := bind_some hX
    have E18 : ∀ (c21 : UInt32) (env : Env) (h : Hp), (∃ _u : Unit, keepE [1, 5, 6] env = [(1, true, Enc.v (b2 : (List UInt8))), (5, true, Enc.v (c21 : UInt32)), (6, true, Enc.v (i9 : Int))] ∧ Nd [] ∧ HSub [] h) → X.cartridgeref1_More_e18 i9 c21 = some x7x → K14 env h := by
      intro c21 env h hE hX
      obtain ⟨_u, henv, nd, hs⟩ := hE
      unfold X.cartridgeref1_More_e18 at hX
      refine hK14 _ _ (TK.keep [1, 5, 6] ?_)
      rw [henv]
      refine TK.subH hs ?_
      refine TK.reg ?_
      refine TL.p (C := cx) (gc := true) (p_mv rfl) rfl rfl ?_
      refine TL.p (C := cx) (gc := true) (p_add rfl rfl) rfl rfl ?_
      refine TL.p (C := cx) (gc := true) (p_mv rfl) rfl rfl ?_
      refine TL.nil ?_
      exact ⟨_, (some_in hX).symm, (), rfl, Nd_nil, HSub.refl _⟩
    refine TK.iter [1, 5, 6, 7] (fun s env h => match s with | (c19, k20) => ∃ _u : Unit, env = [(1, true, Enc.v (b2 : (List UInt8))), (5, true, Enc.v (c19 : UInt32)), (6, true, Enc.v (i9 : Int)), (7, true, Enc.v (k20 : Int))] ∧ Nd [] ∧ HSub [] h) hO18 ⟨(), rfl, Nd_nil, HSub.refl _⟩ ?_
    rintro ⟨c19, k20⟩ env h x18x ⟨_u, rfl, nd, hs⟩ hX hR18
    refine TK.subH hs ?_
    unfold X.cartridgeref1_More_s18 at hX
    try dsimp only at hX
    refine TK.seq_k fun K22 hK22 => ?_
    refine TK.seq_k fun K23 hK23 => ?_
    refine TK.reg ?_
    refine TL.p (C := cx) (gc := true) (p_mv rfl) rfl rfl ?_
    refine TL.p (C := cx) (gc := true) (p_lss rfl rfl) rfl rfl ?_
    refine TL.nil ?_
    refine hK23 _ _ ?_
    refine TK.cond (b := (decide (k20 < (8 : Int)))) rfl (fun hc => ?_) (fun hc => ?_)
    · have hX := ite_t hc hX
      refine TK.skip ?_
      refine hK22 _ _ ?_
      refine TK.seq_k fun K24 hK24 => ?_
      have J24 : ∀ (c25 : UInt32) (env : Env) (h : Hp), (∃ _u : Unit, keepE [1, 5, 6, 7] env = [(1, true, Enc.v (b2 : (List UInt8))), (5, true, Enc.v (c25 : UInt32)), (6, true, Enc.v (i9 : Int)), (7, true, Enc.v (k20 : Int))] ∧ Nd [] ∧ HSub [] h) → X.cartridgeref1_More_j24 k20 c25 = some x18x → K24 env h := by
        intro c25 env h hE hX
        obtain ⟨_u, henv, nd, hs⟩ := hE
        unfold X.cartridgeref1_More_j24 at hX
        refine hK24 _ _ (TK.keep [1, 5, 6, 7] ?_)
        rw [henv]
        refine TK.subH hs ?_
        refine TK.reg ?_
        refine TL.p (C := cx) (gc := true) (p_mv rfl) rfl rfl ?_
        refine TL.p (C := cx) (gc := true) (p_add rfl rfl) rfl rfl ?_
        refine TL.p (C := cx) (gc := true) (p_mv rfl) rfl rfl ?_
        refine TL.nil ?_
        exact ⟨_, (some_in hX).symm, (), rfl, Nd_nil, HSub.refl _⟩
      refine TK.block ?_
      refine TK.seq_k fun K26 hK26 => ?_
      refine TK.reg ?_
      refine TL.p (C := cx) (gc := true) (p_mv rfl) rfl rfl ?_
      refine TL.p (C := cx) (gc := true) (p32_and (a := c19) (b := (1 : UInt32)) rfl rfl) rfl rfl ?_
      refine TL.p (C := cx) (gc := true) (p32_eql (a := (c19 &&& (1 : UInt32))) (b := (1 : UInt32)) rfl rfl) rfl rfl ?_
      refine TL.nil ?_
      refine hK26 _ _ ?_
      refine TK.cond (b := ((c19 &&& (1 : UInt32)) == (1 : UInt32))) rfl (fun hc => ?_) (fun hc => ?_)
      · have hX := ite_t hc hX
        refine TK.reg ?_
        refine TL.p (C := cx) (gc := true) (p_mv rfl) rfl rfl ?_
        refine TL.p (C := cx) (gc := true) (p32_shr (a := c19) (b := 1) rfl rfl) rfl rfl ?_
        refine TL.p (C := cx) (gc := true) (p32_xor (a := (shr32 c19 1)) (b := (2197175160 : UInt32)) rfl rfl) rfl rfl ?_
        refine TL.p (C := cx) (gc := true) (p_mv rfl) rfl rfl ?_
        refine TL.nil ?_
        exact J24 ((shr32 c19 1) ^^^ (2197175160 : UInt32)) _ _ ⟨(), rfl, Nd_nil, HSub.refl _⟩ hX
      · have hX := ite_f hc hX
        refine TK.reg ?_
        refine TL.p (C := cx) (gc := true) (p_mv rfl) rfl rfl ?_
        refine TL.p (C := cx) (gc := true) (p32_shr (a := c19) (b := 1) rfl rfl) rfl rfl ?_
        refine TL.p (C := cx) (gc := true) (p_mv rfl) rfl rfl ?_
        refine TL.nil ?_
        exact J24 (shr32 c19 1) _ _ ⟨(), rfl, Nd_nil, HSub.refl _⟩ hX
    · have hX := ite_f hc hX
      refine TK.exit ?_
      obtain rfl := hR18 _ (some_in hX).symm
      exact E18 c19 _ _ ⟨(), rfl, Nd_nil, HSub.refl _⟩ hA18
  · have hX := ite_f hc hX
    refine TK.exit ?_
    obtain rfl := hR7 _ (some_in hX).symm
    exact E7 c8 _ _ ⟨(), rfl, Nd_nil, HSub.refl _⟩ hA7

/-- cartridge/cartridgeref1.Crc -/
theorem ok_cartridgeref1_Crc (b1 : (List UInt8)) (r : UInt32) (hX : X.cartridgeref1_Crc b1 = some r) : Fun Tryd.prog 51 [Enc.v (b1 : (List UInt8))] (· = Enc.v (r : UInt32)) := by
  refine Fun.of b51 (Nat.le_of_ble_eq_true rfl) (allVal.mem ⟨(by exact (v_val _)), trivial⟩) ?_
  unfold k51
  have nd : Nd [] := Nd_nil
  unfold X.cartridgeref1_Crc at hX
  refine TK.seq_k fun K2 hK2 => ?_
  refine TK.reg ?_
  refine TL.p (C := cx) (gc := true) (p_mv rfl) rfl rfl ?_
  refine TL.nil ?_
  refine hK2 _ _ ?_
  refine TK.seq_k fun K3 hK3 => ?_
  refine TK.reg ?_
  refine TL.p (C := cx) (gc := true) (p_mv rfl) rfl rfl ?_
  obtain ⟨r4, hr4, hX⟩ := bind_some hX
  refine TL.cvX rfl rfl rfl (fun _ => ⟨rfl, ⟨rfl, ⟨rfl, trivial⟩⟩⟩) (fun e => ok_cartridgeref1_More (0 : UInt32) b1 _ hr4) ?_
  refine TL.p (C := cx) (gc := true) (p_mv rfl) rfl rfl ?_
  refine TL.nil ?_
  refine hK3 _ _ ?_
  refine TK.ret ?_
  try dsimp only [thenQ]
  exact ret1 (v := Enc.v (r4 : UInt32)) rfl (by obtain rfl := some_in hX; rfl) (v_val _)

/-- cartridge/cartridgeref1.PutFrame -/
theorem ok_cartridgeref1_PutFrame (u1 : Unit_api) (r : ((List UInt8) × Int)) (hX : X.cartridgeref1_PutFrame u1 = some r) : Fun Tryd.prog 19 [Enc.v (u1 : Unit_api)] (· = .tup 2 (ofL [Enc.v r.1, Enc.v r.2])) := by
  refine Fun.of b19 (Nat.le_of_ble_eq_true rfl) (allVal.mem ⟨(by exact (v_val _)), trivial⟩) ?_
  unfold k19
  have nd : Nd [] := Nd_nil
  unfold X.cartridgeref1_PutFrame at hX
  refine TK.seq_k fun K2 hK2 => ?_
  refine TK.reg ?_
  refine TL.boxV (C := cx) (lu := [Enc.v (u1.Kind : Int), Enc.v (u1.Label : Int), Enc.v (u1.Number : Int), Enc.v (u1.Load : (List UInt8))]) nd rfl (Cells_v (u1 : Unit_api)) rfl ?_
  refine TL.p (C := cx) (gc := true) (p_mv rfl) rfl rfl ?_
  refine TL.p (C := cx) (gc := true) (p_mv rfl) rfl rfl ?_
  refine TL.nil ?_
  refine hK2 _ _ ?_
  refine TK.seq_k fun K3 hK3 => ?_
  refine TK.reg ?_
  refine TL.p (C := cx) (gc := true) (p_mv rfl) rfl rfl ?_
  refine TL.nil ?_
  refine hK3 _ _ ?_
  refine TK.seq_k fun K4 hK4 => ?_
  have J4 : ∀ (most5 : Int) (env : Env) (h : Hp), (∃ _u : Unit, keepE [1, 4] env = [(1, true, .vref (ofL [Enc.v (u1.Kind : Int), Enc.v (u1.Label : Int), Enc.v (u1.Number : Int), Enc.v (u1.Load : (List UInt8))]) 4 0), (4, true, Enc.v (most5 : Int))] ∧ Nd [] ∧ HSub [] h) → X.cartridgeref1_PutFrame_j4 u1 most5 = some r → K4 env h := by
    intro most5 env h hE hX
    obtain ⟨_u, henv, nd, hs⟩ := hE
    unfold X.cartridgeref1_PutFrame_j4 at hX
    refine hK4 _ _ (TK.keep [1, 4] ?_)
    rw [henv]
    refine TK.subH hs ?_
    refine TK.seq_k fun K6 hK6 => ?_
    refine TK.block ?_
    refine TK.seq_k fun K7 hK7 => ?_
    refine TK.reg ?_
    refine TL.p (C := cx) (gc := true) (p_faR fs42_0 (by decide) rfl) rfl rfl ?_
    refine TL.p (C := cx) (gc := true) (p_ldR (v := Enc.v (u1.Kind : Int)) ty3 rfl rfl rfl rfl rfl rfl) rfl rfl ?_
    refine TL.p (C := cx) (gc := true) (p_lss rfl rfl) rfl rfl ?_
    refine TL.p (C := cx) (gc := true) (p_mv rfl) rfl rfl ?_
    refine TL.p (C := cx) (gc := (!((decide (u1.Kind < (1 : Int)))))) (p_faR fs42_0 (by decide) rfl (hg := fun e => rfl)) (gcF1 rfl) rfl ?_
    refine TL.p (C := cx) (gc := (!((decide (u1.Kind < (1 : Int)))))) (p_ldR (v := Enc.v (u1.Kind : Int)) ty3 rfl rfl rfl rfl rfl rfl (hg := fun e => e)) (gcF1 rfl) rfl ?_
    refine TL.p (C := cx) (gc := (!((decide (u1.Kind < (1 : Int)))))) (p_gtr rfl rfl (hg := fun e => ⟨e, rfl⟩)) (gcF1 rfl) rfl ?_
    refine TL.p (C := cx) (gc := true) (p_or rfl rfl (fun e => ⟨rfl, fun h => (not_t h)⟩)) rfl rfl ?_
    refine TL.p (C := cx) (gc := true) (p_mv rfl) rfl rfl ?_
    refine TL.p (C := cx) (gc := (!(((decide (u1.Kind < (1 : Int))) || (decide (u1.Kind > (6 : Int))))))) (p_faR fs42_1 (by decide) rfl (hg := fun e => rfl)) (gcF1 rfl) rfl ?_
    refine TL.p (C := cx) (gc := (!(((decide (u1.Kind < (1 : Int))) || (decide (u1.Kind > (6 : Int))))))) (p_ldR (v := Enc.v (u1.Label : Int)) ty3 rfl rfl rfl rfl rfl rfl (hg := fun e => e)) (gcF1 rfl) rfl ?_
    refine TL.p (C := cx) (gc := (!(((decide (u1.Kind < (1 : Int))) || (decide (u1.Kind > (6 : Int))))))) (p_lss rfl rfl (hg := fun e => ⟨e, rfl⟩)) (gcF1 rfl) rfl ?_
    refine TL.p (C := cx) (gc := true) (p_or rfl rfl (fun e => ⟨rfl, fun h => (not_t h)⟩)) rfl rfl ?_
    refine TL.p (C := cx) (gc := true) (p_mv rfl) rfl rfl ?_
    refine TL.p (C := cx) (gc := (!((((decide (u1.Kind < (1 : Int))) || (decide (u1.Kind > (6 : Int)))) || (decide (u1.Label < (1 : Int))))))) (p_faR fs42_1 (by decide) rfl (hg := fun e => rfl)) (gcF1 rfl) rfl ?_
    refine TL.p (C := cx) (gc := (!((((decide (u1.Kind < (1 : Int))) || (decide (u1.Kind > (6 : Int)))) || (decide (u1.Label < (1 : Int))))))) (p_ldR (v := Enc.v (u1.Label : Int)) ty3 rfl rfl rfl rfl rfl rfl (hg := fun e => e)) (gcF1 rfl) rfl ?_
    refine TL.p (C := cx) (gc := (!((((decide (u1.Kind < (1 : Int))) || (decide (u1.Kind > (6 : Int)))) || (decide (u1.Label < (1 : Int))))))) (p_gtr rfl rfl (hg := fun e => ⟨e, rfl⟩)) (gcF1 rfl) rfl ?_
    refine TL.p (C := cx) (gc := true) (p_or rfl rfl (fun e => ⟨rfl, fun h => (not_t h)⟩)) rfl rfl ?_
    refine TL.p (C := cx) (gc := true) (p_mv rfl) rfl rfl ?_
    refine TL.p (C := cx) (gc := (!(((((decide (u1.Kind < (1 : Int))) || (decide (u1.Kind > (6 : Int)))) || (decide (u1.Label < (1 : Int)))) || (decide (u1.Label > (2147483647 : Int))))))) (p_faR fs42_2 (by decide) rfl (hg := fun e => rfl)) (gcF1 rfl) rfl ?_
    refine TL.p (C := cx) (gc := (!(((((decide (u1.Kind < (1 : Int))) || (decide (u1.Kind > (6 : Int)))) || (decide (u1.Label < (1 : Int)))) || (decide (u1.Label > (2147483647 : Int))))))) (p_ldR (v := Enc.v (u1.Number : Int)) ty3 rfl rfl rfl rfl rfl rfl (hg := fun e => e)) (gcF1 rfl) rfl ?_
    refine TL.p (C := cx) (gc := (!(((((decide (u1.Kind < (1 : Int))) || (decide (u1.Kind > (6 : Int)))) || (decide (u1.Label < (1 : Int)))) || (decide (u1.Label > (2147483647 : Int))))))) (p_lss rfl rfl (hg := fun e => ⟨e, rfl⟩)) (gcF1 rfl) rfl ?_
    refine TL.p (C := cx) (gc := true) (p_or rfl rfl (fun e => ⟨rfl, fun h => (not_t h)⟩)) rfl rfl ?_
    refine TL.p (C := cx) (gc := true) (p_mv rfl) rfl rfl ?_
    refine TL.p (C := cx) (gc := (!((((((decide (u1.Kind < (1 : Int))) || (decide (u1.Kind > (6 : Int)))) || (decide (u1.Label < (1 : Int)))) || (decide (u1.Label > (2147483647 : Int)))) || (decide (u1.Number < (0 : Int))))))) (p_faR fs42_2 (by decide) rfl (hg := fun e => rfl)) (gcF1 rfl) rfl ?_
    refine TL.p (C := cx) (gc := (!((((((decide (u1.Kind < (1 : Int))) || (decide (u1.Kind > (6 : Int)))) || (decide (u1.Label < (1 : Int)))) || (decide (u1.Label > (2147483647 : Int)))) || (decide (u1.Number < (0 : Int))))))) (p_ldR (v := Enc.v (u1.Number : Int)) ty3 rfl rfl rfl rfl rfl rfl (hg := fun e => e)) (gcF1 rfl) rfl ?_
    refine TL.p (C := cx) (gc := (!((((((decide (u1.Kind < (1 : Int))) || (decide (u1.Kind > (6 : Int)))) || (decide (u1.Label < (1 : Int)))) || (decide (u1.Label > (2147483647 : Int)))) || (decide (u1.Number < (0 : Int))))))) (p_gtr rfl rfl (hg := fun e => ⟨e, rfl⟩)) (gcF1 rfl) rfl ?_
    refine TL.p (C := cx) (gc := true) (p_or rfl rfl (fun e => ⟨rfl, fun h => (not_t h)⟩)) rfl rfl ?_
    refine TL.p (C := cx) (gc := true) (p_mv rfl) rfl rfl ?_
    refine TL.nil ?_
    refine hK7 _ _ ?_
    refine TK.cond (b := ((((((decide (u1.Kind < (1 : Int))) || (decide (u1.Kind > (6 : Int)))) || (decide (u1.Label < (1 : Int)))) || (decide (u1.Label > (2147483647 : Int)))) || (decide (u1.Number < (0 : Int)))) || (decide (u1.Number > (2147483647 : Int))))) rfl (fun hc => ?_) (fun hc => ?_)
    · have hX := ite_t hc hX
      refine TK.seq_k fun K8 hK8 => ?_
      refine TK.reg ?_
      refine TL.p (C := cx) (gc := true) (p_mv rfl) rfl rfl ?_
      refine TL.p (C := cx) (gc := true) (p_mv rfl) rfl rfl ?_
      refine TL.nil ?_
      refine hK8 _ _ ?_
      refine TK.wk 2 (L ([] : (List UInt8))) rfl Wk_nil ?_
      refine TK.ret ?_
      try dsimp only [thenQ]
      exact retN (vs := [Enc.v (([] : (List UInt8)) : (List UInt8)), Enc.v ((1 : Int) : Int)]) ⟨rfl, rfl, trivial⟩ (by obtain rfl := some_in hX; rfl) (allVal.mem ⟨v_val _, v_val _, trivial⟩)
    · have hX := ite_f hc hX
      refine TK.seq_k fun K9 hK9 => ?_
      refine TK.reg ?_
      refine TL.p (C := cx) (gc := true) (p_faR fs42_3 (by decide) rfl) rfl rfl ?_
      refine TL.p (C := cx) (gc := true) (p_ldR (v := Enc.v (u1.Load : (List UInt8))) ty24 rfl rfl rfl rfl rfl rfl) rfl rfl ?_
      refine TL.p (C := cx) (gc := true) (p_lenL (xs := u1.Load) kd24 rfl) rfl rfl ?_
      refine TL.p (C := cx) (gc := true) (p_mv rfl) rfl rfl ?_
      refine TL.p (C := cx) (gc := true) (p_gtr rfl rfl) rfl rfl ?_
      refine TL.p (C := cx) (gc := true) (p_mv rfl) rfl rfl ?_
      refine TL.nil ?_
      refine hK9 _ _ ?_
      refine TK.cond (b := (decide ((u1.Load.length : Int) > most5))) rfl (fun hc => ?_) (fun hc => ?_)
      · have hX := ite_t hc hX
        refine TK.seq_k fun K10 hK10 => ?_
        refine TK.reg ?_
        refine TL.p (C := cx) (gc := true) (p_mv rfl) rfl rfl ?_
        refine TL.p (C := cx) (gc := true) (p_mv rfl) rfl rfl ?_
        refine TL.nil ?_
        refine hK10 _ _ ?_
        refine TK.wk 2 (L ([] : (List UInt8))) rfl Wk_nil ?_
        refine TK.ret ?_
        try dsimp only [thenQ]
        exact retN (vs := [Enc.v (([] : (List UInt8)) : (List UInt8)), Enc.v ((4 : Int) : Int)]) ⟨rfl, rfl, trivial⟩ (by obtain rfl := some_in hX; rfl) (allVal.mem ⟨v_val _, v_val _, trivial⟩)
      · have hX := ite_f hc hX
        refine TK.skip ?_
        refine hK6 _ _ ?_
        refine TK.seq_k fun K11 hK11 => ?_
        refine TK.reg ?_
        refine TL.p (C := cx) (gc := true) (p_bld (l := [.nils]) ty102 rfl all102 rfl (fun _ => trivial)) rfl rfl ?_
        refine TL.boxO (C := cx) (lu := [.nils]) nd rfl (Cells_agg rfl (allA.mem ⟨trivial, trivial⟩)) rfl fun b12 nd => ?_
        refine TL.p (C := cx) (gc := true) (p_mv rfl) rfl rfl ?_
        refine TL.nil ?_
        refine hK11 _ _ ?_
        refine TK.ownC (α := UInt8) nd (j := 0) rfl 0 5 (.inl rfl) fun b13 nd => ?_
        refine TK.seq_k fun K14 hK14 => ?_
        refine TK.reg ?_
        refine TL.p (C := cx) (gc := true) (p_mv rfl) rfl rfl ?_
        refine TL.p (C := cx) (gc := true) (p_faR fs42_0 (by decide) rfl) rfl rfl ?_
        refine TL.p (C := cx) (gc := true) (p_ldR (v := Enc.v (u1.Kind : Int)) ty3 rfl rfl rfl rfl rfl rfl) rfl rfl ?_
        refine TL.p (C := cx) (gc := true) (p_cvt src3 kd5 rfl (cv_u8 _)) rfl rfl ?_
        obtain ⟨r15, hr15, hX⟩ := bind_some hX
        refine TL.pick [1, 0] nd (by decide) fun nd => ?_
        refine TL.tcX [(b12, RV 102 [OL (α := UInt8) b13 ([] : List UInt8)]), (b13, RL (α := UInt8) 5 ([] : List UInt8))] [] rfl nd (dlt rfl) rfl ⟨rfl, ⟨rfl, ⟨rfl, trivial⟩⟩⟩ (ok_cartridgeref1_Writer_Byte (u8 u1.Kind) ([] : List UInt8) b12 b13 (Nd.take nd 2 rfl) _ hr15) ?_
        rintro _ _ hQ nd
        obtain ⟨b17, rfl, rfl⟩ := hQ
        refine TL.nil ?_
        refine hK14 _ _ ?_
        refine TK.seq_k fun K18 hK18 => ?_
        refine TK.reg ?_
        refine TL.p (C := cx) (gc := true) (p_mv rfl) rfl rfl ?_
        refine TL.p (C := cx) (gc := true) (p_faR fs42_1 (by decide) rfl) rfl rfl ?_
        refine TL.p (C := cx) (gc := true) (p_ldR (v := Enc.v (u1.Label : Int)) ty3 rfl rfl rfl rfl rfl rfl) rfl rfl ?_
        obtain ⟨r19, hr19, hX⟩ := bind_some hX
        refine TL.tcX [(b12, RV 102 [OL (α := UInt8) b17 r15]), (b17, RL (α := UInt8) 5 r15)] [] rfl nd (dlt rfl) rfl ⟨rfl, ⟨rfl, ⟨rfl, trivial⟩⟩⟩ (ok_cartridgeref1_Writer_Int u1.Label r15 b12 b17 (Nd.take nd 2 rfl) _ hr19) ?_
        rintro _ _ hQ nd
        obtain ⟨b21, rfl, rfl⟩ := hQ
        refine TL.nil ?_
        refine hK18 _ _ ?_
        refine TK.seq_k fun K22 hK22 => ?_
        refine TK.reg ?_
        refine TL.p (C := cx) (gc := true) (p_mv rfl) rfl rfl ?_
        refine TL.p (C := cx) (gc := true) (p_faR fs42_2 (by decide) rfl) rfl rfl ?_
        refine TL.p (C := cx) (gc := true) (p_ldR (v := Enc.v (u1.Number : Int)) ty3 rfl rfl rfl rfl rfl rfl) rfl rfl ?_
        obtain ⟨r23, hr23, hX⟩ := bind_some hX
        refine TL.tcX [(b12, RV 102 [OL (α := UInt8) b21 r19]), (b21, RL (α := UInt8) 5 r19)] [] rfl nd (dlt rfl) rfl ⟨rfl, ⟨rfl, ⟨rfl, trivial⟩⟩⟩ (ok_cartridgeref1_Writer_Int u1.Number r19 b12 b21 (Nd.take nd 2 rfl) _ hr23) ?_
        rintro _ _ hQ nd
        obtain ⟨b25, rfl, rfl⟩ := hQ
        refine TL.nil ?_
        refine hK22 _ _ ?_
        refine TK.seq_k fun K26 hK26 => ?_
        have ndS : Nd [] := Nd.pick nd (is := []) (by decide)
        refine TK.drwX (h := [(b12, RV 102 [OL (α := UInt8) b25 r23]), (b25, RL (α := UInt8) 5 r23)]) (hS := []) [(0, 0), (0, 1), (1, 2), (1, 3), (1, 4), (0, 5), (0, 6), (0, 7), (0, 8), (0, 9), (0, 10), (0, 11), (0, 12), (0, 13), (0, 14), (0, 15), (2, 16), (1, 17), (1, 18), (2, 19)] mixed (by kernel_rfl) (HSub_app nd) ?_
        refine DR0 (gc := true) rfl (vok_p (C := cx) (p_mv rfl)) rfl rfl ?_
        refine DR0 (gc := true) rfl (vok_p (C := cx) (p_mv rfl)) rfl rfl ?_
        refine DR1 (gc := true) rfl (vok_p (C := cx) (p_ncR rfl (fun _ => refOK_of nd (j := 0) rfl rfl))) rfl rfl ?_
        refine DR1 (gc := true) rfl (vok_p (C := cx) (p_faV fs102_0 (by decide) rfl nd (j := 0) rfl rfl)) rfl rfl ?_
        refine DR1 (gc := true) rfl (vok_p (C := cx) (p_ldV (v := OL (α := UInt8) b25 r23) ty24 rfl rfl nd (j := 0) rfl rfl rfl rfl rfl)) rfl rfl ?_
        refine DR0 (gc := true) rfl (vok_p (C := cx) (p_faR fs42_3 (by decide) rfl)) rfl rfl ?_
        refine DR0 (gc := true) rfl (vok_p (C := cx) (p_ldR (v := Enc.v (u1.Load : (List UInt8))) ty24 rfl rfl rfl rfl rfl rfl)) rfl rfl ?_
        refine DR0 (gc := true) rfl (vok_p (C := cx) (p_lenL (xs := u1.Load) kd24 rfl)) rfl rfl ?_
        refine DR0 (gc := true) rfl (vok_p (C := cx) (p_shr rfl rfl (fun _ => by omega))) rfl rfl ?_
        refine DR0 (gc := true) rfl (vok_p (C := cx) (p_cvt src3 kd5 rfl (cv_u8 _))) rfl rfl ?_
        refine DR0 (gc := true) rfl (vok_p (C := cx) (p_faR fs42_3 (by decide) rfl)) rfl rfl ?_
        refine DR0 (gc := true) rfl (vok_p (C := cx) (p_ldR (v := Enc.v (u1.Load : (List UInt8))) ty24 rfl rfl rfl rfl rfl rfl)) rfl rfl ?_
        refine DR0 (gc := true) rfl (vok_p (C := cx) (p_lenL (xs := u1.Load) kd24 rfl)) rfl rfl ?_
        refine DR0 (gc := true) rfl (vok_p (C := cx) (p_and64 rfl rfl)) rfl rfl ?_
        refine DR0 (gc := true) rfl (vok_p (C := cx) (p_cvt src3 kd5 rfl (cv_u8 _))) rfl rfl ?_
        refine DR0 (gc := true) rfl (vok_lit (C := cx) ([(u8 (shr64 (u1.Load.length : Int) ((8 : UInt64).toNat : Int))), (u8 (and64 (u1.Load.length : Int) (255 : Int)))] : List UInt8) kd24 ty5 rfl ⟨⟨rfl, rfl⟩, ⟨rfl, rfl⟩, trivial⟩ rfl rfl) rfl rfl ?_
        obtain ⟨u27, hu27, hX⟩ := bind_some hX
        refine DR2 rfl rfl ?_
        refine TL.appO (C := cx) nd kd24 bo24 ty5 rfl rfl (j := 1) rfl rfl (Src_L _) (by decide) (need_t hu27) rfl fun nd => ?_
        refine TL.nil ⟨_, [(b12, RV 102 [OL (α := UInt8) b25 r23]), (b25, RL (α := UInt8) 5 (r23 ++ ([(u8 (shr64 (u1.Load.length : Int) ((8 : UInt64).toNat : Int))), (u8 (and64 (u1.Load.length : Int) (255 : Int)))] : List UInt8)))], rfl, rfl, HSub_app nd, ?_⟩
        refine DR1 (gc := true) rfl (vok_p (C := cx) (p_ncR rfl (fun _ => refOK_of nd (j := 0) rfl rfl))) rfl rfl ?_
        refine DR1 (gc := true) rfl (vok_p (C := cx) (p_faV fs102_0 (by decide) rfl nd (j := 0) rfl rfl)) rfl rfl ?_
        refine DR2n rfl ?_
        refine TL.stV (C := cx) (lu := [OL (α := UInt8) b25 (r23 ++ ([(u8 (shr64 (u1.Load.length : Int) ((8 : UInt64).toNat : Int))), (u8 (and64 (u1.Load.length : Int) (255 : Int)))] : List UInt8))]) nd ty24 rfl (j := 0) rfl rfl rfl (Cells_rs (refOK_of nd (j := 1) rfl rfl)) rfl rfl [OL (α := UInt8) b25 (r23 ++ ([(u8 (shr64 (u1.Load.length : Int) ((8 : UInt64).toNat : Int))), (u8 (and64 (u1.Load.length : Int) (255 : Int)))] : List UInt8))] rfl fun nd => ?_
        refine TL.nil ⟨.nilp, [(b12, RV 102 [OL (α := UInt8) b25 (r23 ++ ([(u8 (shr64 (u1.Load.length : Int) ((8 : UInt64).toNat : Int))), (u8 (and64 (u1.Load.length : Int) (255 : Int)))] : List UInt8))]), (b25, RL (α := UInt8) 5 (r23 ++ ([(u8 (shr64 (u1.Load.length : Int) ((8 : UInt64).toNat : Int))), (u8 (and64 (u1.Load.length : Int) (255 : Int)))] : List UInt8)))], rfl, rfl, HSub_app nd, ?_⟩
        refine DRend ?_
        refine hK26 _ _ ?_
        refine TK.seq_k fun K28 hK28 => ?_
        have ndS : Nd [] := Nd.pick nd (is := []) (by decide)
        refine TK.drwX (h := [(b12, RV 102 [OL (α := UInt8) b25 (r23 ++ ([(u8 (shr64 (u1.Load.length : Int) ((8 : UInt64).toNat : Int))), (u8 (and64 (u1.Load.length : Int) (255 : Int)))] : List UInt8))]), (b25, RL (α := UInt8) 5 (r23 ++ ([(u8 (shr64 (u1.Load.length : Int) ((8 : UInt64).toNat : Int))), (u8 (and64 (u1.Load.length : Int) (255 : Int)))] : List UInt8)))]) (hS := []) [(0, 0), (0, 1), (1, 2), (1, 3), (1, 4), (0, 5), (0, 6), (2, 7), (1, 8), (1, 9), (2, 10)] mixed (by kernel_rfl) (HSub_app nd) ?_
        refine DR0 (gc := true) rfl (vok_p (C := cx) (p_mv rfl)) rfl rfl ?_
        refine DR0 (gc := true) rfl (vok_p (C := cx) (p_mv rfl)) rfl rfl ?_
        refine DR1 (gc := true) rfl (vok_p (C := cx) (p_ncR rfl (fun _ => refOK_of nd (j := 0) rfl rfl))) rfl rfl ?_
        refine DR1 (gc := true) rfl (vok_p (C := cx) (p_faV fs102_0 (by decide) rfl nd (j := 0) rfl rfl)) rfl rfl ?_
        refine DR1 (gc := true) rfl (vok_p (C := cx) (p_ldV (v := OL (α := UInt8) b25 (r23 ++ ([(u8 (shr64 (u1.Load.length : Int) ((8 : UInt64).toNat : Int))), (u8 (and64 (u1.Load.length : Int) (255 : Int)))] : List UInt8))) ty24 rfl rfl nd (j := 0) rfl rfl rfl rfl rfl)) rfl rfl ?_
        refine DR0 (gc := true) rfl (vok_p (C := cx) (p_faR fs42_3 (by decide) rfl)) rfl rfl ?_
        refine DR0 (gc := true) rfl (vok_p (C := cx) (p_ldR (v := Enc.v (u1.Load : (List UInt8))) ty24 rfl rfl rfl rfl rfl rfl)) rfl rfl ?_
        obtain ⟨u29, hu29, hX⟩ := bind_some hX
        refine DR2 rfl rfl ?_
        refine TL.appO (C := cx) nd kd24 bo24 ty5 rfl rfl (j := 1) rfl rfl (Src_L _) (by decide) (need_t hu29) rfl fun nd => ?_
        refine TL.nil ⟨_, [(b12, RV 102 [OL (α := UInt8) b25 (r23 ++ ([(u8 (shr64 (u1.Load.length : Int) ((8 : UInt64).toNat : Int))), (u8 (and64 (u1.Load.length : Int) (255 : Int)))] : List UInt8))]), (b25, RL (α := UInt8) 5 ((r23 ++ ([(u8 (shr64 (u1.Load.length : Int) ((8 : UInt64).toNat : Int))), (u8 (and64 (u1.Load.length : Int) (255 : Int)))] : List UInt8)) ++ u1.Load))], rfl, rfl, HSub_app nd, ?_⟩
        refine DR1 (gc := true) rfl (vok_p (C := cx) (p_ncR rfl (fun _ => refOK_of nd (j := 0) rfl rfl))) rfl rfl ?_
        refine DR1 (gc := true) rfl (vok_p (C := cx) (p_faV fs102_0 (by decide) rfl nd (j := 0) rfl rfl)) rfl rfl ?_
        refine DR2n rfl ?_
        refine TL.stV (C := cx) (lu := [OL (α := UInt8) b25 ((r23 ++ ([(u8 (shr64 (u1.Load.length : Int) ((8 : UInt64).toNat : Int))), (u8 (and64 (u1.Load.length : Int) (255 : Int)))] : List UInt8)) ++ u1.Load)]) nd ty24 rfl (j := 0) rfl rfl rfl (Cells_rs (refOK_of nd (j := 1) rfl rfl)) rfl rfl [OL (α := UInt8) b25 ((r23 ++ ([(u8 (shr64 (u1.Load.length : Int) ((8 : UInt64).toNat : Int))), (u8 (and64 (u1.Load.length : Int) (255 : Int)))] : List UInt8)) ++ u1.Load)] rfl fun nd => ?_
        refine TL.nil ⟨.nilp, [(b12, RV 102 [OL (α := UInt8) b25 ((r23 ++ ([(u8 (shr64 (u1.Load.length : Int) ((8 : UInt64).toNat : Int))), (u8 (and64 (u1.Load.length : Int) (255 : Int)))] : List UInt8)) ++ u1.Load)]), (b25, RL (α := UInt8) 5 ((r23 ++ ([(u8 (shr64 (u1.Load.length : Int) ((8 : UInt64).toNat : Int))), (u8 (and64 (u1.Load.length : Int) (255 : Int)))] : List UInt8)) ++ u1.Load))], rfl, rfl, HSub_app nd, ?_⟩
        refine DRend ?_
        refine hK28 _ _ ?_
        refine TK.seq_k fun K30 hK30 => ?_
        have ndS : Nd [] := Nd.pick nd (is := []) (by decide)
        refine TK.drwX (h := [(b12, RV 102 [OL (α := UInt8) b25 ((r23 ++ ([(u8 (shr64 (u1.Load.length : Int) ((8 : UInt64).toNat : Int))), (u8 (and64 (u1.Load.length : Int) (255 : Int)))] : List UInt8)) ++ u1.Load)]), (b25, RL (α := UInt8) 5 ((r23 ++ ([(u8 (shr64 (u1.Load.length : Int) ((8 : UInt64).toNat : Int))), (u8 (and64 (u1.Load.length : Int) (255 : Int)))] : List UInt8)) ++ u1.Load))]) (hS := []) [(0, 0), (0, 1), (1, 2), (1, 3), (1, 4), (0, 5), (0, 6), (0, 7), (0, 8), (0, 9), (2, 10), (1, 11), (1, 12), (2, 13)] mixed (by kernel_rfl) (HSub_app nd) ?_
        refine DR0 (gc := true) rfl (vok_p (C := cx) (p_mv rfl)) rfl rfl ?_
        refine DR0 (gc := true) rfl (vok_p (C := cx) (p_mv rfl)) rfl rfl ?_
        refine DR1 (gc := true) rfl (vok_p (C := cx) (p_ncR rfl (fun _ => refOK_of nd (j := 0) rfl rfl))) rfl rfl ?_
        refine DR1 (gc := true) rfl (vok_p (C := cx) (p_faV fs102_0 (by decide) rfl nd (j := 0) rfl rfl)) rfl rfl ?_
        refine DR1 (gc := true) rfl (vok_p (C := cx) (p_ldV (v := OL (α := UInt8) b25 ((r23 ++ ([(u8 (shr64 (u1.Load.length : Int) ((8 : UInt64).toNat : Int))), (u8 (and64 (u1.Load.length : Int) (255 : Int)))] : List UInt8)) ++ u1.Load)) ty24 rfl rfl nd (j := 0) rfl rfl rfl rfl rfl)) rfl rfl ?_
        refine DR0 (gc := true) rfl (vok_p (C := cx) (p_mv rfl)) rfl rfl ?_
        refine DR0 (gc := true) rfl (vok_p (C := cx) (p_faR fs42_3 (by decide) rfl)) rfl rfl ?_
        refine DR0 (gc := true) rfl (vok_p (C := cx) (p_ldR (v := Enc.v (u1.Load : (List UInt8))) ty24 rfl rfl rfl rfl rfl rfl)) rfl rfl ?_
        refine DR0 (gc := true) rfl (vok_p (C := cx) (p_lenL (xs := u1.Load) kd24 rfl)) rfl rfl ?_
        refine DR0 (gc := true) rfl (vok_p (C := cx) (p_sub rfl rfl)) rfl rfl ?_
        obtain ⟨u31, hu31, hX⟩ := bind_some hX
        refine DR2 rfl rfl ?_
        refine TL.appOZ (C := cx) nd (0 : UInt8) kd24 kd3 ty5 rfl (fun j hj => by (have : j = 0 := by simpa [Enc.sz] using hj); subst this; rfl) rfl (j := 1) rfl rfl (need_t hu31).1 (by decide) (need_t hu31).2 rfl fun nd => ?_
        refine TL.nil ⟨_, [(b12, RV 102 [OL (α := UInt8) b25 ((r23 ++ ([(u8 (shr64 (u1.Load.length : Int) ((8 : UInt64).toNat : Int))), (u8 (and64 (u1.Load.length : Int) (255 : Int)))] : List UInt8)) ++ u1.Load)]), (b25, RL (α := UInt8) 5 (((r23 ++ ([(u8 (shr64 (u1.Load.length : Int) ((8 : UInt64).toNat : Int))), (u8 (and64 (u1.Load.length : Int) (255 : Int)))] : List UInt8)) ++ u1.Load) ++ (List.replicate (wr (most5 - (u1.Load.length : Int))).toNat (0 : UInt8))))], rfl, rfl, HSub_app nd, ?_⟩
        refine DR1 (gc := true) rfl (vok_p (C := cx) (p_ncR rfl (fun _ => refOK_of nd (j := 0) rfl rfl))) rfl rfl ?_
        refine DR1 (gc := true) rfl (vok_p (C := cx) (p_faV fs102_0 (by decide) rfl nd (j := 0) rfl rfl)) rfl rfl ?_
        refine DR2n rfl ?_
        refine TL.stV (C := cx) (lu := [OL (α := UInt8) b25 (((r23 ++ ([(u8 (shr64 (u1.Load.length : Int) ((8 : UInt64).toNat : Int))), (u8 (and64 (u1.Load.length : Int) (255 : Int)))] : List UInt8)) ++ u1.Load) ++ (List.replicate (wr (most5 - (u1.Load.length : Int))).toNat (0 : UInt8)))]) nd ty24 rfl (j := 0) rfl rfl rfl (Cells_rs (refOK_of nd (j := 1) rfl rfl)) rfl rfl [OL (α := UInt8) b25 (((r23 ++ ([(u8 (shr64 (u1.Load.length : Int) ((8 : UInt64).toNat : Int))), (u8 (and64 (u1.Load.length : Int) (255 : Int)))] : List UInt8)) ++ u1.Load) ++ (List.replicate (wr (most5 - (u1.Load.length : Int))).toNat (0 : UInt8)))] rfl fun nd => ?_
        refine TL.nil ⟨.nilp, [(b12, RV 102 [OL (α := UInt8) b25 (((r23 ++ ([(u8 (shr64 (u1.Load.length : Int) ((8 : UInt64).toNat : Int))), (u8 (and64 (u1.Load.length : Int) (255 : Int)))] : List UInt8)) ++ u1.Load) ++ (List.replicate (wr (most5 - (u1.Load.length : Int))).toNat (0 : UInt8)))]), (b25, RL (α := UInt8) 5 (((r23 ++ ([(u8 (shr64 (u1.Load.length : Int) ((8 : UInt64).toNat : Int))), (u8 (and64 (u1.Load.length : Int) (255 : Int)))] : List UInt8)) ++ u1.Load) ++ (List.replicate (wr (most5 - (u1.Load.length : Int))).toNat (0 : UInt8))))], rfl, rfl, HSub_app nd, ?_⟩
        refine DRend ?_
        refine hK30 _ _ ?_
        refine TK.seq_k fun K32 hK32 => ?_
        refine TK.reg ?_
        refine TL.p (C := cx) (gc := true) (p_mv rfl) rfl rfl ?_
        refine TL.p (C := cx) (gc := true) (p_mv rfl) rfl rfl ?_
        refine TL.p (C := cx) (gc := true) (p_ncR rfl (fun _ => refOK_of nd (j := 0) rfl rfl)) rfl rfl ?_
        refine TL.p (C := cx) (gc := true) (p_faV fs102_0 (by decide) rfl nd (j := 0) rfl rfl) rfl rfl ?_
        refine TL.p (C := cx) (gc := true) (p_ldV (v := OL (α := UInt8) b25 (((r23 ++ ([(u8 (shr64 (u1.Load.length : Int) ((8 : UInt64).toNat : Int))), (u8 (and64 (u1.Load.length : Int) (255 : Int)))] : List UInt8)) ++ u1.Load) ++ (List.replicate (wr (most5 - (u1.Load.length : Int))).toNat (0 : UInt8)))) ty24 rfl rfl nd (j := 0) rfl rfl rfl rfl rfl) rfl rfl ?_
        obtain ⟨r33, hr33, hX⟩ := bind_some hX
        refine TL.lookX [L (((r23 ++ ([(u8 (shr64 (u1.Load.length : Int) ((8 : UInt64).toNat : Int))), (u8 (and64 (u1.Load.length : Int) (255 : Int)))] : List UInt8)) ++ u1.Load) ++ (List.replicate (wr (most5 - (u1.Load.length : Int))).toNat (0 : UInt8)))] rfl rfl rfl (fun _ => ⟨rfl, ⟨rfl, trivial⟩⟩) ⟨look_OL nd (j := 1) rfl, trivial⟩ (fun e => ok_cartridgeref1_Crc (((r23 ++ ([(u8 (shr64 (u1.Load.length : Int) ((8 : UInt64).toNat : Int))), (u8 (and64 (u1.Load.length : Int) (255 : Int)))] : List UInt8)) ++ u1.Load) ++ (List.replicate (wr (most5 - (u1.Load.length : Int))).toNat (0 : UInt8))) _ hr33) (trivial) ?_
        refine TL.p (C := cx) (gc := true) (p_cvt src106 kd3 rfl (cv_32 r33)) rfl rfl ?_
        obtain ⟨r34, hr34, hX⟩ := bind_some hX
        refine TL.tcX [(b12, RV 102 [OL (α := UInt8) b25 (((r23 ++ ([(u8 (shr64 (u1.Load.length : Int) ((8 : UInt64).toNat : Int))), (u8 (and64 (u1.Load.length : Int) (255 : Int)))] : List UInt8)) ++ u1.Load) ++ (List.replicate (wr (most5 - (u1.Load.length : Int))).toNat (0 : UInt8)))]), (b25, RL (α := UInt8) 5 (((r23 ++ ([(u8 (shr64 (u1.Load.length : Int) ((8 : UInt64).toNat : Int))), (u8 (and64 (u1.Load.length : Int) (255 : Int)))] : List UInt8)) ++ u1.Load) ++ (List.replicate (wr (most5 - (u1.Load.length : Int))).toNat (0 : UInt8))))] [] rfl nd (dlt rfl) rfl ⟨rfl, ⟨rfl, ⟨rfl, trivial⟩⟩⟩ (ok_cartridgeref1_Writer_Int (r33.toNat : Int) (((r23 ++ ([(u8 (shr64 (u1.Load.length : Int) ((8 : UInt64).toNat : Int))), (u8 (and64 (u1.Load.length : Int) (255 : Int)))] : List UInt8)) ++ u1.Load) ++ (List.replicate (wr (most5 - (u1.Load.length : Int))).toNat (0 : UInt8))) b12 b25 (Nd.take nd 2 rfl) _ hr34) ?_
        rintro _ _ hQ nd
        obtain ⟨b36, rfl, rfl⟩ := hQ
        refine TL.nil ?_
        refine hK32 _ _ ?_
        refine TK.seq_k fun K37 hK37 => ?_
        refine TK.reg ?_
        refine TL.p (C := cx) (gc := true) (p_mv rfl) rfl rfl ?_
        refine TL.p (C := cx) (gc := true) (p_ncR rfl (fun _ => refOK_of nd (j := 0) rfl rfl)) rfl rfl ?_
        refine TL.p (C := cx) (gc := true) (p_faV fs102_0 (by decide) rfl nd (j := 0) rfl rfl) rfl rfl ?_
        refine TL.p (C := cx) (gc := true) (p_ldV (v := OL (α := UInt8) b36 r34) ty24 rfl rfl nd (j := 0) rfl rfl rfl rfl rfl) rfl rfl ?_
        refine TL.p (C := cx) (gc := true) (p_mv rfl) rfl rfl ?_
        refine TL.p (C := cx) (gc := true) (p_mv rfl) rfl rfl ?_
        refine TL.nil ?_
        refine hK37 _ _ ?_
        refine TK.layR (l2' := [Enc.v (r34 : (List UInt8))]) [(2, L r34)] nd (j := 1) rfl 0 rfl rfl ⟨fix_OL nd (j := 1) rfl, trivial⟩ ⟨⟨_, rfl, fix_OL nd (j := 1) rfl, rfl⟩, trivial⟩ fun nd => ?_
        refine TK.ret ?_
        try dsimp only [thenQ]
        exact retN (vs := [Enc.v (r34 : (List UInt8)), Enc.v ((0 : Int) : Int)]) ⟨rfl, rfl, trivial⟩ (by obtain rfl := some_in hX; rfl) (allVal.mem ⟨v_val _, v_val _, trivial⟩)
  refine TK.seq_k fun K38 hK38 => ?_
  refine TK.reg ?_
  refine TL.p (C := cx) (gc := true) (p_faR fs42_0 (by decide) rfl) rfl rfl ?_
  refine TL.p (C := cx) (gc := true) (p_ldR (v := Enc.v (u1.Kind : Int)) ty3 rfl rfl rfl rfl rfl rfl) rfl rfl ?_
  refine TL.p (C := cx) (gc := true) (p_eql rfl rfl) rfl rfl ?_
  refine TL.nil ?_
  refine hK38 _ _ ?_
  refine TK.cond (b := (u1.Kind == (6 : Int))) rfl (fun hc => ?_) (fun hc => ?_)
  · have hX := ite_t hc hX
    refine TK.reg ?_
    refine TL.p (C := cx) (gc := true) (p_mv rfl) rfl rfl ?_
    refine TL.nil ?_
    exact J4 (79 : Int) _ _ ⟨(), rfl, Nd_nil, HSub.refl _⟩ hX
  · have hX := ite_f hc hX
    refine TK.skip ?_
    exact J4 (64 : Int) _ _ ⟨(), rfl, Nd_nil, HSub.refl _⟩ hX

/-- cartridge/cartridgeref1.PathParts -/
theorem ok_cartridgeref1_PathParts (s1 : Str) (r : (List Str)) (hX : X.cartridgeref1_PathParts s1 = some r) : Fun Tryd.prog 100 [Enc.v (s1 : Str)] (· = Enc.v (r : (List Str))) := by
  refine Fun.of b100 (Nat.le_of_ble_eq_true rfl) (allVal.mem ⟨(by exact (v_val _)), trivial⟩) ?_
  unfold k100
  have nd : Nd [] := Nd_nil
  unfold X.cartridgeref1_PathParts at hX
  refine TK.seq_k fun K2 hK2 => ?_
  refine TK.reg ?_
  refine TL.p (C := cx) (gc := true) (p_mv rfl) rfl rfl ?_
  refine TL.nil ?_
  refine hK2 _ _ ?_
  refine TK.seq_k fun K3 hK3 => ?_
  refine TK.seq_k fun K4 hK4 => ?_
  refine TK.reg ?_
  refine TL.p (C := cx) (gc := true) (p_mv rfl) rfl rfl ?_
  refine TL.p (C := cx) (gc := true) (p_lenS (s := s1) kd9 rfl) rfl rfl ?_
  refine TL.p (C := cx) (gc := true) (p_lss rfl rfl) rfl rfl ?_
  refine TL.p (C := cx) (gc := true) (p_mv rfl) rfl rfl ?_
  refine TL.p (C := cx) (gc := (!((decide ((s1.l.length : Int) < (1 : Int)))))) (p_mv rfl (hg := fun e => rfl)) (gcF1 rfl) rfl ?_
  refine TL.p (C := cx) (gc := (!((decide ((s1.l.length : Int) < (1 : Int)))))) (p_lenS (s := s1) kd9 rfl (hg := fun e => e)) (gcF1 rfl) rfl ?_
  refine TL.p (C := cx) (gc := (!((decide ((s1.l.length : Int) < (1 : Int)))))) (p_gtr rfl rfl (hg := fun e => ⟨e, rfl⟩)) (gcF1 rfl) rfl ?_
  refine TL.p (C := cx) (gc := true) (p_or rfl rfl (fun e => ⟨rfl, fun h => (not_t h)⟩)) rfl rfl ?_
  refine TL.nil ?_
  refine hK4 _ _ ?_
  refine TK.cond (b := ((decide ((s1.l.length : Int) < (1 : Int))) || (decide ((s1.l.length : Int) > (24 : Int))))) rfl (fun hc => ?_) (fun hc => ?_)
  · have hX := ite_t hc hX
    refine TK.seq_k fun K5 hK5 => ?_
    refine TK.reg ?_
    refine TL.p (C := cx) (gc := true) (p_mv rfl) rfl rfl ?_
    refine TL.nil ?_
    refine hK5 _ _ ?_
    refine TK.wk 2 (L ([] : (List Str))) rfl Wk_nil ?_
    refine TK.ret ?_
    try dsimp only [thenQ]
    exact ret1 (v := Enc.v (([] : (List Str)) : (List Str))) rfl (by obtain rfl := some_in hX; rfl) (v_val _)
  · have hX := ite_f hc hX
    refine TK.skip ?_
    refine hK3 _ _ ?_
    refine TK.seq_k fun K6 hK6 => ?_
    refine TK.reg ?_
    refine TL.p (C := cx) (gc := true) (p_mv rfl) rfl rfl ?_
    refine TL.nil ?_
    refine hK6 _ _ ?_
    refine TK.ownL (α := Str) 3 9 nd rfl (.inl rfl) fun b7 nd => ?_
    refine TK.seq_k fun K8 hK8 => ?_
    refine TK.reg ?_
    refine TL.p (C := cx) (gc := true) (p_mv rfl) rfl rfl ?_
    refine TL.nil ?_
    refine hK8 _ _ ?_
    refine TK.seq_k fun K9 hK9 => ?_
    refine TK.seq_k fun K10 hK10 => ?_
    refine TK.reg ?_
    refine TL.p (C := cx) (gc := true) (p_mv rfl) rfl rfl ?_
    refine TL.nil ?_
    refine hK10 _ _ ?_
    refine TK.block ?_
    obtain ⟨o11, hO11, hA11⟩ := bind_some hX
    have E11 : ∀ (l17 : List Str) (env : Env) (h : Hp), (∃ b16, keepE [3] env = [(3, true, OL (α := Str) b16 l17)] ∧ Nd [(b16, RL (α := Str) 9 l17)] ∧ HSub [(b16, RL (α := Str) 9 l17)] h) → X.cartridgeref1_PathParts_e11 l17 = some r → K9 env h := by
      intro l17 env h hE hX
      obtain ⟨b16, henv, nd, hs⟩ := hE
      unfold X.cartridgeref1_PathParts_e11 at hX
      refine hK9 _ _ (TK.keep [3] ?_)
      rw [henv]
      refine TK.subH hs ?_
      refine TK.seq_k fun K18 hK18 => ?_
      refine TK.reg ?_
      refine TL.p (C := cx) (gc := true) (p_mv rfl) rfl rfl ?_
      refine TL.p (C := cx) (gc := true) (p_mv rfl) rfl rfl ?_
      refine TL.nil ?_
      refine hK18 _ _ ?_
      refine TK.lay [(2, L l17)] nd (j := 0) rfl ⟨⟨_, rfl, fix_OL nd (j := 0) rfl, rfl⟩, trivial⟩ fun nd => ?_
      refine TK.ret ?_
      try dsimp only [thenQ]
      exact ret1 (v := Enc.v (l17 : (List Str))) rfl (by obtain rfl := some_in hX; rfl) (v_val _)
    refine TK.iter [0, 3, 4, 5] (fun s env h => match s with | (l13, w14, i15) => ∃ b12, env = [(0, true, Enc.v (s1 : Str)), (3, true, OL (α := Str) b12 l13), (4, true, Enc.v (w14 : Str)), (5, true, Enc.v (i15 : Int))] ∧ Nd [(b12, RL (α := Str) 9 l13)] ∧ HSub [(b12, RL (α := Str) 9 l13)] h) hO11 ⟨b7, rfl, (Nd.pick nd (is := [0]) (by decide)), (HSub.pick nd (is := [0]) (by decide))⟩ ?_
    rintro ⟨l13, w14, i15⟩ env h x11x ⟨b12, rfl, nd, hs⟩ hX hR11
    refine TK.subH hs ?_
    unfold X.cartridgeref1_PathParts_s11 at hX
    try dsimp only at hX
    refine TK.seq_k fun K19 hK19 => ?_
    refine TK.seq_k fun K20 hK20 => ?_
    refine TK.reg ?_
    refine TL.p (C := cx) (gc := true) (p_mv rfl) rfl rfl ?_
    refine TL.p (C := cx) (gc := true) (p_mv rfl) rfl rfl ?_
    refine TL.p (C := cx) (gc := true) (p_lenS (s := s1) kd9 rfl) rfl rfl ?_
    refine TL.p (C := cx) (gc := true) (p_leq rfl rfl) rfl rfl ?_
    refine TL.nil ?_
    refine hK20 _ _ ?_
    refine TK.cond (b := (decide (i15 ≤ (s1.l.length : Int)))) rfl (fun hc => ?_) (fun hc => ?_)
    · have hX := ite_t hc hX
      refine TK.skip ?_
      refine hK19 _ _ ?_
      refine TK.seq_k fun K21 hK21 => ?_
      have J21 : ∀ (l23 : List Str) (w24 : Str) (env : Env) (h : Hp), (∃ b22, keepE [0, 3, 4, 5] env = [(0, true, Enc.v (s1 : Str)), (3, true, OL (α := Str) b22 l23), (4, true, Enc.v (w24 : Str)), (5, true, Enc.v (i15 : Int))] ∧ Nd [(b22, RL (α := Str) 9 l23)] ∧ HSub [(b22, RL (α := Str) 9 l23)] h) → X.cartridgeref1_PathParts_j21 i15 l23 w24 = some x11x → K21 env h := by
        intro l23 w24 env h hE hX
        obtain ⟨b22, henv, nd, hs⟩ := hE
        unfold X.cartridgeref1_PathParts_j21 at hX
        refine hK21 _ _ (TK.keep [0, 3, 4, 5] ?_)
        rw [henv]
        refine TK.subH hs ?_
        refine TK.reg ?_
        refine TL.p (C := cx) (gc := true) (p_mv rfl) rfl rfl ?_
        refine TL.p (C := cx) (gc := true) (p_add rfl rfl) rfl rfl ?_
        refine TL.p (C := cx) (gc := true) (p_mv rfl) rfl rfl ?_
        refine TL.nil ?_
        exact ⟨_, (some_in hX).symm, b22, rfl, (Nd.pick nd (is := [0]) (by decide)), (HSub.pick nd (is := [0]) (by decide))⟩
      refine TK.block ?_
      refine TK.seq_k fun K25 hK25 => ?_
      refine TK.seq_k fun K26 hK26 => ?_
      refine TK.reg ?_
      refine TL.p (C := cx) (gc := true) (p_mv rfl) rfl rfl ?_
      refine TL.p (C := cx) (gc := true) (p_mv rfl) rfl rfl ?_
      refine TL.p (C := cx) (gc := true) (p_lenS (s := s1) kd9 rfl) rfl rfl ?_
      refine TL.p (C := cx) (gc := true) (p_eql rfl rfl) rfl rfl ?_
      refine TL.p (C := cx) (gc := true) (p_mv rfl) rfl rfl ?_
      refine TL.p (C := cx) (gc := (!((i15 == (s1.l.length : Int))))) (p_mv rfl (hg := fun e => rfl)) (gcF1 rfl) rfl ?_
      refine TL.p (C := cx) (gc := (!((i15 == (s1.l.length : Int))))) (p_mv rfl (hg := fun e => rfl)) (gcF1 rfl) rfl ?_
      obtain ⟨x27, hx27, hX⟩ := bind_some hX
      refine TL.p (C := cx) (gc := (!((i15 == (s1.l.length : Int))))) (p_ix kd9 rfl rfl (fun e => optG_t hx27 e) (hg := fun e => ⟨e, e⟩)) (gcF1 rfl) rfl ?_
      refine TL.p (C := cx) (gc := (!((i15 == (s1.l.length : Int))))) (p8_eql (a := x27) (b := (47 : UInt8)) rfl rfl (hg := fun e => ⟨e, rfl⟩)) (gcF1 rfl) rfl ?_
      refine TL.p (C := cx) (gc := true) (p_or rfl rfl (fun e => ⟨rfl, fun h => (not_t h)⟩)) rfl rfl ?_
      refine TL.nil ?_
      refine hK26 _ _ ?_
      refine TK.cond (b := ((i15 == (s1.l.length : Int)) || (x27 == (47 : UInt8)))) rfl (fun hc => ?_) (fun hc => ?_)
      · have hX := ite_t hc hX
        refine TK.seq_k fun K28 hK28 => ?_
        refine TK.seq_k fun K29 hK29 => ?_
        refine TK.reg ?_
        refine TL.p (C := cx) (gc := true) (p_mv rfl) rfl rfl ?_
        refine TL.p (C := cx) (gc := true) (ps_eql (s := w14) (r := (Str.mk [])) rfl rfl) rfl rfl ?_
        refine TL.p (C := cx) (gc := true) (p_mv rfl) rfl rfl ?_
        refine TL.p (C := cx) (gc := (!((w14.l == (Str.mk []).l)))) (p_mv rfl (hg := fun e => rfl)) (gcF1 rfl) rfl ?_
        refine TL.p (C := cx) (gc := (!((w14.l == (Str.mk []).l)))) (ps_eql (s := w14) (r := (Str.mk [46])) rfl rfl (hg := fun e => ⟨e, rfl⟩)) (gcF1 rfl) rfl ?_
        refine TL.p (C := cx) (gc := true) (p_or rfl rfl (fun e => ⟨rfl, fun h => (not_t h)⟩)) rfl rfl ?_
        refine TL.p (C := cx) (gc := true) (p_mv rfl) rfl rfl ?_
        refine TL.p (C := cx) (gc := (!(((w14.l == (Str.mk []).l) || (w14.l == (Str.mk [46]).l))))) (p_mv rfl (hg := fun e => rfl)) (gcF1 rfl) rfl ?_
        refine TL.p (C := cx) (gc := (!(((w14.l == (Str.mk []).l) || (w14.l == (Str.mk [46]).l))))) (ps_eql (s := w14) (r := (Str.mk [46, 46])) rfl rfl (hg := fun e => ⟨e, rfl⟩)) (gcF1 rfl) rfl ?_
        refine TL.p (C := cx) (gc := true) (p_or rfl rfl (fun e => ⟨rfl, fun h => (not_t h)⟩)) rfl rfl ?_
        refine TL.nil ?_
        refine hK29 _ _ ?_
        refine TK.cond (b := (((w14.l == (Str.mk []).l) || (w14.l == (Str.mk [46]).l)) || (w14.l == (Str.mk [46, 46]).l))) rfl (fun hc => ?_) (fun hc => ?_)
        · have hX := ite_t hc hX
          refine TK.seq_k fun K30 hK30 => ?_
          refine TK.reg ?_
          refine TL.p (C := cx) (gc := true) (p_mv rfl) rfl rfl ?_
          refine TL.nil ?_
          refine hK30 _ _ ?_
          refine TK.wk 2 (L ([] : (List Str))) rfl Wk_nil ?_
          refine TK.ret ?_
          obtain rfl := hR11 _ (some_in hX).symm
          replace hX := hA11
          try dsimp only [thenQ]
          exact ret1 (v := Enc.v (([] : (List Str)) : (List Str))) rfl (by obtain rfl := some_in hX; rfl) (v_val _)
        · have hX := ite_f hc hX
          refine TK.skip ?_
          refine hK28 _ _ ?_
          refine TK.seq_k fun K31 hK31 => ?_
          refine TK.reg ?_
          refine TL.p (C := cx) (gc := true) (p_mv rfl) rfl rfl ?_
          refine TL.p (C := cx) (gc := true) (p_mv rfl) rfl rfl ?_
          refine TL.lit (C := cx) ([w14] : List Str) kd80 ty9 rfl ⟨⟨rfl, rfl⟩, trivial⟩ rfl rfl rfl ?_
          obtain ⟨u33, hu33, hX⟩ := bind_some hX
          refine TL.appO (C := cx) nd kd80 bo80 ty9 rfl rfl (j := 0) rfl rfl (Src_L _) (by decide) (need_t hu33) rfl fun nd => ?_
          refine TL.p (C := cx) (gc := true) (p_mv rfl) rfl rfl ?_
          refine TL.nil ?_
          refine hK31 _ _ ?_
          refine TK.seq_k fun K34 hK34 => ?_
          refine TK.reg ?_
          refine TL.p (C := cx) (gc := true) (p_mv rfl) rfl rfl ?_
          refine TL.nil ?_
          refine hK34 _ _ ?_
          refine TK.exit ?_
          exact J21 (l13 ++ ([w14] : List Str)) (Str.mk []) _ _ ⟨b12, rfl, (Nd.pick nd (is := [0]) (by decide)), (HSub.pick nd (is := [0]) (by decide))⟩ hX
      · have hX := ite_f hc hX
        refine TK.skip ?_
        refine hK25 _ _ ?_
        refine TK.seq_k fun K35 hK35 => ?_
        refine TK.reg ?_
        refine TL.p (C := cx) (gc := true) (p_mv rfl) rfl rfl ?_
        refine TL.p (C := cx) (gc := true) (p_mv rfl) rfl rfl ?_
        obtain ⟨x36, hx36, hX⟩ := bind_some hX
        refine TL.p (C := cx) (gc := true) (p_ix kd9 rfl rfl (fun _ => hx36)) rfl rfl ?_
        refine TL.p (C := cx) (gc := true) (p_mv rfl) rfl rfl ?_
        refine TL.nil ?_
        refine hK35 _ _ ?_
        refine TK.seq_k fun K37 hK37 => ?_
        refine TK.seq_k fun K38 hK38 => ?_
        refine TK.reg ?_
        refine TL.p (C := cx) (gc := true) (p_mv rfl) rfl rfl ?_
        refine TL.p (C := cx) (gc := true) (p8_geq (a := x36) (b := (97 : UInt8)) rfl rfl) rfl rfl ?_
        refine TL.p (C := cx) (gc := true) (p_mv rfl) rfl rfl ?_
        refine TL.p (C := cx) (gc := ((decide (x36 ≥ (97 : UInt8))))) (p_mv rfl (hg := fun e => rfl)) (gcT1 rfl) rfl ?_
        refine TL.p (C := cx) (gc := ((decide (x36 ≥ (97 : UInt8))))) (p8_leq (a := x36) (b := (122 : UInt8)) rfl rfl (hg := fun e => ⟨e, rfl⟩)) (gcT1 rfl) rfl ?_
        refine TL.p (C := cx) (gc := true) (p_and rfl rfl (fun e => ⟨rfl, fun h => h⟩)) rfl rfl ?_
        refine TL.p (C := cx) (gc := true) (p_mv rfl) rfl rfl ?_
        refine TL.p (C := cx) (gc := (!(((decide (x36 ≥ (97 : UInt8))) && (decide (x36 ≤ (122 : UInt8))))))) (p_mv rfl (hg := fun e => rfl)) (gcF1 rfl) rfl ?_
        refine TL.p (C := cx) (gc := (!(((decide (x36 ≥ (97 : UInt8))) && (decide (x36 ≤ (122 : UInt8))))))) (p8_geq (a := x36) (b := (48 : UInt8)) rfl rfl (hg := fun e => ⟨e, rfl⟩)) (gcF1 rfl) rfl ?_
        refine TL.p (C := cx) (gc := (!(((decide (x36 ≥ (97 : UInt8))) && (decide (x36 ≤ (122 : UInt8))))))) (p_mv rfl (hg := fun e => e)) (gcF1 rfl) rfl ?_
        refine TL.p (C := cx) (gc := ((!(((decide (x36 ≥ (97 : UInt8))) && (decide (x36 ≤ (122 : UInt8)))))) && ((decide (x36 ≥ (48 : UInt8)))))) (p_mv rfl (hg := fun e => rfl)) (gcT rfl) rfl ?_
        refine TL.p (C := cx) (gc := ((!(((decide (x36 ≥ (97 : UInt8))) && (decide (x36 ≤ (122 : UInt8)))))) && ((decide (x36 ≥ (48 : UInt8)))))) (p8_leq (a := x36) (b := (57 : UInt8)) rfl rfl (hg := fun e => ⟨e, rfl⟩)) (gcT rfl) rfl ?_
        refine TL.p (C := cx) (gc := (!(((decide (x36 ≥ (97 : UInt8))) && (decide (x36 ≤ (122 : UInt8))))))) (p_and rfl rfl (fun e => ⟨e, fun h => (and_i e h)⟩)) (gcF1 rfl) rfl ?_
        refine TL.p (C := cx) (gc := true) (p_or rfl rfl (fun e => ⟨rfl, fun h => (not_t h)⟩)) rfl rfl ?_
        refine TL.p (C := cx) (gc := true) (p_mv rfl) rfl rfl ?_
        refine TL.p (C := cx) (gc := (!((((decide (x36 ≥ (97 : UInt8))) && (decide (x36 ≤ (122 : UInt8)))) || ((decide (x36 ≥ (48 : UInt8))) && (decide (x36 ≤ (57 : UInt8)))))))) (p_mv rfl (hg := fun e => rfl)) (gcF1 rfl) rfl ?_
        refine TL.p (C := cx) (gc := (!((((decide (x36 ≥ (97 : UInt8))) && (decide (x36 ≤ (122 : UInt8)))) || ((decide (x36 ≥ (48 : UInt8))) && (decide (x36 ≤ (57 : UInt8)))))))) (p8_eql (a := x36) (b := (46 : UInt8)) rfl rfl (hg := fun e => ⟨e, rfl⟩)) (gcF1 rfl) rfl ?_
        refine TL.p (C := cx) (gc := true) (p_or rfl rfl (fun e => ⟨rfl, fun h => (not_t h)⟩)) rfl rfl ?_
        refine TL.p (C := cx) (gc := true) (p_mv rfl) rfl rfl ?_
        refine TL.p (C := cx) (gc := (!(((((decide (x36 ≥ (97 : UInt8))) && (decide (x36 ≤ (122 : UInt8)))) || ((decide (x36 ≥ (48 : UInt8))) && (decide (x36 ≤ (57 : UInt8))))) || (x36 == (46 : UInt8)))))) (p_mv rfl (hg := fun e => rfl)) (gcF1 rfl) rfl ?_
        refine TL.p (C := cx) (gc := (!(((((decide (x36 ≥ (97 : UInt8))) && (decide (x36 ≤ (122 : UInt8)))) || ((decide (x36 ≥ (48 : UInt8))) && (decide (x36 ≤ (57 : UInt8))))) || (x36 == (46 : UInt8)))))) (p8_eql (a := x36) (b := (45 : UInt8)) rfl rfl (hg := fun e => ⟨e, rfl⟩)) (gcF1 rfl) rfl ?_
        refine TL.p (C := cx) (gc := true) (p_or rfl rfl (fun e => ⟨rfl, fun h => (not_t h)⟩)) rfl rfl ?_
        refine TL.p (C := cx) (gc := true) (p_mv rfl) rfl rfl ?_
        refine TL.p (C := cx) (gc := (!((((((decide (x36 ≥ (97 : UInt8))) && (decide (x36 ≤ (122 : UInt8)))) || ((decide (x36 ≥ (48 : UInt8))) && (decide (x36 ≤ (57 : UInt8))))) || (x36 == (46 : UInt8))) || (x36 == (45 : UInt8)))))) (p_mv rfl (hg := fun e => rfl)) (gcF1 rfl) rfl ?_
        refine TL.p (C := cx) (gc := (!((((((decide (x36 ≥ (97 : UInt8))) && (decide (x36 ≤ (122 : UInt8)))) || ((decide (x36 ≥ (48 : UInt8))) && (decide (x36 ≤ (57 : UInt8))))) || (x36 == (46 : UInt8))) || (x36 == (45 : UInt8)))))) (p8_eql (a := x36) (b := (95 : UInt8)) rfl rfl (hg := fun e => ⟨e, rfl⟩)) (gcF1 rfl) rfl ?_
        refine TL.p (C := cx) (gc := true) (p_or rfl rfl (fun e => ⟨rfl, fun h => (not_t h)⟩)) rfl rfl ?_
        refine TL.p (C := cx) (gc := true) (p_not rfl) rfl rfl ?_
        refine TL.nil ?_
        refine hK38 _ _ ?_
        refine TK.cond (b := (!((((((decide (x36 ≥ (97 : UInt8))) && (decide (x36 ≤ (122 : UInt8)))) || ((decide (x36 ≥ (48 : UInt8))) && (decide (x36 ≤ (57 : UInt8))))) || (x36 == (46 : UInt8))) || (x36 == (45 : UInt8))) || (x36 == (95 : UInt8))))) rfl (fun hc => ?_) (fun hc => ?_)
        · have hX := ite_t hc hX
          refine TK.seq_k fun K39 hK39 => ?_
          refine TK.reg ?_
          refine TL.p (C := cx) (gc := true) (p_mv rfl) rfl rfl ?_
          refine TL.nil ?_
          refine hK39 _ _ ?_
          refine TK.wk 2 (L ([] : (List Str))) rfl Wk_nil ?_
          refine TK.ret ?_
          obtain rfl := hR11 _ (some_in hX).symm
          replace hX := hA11
          try dsimp only [thenQ]
          exact ret1 (v := Enc.v (([] : (List Str)) : (List Str))) rfl (by obtain rfl := some_in hX; rfl) (v_val _)
        · have hX := ite_f hc hX
          refine TK.skip ?_
          refine hK37 _ _ ?_
          refine TK.reg ?_
          refine TL.p (C := cx) (gc := true) (p_mv rfl) rfl rfl ?_
          refine TL.p (C := cx) (gc := true) (p_mv rfl) rfl rfl ?_
          refine TL.p (C := cx) (gc := true) (p_mv rfl) rfl rfl ?_
          refine TL.p (C := cx) (gc := true) (p_mv rfl) rfl rfl ?_
          refine TL.p (C := cx) (gc := true) (p_add rfl rfl) rfl rfl ?_
          obtain ⟨u40, hu40, hX⟩ := bind_some hX
          refine TL.p (C := cx) (gc := true) (p_sliS (s := s1) (l := i15) (k := (wr (i15 + (1 : Int)))) kd9 rfl rfl (fun n hn => rfl) (fun e => need_t hu40)) rfl rfl ?_
          obtain ⟨u41, hu41, hX⟩ := bind_some hX
          refine TL.p (C := cx) (gc := true) (ps_add (s := w14) (r := (Str.mk (slc s1.l i15 (wr (i15 + (1 : Int)))))) rfl rfl (hl := fun e => need_t hu41)) rfl rfl ?_
          refine TL.p (C := cx) (gc := true) (p_mv rfl) rfl rfl ?_
          refine TL.nil ?_
          exact J21 l13 (Str.mk (w14.l ++ (Str.mk (slc s1.l i15 (wr (i15 + (1 : Int))))).l)) _ _ ⟨b12, rfl, (Nd.pick nd (is := [0]) (by decide)), (HSub.pick nd (is := [0]) (by decide))⟩ hX
    · have hX := ite_f hc hX
      refine TK.exit ?_
      obtain rfl := hR11 _ (some_in hX).symm
      exact E11 l13 _ _ ⟨b12, rfl, (Nd.pick nd (is := [0]) (by decide)), (HSub.pick nd (is := [0]) (by decide))⟩ hA11

/-- cartridge/cartridgeref1.RightPath -/
theorem ok_cartridgeref1_RightPath (s1 : Str) (r : Bool) (hX : X.cartridgeref1_RightPath s1 = some r) : Fun Tryd.prog 67 [Enc.v (s1 : Str)] (· = Enc.v (r : Bool)) := by
  refine Fun.of b67 (Nat.le_of_ble_eq_true rfl) (allVal.mem ⟨(by exact (v_val _)), trivial⟩) ?_
  unfold k67
  have nd : Nd [] := Nd_nil
  unfold X.cartridgeref1_RightPath at hX
  refine TK.seq_k fun K2 hK2 => ?_
  refine TK.reg ?_
  refine TL.p (C := cx) (gc := true) (p_mv rfl) rfl rfl ?_
  refine TL.nil ?_
  refine hK2 _ _ ?_
  refine TK.seq_k fun K3 hK3 => ?_
  refine TK.reg ?_
  refine TL.p (C := cx) (gc := true) (p_mv rfl) rfl rfl ?_
  obtain ⟨r4, hr4, hX⟩ := bind_some hX
  refine TL.cvX rfl rfl rfl (fun _ => ⟨rfl, ⟨rfl, trivial⟩⟩) (fun e => ok_cartridgeref1_PathParts s1 _ hr4) ?_
  refine TL.p (C := cx) (gc := true) (p_lenL (xs := r4) kd80 rfl) rfl rfl ?_
  refine TL.p (C := cx) (gc := true) (p_gtr rfl rfl) rfl rfl ?_
  refine TL.p (C := cx) (gc := true) (p_mv rfl) rfl rfl ?_
  refine TL.nil ?_
  refine hK3 _ _ ?_
  refine TK.ret ?_
  try dsimp only [thenQ]
  exact ret1 (v := Enc.v ((decide ((r4.length : Int) > (0 : Int))) : Bool)) rfl (by obtain rfl := some_in hX; rfl) (v_val _)

/-- cartridge/cartridgeref10.RightHead -/
theorem ok_cartridgeref10_RightHead (h1 : Head_api) (r : Bool) (hX : X.cartridgeref10_RightHead h1 = some r) : Fun Tryd.prog 44 [Enc.v (h1 : Head_api)] (· = Enc.v (r : Bool)) := by
  refine Fun.of b44 (Nat.le_of_ble_eq_true rfl) (allVal.mem ⟨(by exact (v_val _)), trivial⟩) ?_
  unfold k44
  have nd : Nd [] := Nd_nil
  unfold X.cartridgeref10_RightHead at hX
  refine TK.seq_k fun K2 hK2 => ?_
  refine TK.reg ?_
  refine TL.boxV (C := cx) (lu := [Enc.v (h1.Path : Str), Enc.v (h1.Version : Int), Enc.v (h1.Size : Int), Enc.v (h1.From : Int), Enc.v (h1.Len : Int), Enc.v (h1.Serial : Int), Enc.v (h1.Sum : Int), Enc.v (h1.Gone : Bool)]) nd rfl (Cells_v (h1 : Head_api)) rfl ?_
  refine TL.p (C := cx) (gc := true) (p_mv rfl) rfl rfl ?_
  refine TL.nil ?_
  refine hK2 _ _ ?_
  refine TK.seq_k fun K3 hK3 => ?_
  refine TK.seq_k fun K4 hK4 => ?_
  refine TK.reg ?_
  refine TL.p (C := cx) (gc := true) (p_faR fs23_0 (by decide) rfl) rfl rfl ?_
  refine TL.p (C := cx) (gc := true) (p_ldR (v := Enc.v (h1.Path : Str)) ty9 rfl rfl rfl rfl rfl rfl) rfl rfl ?_
  obtain ⟨r5, hr5, hX⟩ := bind_some hX
  refine TL.cvX rfl rfl rfl (fun _ => ⟨rfl, ⟨rfl, trivial⟩⟩) (fun e => ok_cartridgeref1_RightPath h1.Path _ hr5) ?_
  refine TL.p (C := cx) (gc := true) (p_not rfl) rfl rfl ?_
  refine TL.p (C := cx) (gc := true) (p_mv rfl) rfl rfl ?_
  refine TL.p (C := cx) (gc := (!((!r5)))) (p_faR fs23_1 (by decide) rfl (hg := fun e => rfl)) (gcF1 rfl) rfl ?_
  refine TL.p (C := cx) (gc := (!((!r5)))) (p_ldR (v := Enc.v (h1.Version : Int)) ty3 rfl rfl rfl rfl rfl rfl (hg := fun e => e)) (gcF1 rfl) rfl ?_
  refine TL.p (C := cx) (gc := (!((!r5)))) (p_lss rfl rfl (hg := fun e => ⟨e, rfl⟩)) (gcF1 rfl) rfl ?_
  refine TL.p (C := cx) (gc := true) (p_or rfl rfl (fun e => ⟨rfl, fun h => (not_t h)⟩)) rfl rfl ?_
  refine TL.p (C := cx) (gc := true) (p_mv rfl) rfl rfl ?_
  refine TL.p (C := cx) (gc := (!(((!r5) || (decide (h1.Version < (1 : Int))))))) (p_faR fs23_1 (by decide) rfl (hg := fun e => rfl)) (gcF1 rfl) rfl ?_
  refine TL.p (C := cx) (gc := (!(((!r5) || (decide (h1.Version < (1 : Int))))))) (p_ldR (v := Enc.v (h1.Version : Int)) ty3 rfl rfl rfl rfl rfl rfl (hg := fun e => e)) (gcF1 rfl) rfl ?_
  refine TL.p (C := cx) (gc := (!(((!r5) || (decide (h1.Version < (1 : Int))))))) (p_gtr rfl rfl (hg := fun e => ⟨e, rfl⟩)) (gcF1 rfl) rfl ?_
  refine TL.p (C := cx) (gc := true) (p_or rfl rfl (fun e => ⟨rfl, fun h => (not_t h)⟩)) rfl rfl ?_
  refine TL.p (C := cx) (gc := true) (p_mv rfl) rfl rfl ?_
  refine TL.p (C := cx) (gc := (!((((!r5) || (decide (h1.Version < (1 : Int)))) || (decide (h1.Version > (1073741824 : Int))))))) (p_faR fs23_5 (by decide) rfl (hg := fun e => rfl)) (gcF1 rfl) rfl ?_
  refine TL.p (C := cx) (gc := (!((((!r5) || (decide (h1.Version < (1 : Int)))) || (decide (h1.Version > (1073741824 : Int))))))) (p_ldR (v := Enc.v (h1.Serial : Int)) ty3 rfl rfl rfl rfl rfl rfl (hg := fun e => e)) (gcF1 rfl) rfl ?_
  refine TL.p (C := cx) (gc := (!((((!r5) || (decide (h1.Version < (1 : Int)))) || (decide (h1.Version > (1073741824 : Int))))))) (p_lss rfl rfl (hg := fun e => ⟨e, rfl⟩)) (gcF1 rfl) rfl ?_
  refine TL.p (C := cx) (gc := true) (p_or rfl rfl (fun e => ⟨rfl, fun h => (not_t h)⟩)) rfl rfl ?_
  refine TL.p (C := cx) (gc := true) (p_mv rfl) rfl rfl ?_
  refine TL.p (C := cx) (gc := (!(((((!r5) || (decide (h1.Version < (1 : Int)))) || (decide (h1.Version > (1073741824 : Int)))) || (decide (h1.Serial < (1 : Int))))))) (p_faR fs23_5 (by decide) rfl (hg := fun e => rfl)) (gcF1 rfl) rfl ?_
  refine TL.p (C := cx) (gc := (!(((((!r5) || (decide (h1.Version < (1 : Int)))) || (decide (h1.Version > (1073741824 : Int)))) || (decide (h1.Serial < (1 : Int))))))) (p_ldR (v := Enc.v (h1.Serial : Int)) ty3 rfl rfl rfl rfl rfl rfl (hg := fun e => e)) (gcF1 rfl) rfl ?_
  refine TL.p (C := cx) (gc := (!(((((!r5) || (decide (h1.Version < (1 : Int)))) || (decide (h1.Version > (1073741824 : Int)))) || (decide (h1.Serial < (1 : Int))))))) (p_gtr rfl rfl (hg := fun e => ⟨e, rfl⟩)) (gcF1 rfl) rfl ?_
  refine TL.p (C := cx) (gc := true) (p_or rfl rfl (fun e => ⟨rfl, fun h => (not_t h)⟩)) rfl rfl ?_
  refine TL.p (C := cx) (gc := true) (p_mv rfl) rfl rfl ?_
  refine TL.p (C := cx) (gc := (!((((((!r5) || (decide (h1.Version < (1 : Int)))) || (decide (h1.Version > (1073741824 : Int)))) || (decide (h1.Serial < (1 : Int)))) || (decide (h1.Serial > (1073741824 : Int))))))) (p_faR fs23_2 (by decide) rfl (hg := fun e => rfl)) (gcF1 rfl) rfl ?_
  refine TL.p (C := cx) (gc := (!((((((!r5) || (decide (h1.Version < (1 : Int)))) || (decide (h1.Version > (1073741824 : Int)))) || (decide (h1.Serial < (1 : Int)))) || (decide (h1.Serial > (1073741824 : Int))))))) (p_ldR (v := Enc.v (h1.Size : Int)) ty3 rfl rfl rfl rfl rfl rfl (hg := fun e => e)) (gcF1 rfl) rfl ?_
  refine TL.p (C := cx) (gc := (!((((((!r5) || (decide (h1.Version < (1 : Int)))) || (decide (h1.Version > (1073741824 : Int)))) || (decide (h1.Serial < (1 : Int)))) || (decide (h1.Serial > (1073741824 : Int))))))) (p_lss rfl rfl (hg := fun e => ⟨e, rfl⟩)) (gcF1 rfl) rfl ?_
  refine TL.p (C := cx) (gc := true) (p_or rfl rfl (fun e => ⟨rfl, fun h => (not_t h)⟩)) rfl rfl ?_
  refine TL.p (C := cx) (gc := true) (p_mv rfl) rfl rfl ?_
  refine TL.p (C := cx) (gc := (!(((((((!r5) || (decide (h1.Version < (1 : Int)))) || (decide (h1.Version > (1073741824 : Int)))) || (decide (h1.Serial < (1 : Int)))) || (decide (h1.Serial > (1073741824 : Int)))) || (decide (h1.Size < (0 : Int))))))) (p_faR fs23_2 (by decide) rfl (hg := fun e => rfl)) (gcF1 rfl) rfl ?_
  refine TL.p (C := cx) (gc := (!(((((((!r5) || (decide (h1.Version < (1 : Int)))) || (decide (h1.Version > (1073741824 : Int)))) || (decide (h1.Serial < (1 : Int)))) || (decide (h1.Serial > (1073741824 : Int)))) || (decide (h1.Size < (0 : Int))))))) (p_ldR (v := Enc.v (h1.Size : Int)) ty3 rfl rfl rfl rfl rfl rfl (hg := fun e => e)) (gcF1 rfl) rfl ?_
  refine TL.p (C := cx) (gc := (!(((((((!r5) || (decide (h1.Version < (1 : Int)))) || (decide (h1.Version > (1073741824 : Int)))) || (decide (h1.Serial < (1 : Int)))) || (decide (h1.Serial > (1073741824 : Int)))) || (decide (h1.Size < (0 : Int))))))) (p_gtr rfl rfl (hg := fun e => ⟨e, rfl⟩)) (gcF1 rfl) rfl ?_
  refine TL.p (C := cx) (gc := true) (p_or rfl rfl (fun e => ⟨rfl, fun h => (not_t h)⟩)) rfl rfl ?_
  refine TL.p (C := cx) (gc := true) (p_mv rfl) rfl rfl ?_
  refine TL.p (C := cx) (gc := (!((((((((!r5) || (decide (h1.Version < (1 : Int)))) || (decide (h1.Version > (1073741824 : Int)))) || (decide (h1.Serial < (1 : Int)))) || (decide (h1.Serial > (1073741824 : Int)))) || (decide (h1.Size < (0 : Int)))) || (decide (h1.Size > (4000 : Int))))))) (p_faR fs23_3 (by decide) rfl (hg := fun e => rfl)) (gcF1 rfl) rfl ?_
  refine TL.p (C := cx) (gc := (!((((((((!r5) || (decide (h1.Version < (1 : Int)))) || (decide (h1.Version > (1073741824 : Int)))) || (decide (h1.Serial < (1 : Int)))) || (decide (h1.Serial > (1073741824 : Int)))) || (decide (h1.Size < (0 : Int)))) || (decide (h1.Size > (4000 : Int))))))) (p_ldR (v := Enc.v (h1.From : Int)) ty3 rfl rfl rfl rfl rfl rfl (hg := fun e => e)) (gcF1 rfl) rfl ?_
  refine TL.p (C := cx) (gc := (!((((((((!r5) || (decide (h1.Version < (1 : Int)))) || (decide (h1.Version > (1073741824 : Int)))) || (decide (h1.Serial < (1 : Int)))) || (decide (h1.Serial > (1073741824 : Int)))) || (decide (h1.Size < (0 : Int)))) || (decide (h1.Size > (4000 : Int))))))) (p_lss rfl rfl (hg := fun e => ⟨e, rfl⟩)) (gcF1 rfl) rfl ?_
  refine TL.p (C := cx) (gc := true) (p_or rfl rfl (fun e => ⟨rfl, fun h => (not_t h)⟩)) rfl rfl ?_
  refine TL.p (C := cx) (gc := true) (p_mv rfl) rfl rfl ?_
  refine TL.p (C := cx) (gc := (!(((((((((!r5) || (decide (h1.Version < (1 : Int)))) || (decide (h1.Version > (1073741824 : Int)))) || (decide (h1.Serial < (1 : Int)))) || (decide (h1.Serial > (1073741824 : Int)))) || (decide (h1.Size < (0 : Int)))) || (decide (h1.Size > (4000 : Int)))) || (decide (h1.From < (0 : Int))))))) (p_faR fs23_4 (by decide) rfl (hg := fun e => rfl)) (gcF1 rfl) rfl ?_
  refine TL.p (C := cx) (gc := (!(((((((((!r5) || (decide (h1.Version < (1 : Int)))) || (decide (h1.Version > (1073741824 : Int)))) || (decide (h1.Serial < (1 : Int)))) || (decide (h1.Serial > (1073741824 : Int)))) || (decide (h1.Size < (0 : Int)))) || (decide (h1.Size > (4000 : Int)))) || (decide (h1.From < (0 : Int))))))) (p_ldR (v := Enc.v (h1.Len : Int)) ty3 rfl rfl rfl rfl rfl rfl (hg := fun e => e)) (gcF1 rfl) rfl ?_
  refine TL.p (C := cx) (gc := (!(((((((((!r5) || (decide (h1.Version < (1 : Int)))) || (decide (h1.Version > (1073741824 : Int)))) || (decide (h1.Serial < (1 : Int)))) || (decide (h1.Serial > (1073741824 : Int)))) || (decide (h1.Size < (0 : Int)))) || (decide (h1.Size > (4000 : Int)))) || (decide (h1.From < (0 : Int))))))) (p_lss rfl rfl (hg := fun e => ⟨e, rfl⟩)) (gcF1 rfl) rfl ?_
  refine TL.p (C := cx) (gc := true) (p_or rfl rfl (fun e => ⟨rfl, fun h => (not_t h)⟩)) rfl rfl ?_
  refine TL.p (C := cx) (gc := true) (p_mv rfl) rfl rfl ?_
  refine TL.p (C := cx) (gc := (!((((((((((!r5) || (decide (h1.Version < (1 : Int)))) || (decide (h1.Version > (1073741824 : Int)))) || (decide (h1.Serial < (1 : Int)))) || (decide (h1.Serial > (1073741824 : Int)))) || (decide (h1.Size < (0 : Int)))) || (decide (h1.Size > (4000 : Int)))) || (decide (h1.From < (0 : Int)))) || (decide (h1.Len < (0 : Int))))))) (p_faR fs23_3 (by decide) rfl (hg := fun e => rfl)) (gcF1 rfl) rfl ?_
  refine TL.p (C := cx) (gc := (!((((((((((!r5) || (decide (h1.Version < (1 : Int)))) || (decide (h1.Version > (1073741824 : Int)))) || (decide (h1.Serial < (1 : Int)))) || (decide (h1.Serial > (1073741824 : Int)))) || (decide (h1.Size < (0 : Int)))) || (decide (h1.Size > (4000 : Int)))) || (decide (h1.From < (0 : Int)))) || (decide (h1.Len < (0 : Int))))))) (p_ldR (v := Enc.v (h1.From : Int)) ty3 rfl rfl rfl rfl rfl rfl (hg := fun e => e)) (gcF1 rfl) rfl ?_
  refine TL.p (C := cx) (gc := (!((((((((((!r5) || (decide (h1.Version < (1 : Int)))) || (decide (h1.Version > (1073741824 : Int)))) || (decide (h1.Serial < (1 : Int)))) || (decide (h1.Serial > (1073741824 : Int)))) || (decide (h1.Size < (0 : Int)))) || (decide (h1.Size > (4000 : Int)))) || (decide (h1.From < (0 : Int)))) || (decide (h1.Len < (0 : Int))))))) (p_faR fs23_2 (by decide) rfl (hg := fun e => rfl)) (gcF1 rfl) rfl ?_
  refine TL.p (C := cx) (gc := (!((((((((((!r5) || (decide (h1.Version < (1 : Int)))) || (decide (h1.Version > (1073741824 : Int)))) || (decide (h1.Serial < (1 : Int)))) || (decide (h1.Serial > (1073741824 : Int)))) || (decide (h1.Size < (0 : Int)))) || (decide (h1.Size > (4000 : Int)))) || (decide (h1.From < (0 : Int)))) || (decide (h1.Len < (0 : Int))))))) (p_ldR (v := Enc.v (h1.Size : Int)) ty3 rfl rfl rfl rfl rfl rfl (hg := fun e => e)) (gcF1 rfl) rfl ?_
  refine TL.p (C := cx) (gc := (!((((((((((!r5) || (decide (h1.Version < (1 : Int)))) || (decide (h1.Version > (1073741824 : Int)))) || (decide (h1.Serial < (1 : Int)))) || (decide (h1.Serial > (1073741824 : Int)))) || (decide (h1.Size < (0 : Int)))) || (decide (h1.Size > (4000 : Int)))) || (decide (h1.From < (0 : Int)))) || (decide (h1.Len < (0 : Int))))))) (p_gtr rfl rfl (hg := fun e => ⟨e, e⟩)) (gcF1 rfl) rfl ?_
  refine TL.p (C := cx) (gc := true) (p_or rfl rfl (fun e => ⟨rfl, fun h => (not_t h)⟩)) rfl rfl ?_
  refine TL.p (C := cx) (gc := true) (p_mv rfl) rfl rfl ?_
  refine TL.p (C := cx) (gc := (!(((((((((((!r5) || (decide (h1.Version < (1 : Int)))) || (decide (h1.Version > (1073741824 : Int)))) || (decide (h1.Serial < (1 : Int)))) || (decide (h1.Serial > (1073741824 : Int)))) || (decide (h1.Size < (0 : Int)))) || (decide (h1.Size > (4000 : Int)))) || (decide (h1.From < (0 : Int)))) || (decide (h1.Len < (0 : Int)))) || (decide (h1.From > h1.Size)))))) (p_faR fs23_4 (by decide) rfl (hg := fun e => rfl)) (gcF1 rfl) rfl ?_
  refine TL.p (C := cx) (gc := (!(((((((((((!r5) || (decide (h1.Version < (1 : Int)))) || (decide (h1.Version > (1073741824 : Int)))) || (decide (h1.Serial < (1 : Int)))) || (decide (h1.Serial > (1073741824 : Int)))) || (decide (h1.Size < (0 : Int)))) || (decide (h1.Size > (4000 : Int)))) || (decide (h1.From < (0 : Int)))) || (decide (h1.Len < (0 : Int)))) || (decide (h1.From > h1.Size)))))) (p_ldR (v := Enc.v (h1.Len : Int)) ty3 rfl rfl rfl rfl rfl rfl (hg := fun e => e)) (gcF1 rfl) rfl ?_
  refine TL.p (C := cx) (gc := (!(((((((((((!r5) || (decide (h1.Version < (1 : Int)))) || (decide (h1.Version > (1073741824 : Int)))) || (decide (h1.Serial < (1 : Int)))) || (decide (h1.Serial > (1073741824 : Int)))) || (decide (h1.Size < (0 : Int)))) || (decide (h1.Size > (4000 : Int)))) || (decide (h1.From < (0 : Int)))) || (decide (h1.Len < (0 : Int)))) || (decide (h1.From > h1.Size)))))) (p_faR fs23_2 (by decide) rfl (hg := fun e => rfl)) (gcF1 rfl) rfl ?_
  refine TL.p (C := cx) (gc := (!(((((((((((!r5) || (decide (h1.Version < (1 : Int)))) || (decide (h1.Version > (1073741824 : Int)))) || (decide (h1.Serial < (1 : Int)))) || (decide (h1.Serial > (1073741824 : Int)))) || (decide (h1.Size < (0 : Int)))) || (decide (h1.Size > (4000 : Int)))) || (decide (h1.From < (0 : Int)))) || (decide (h1.Len < (0 : Int)))) || (decide (h1.From > h1.Size)))))) (p_ldR (v := Enc.v (h1.Size : Int)) ty3 rfl rfl rfl rfl rfl rfl (hg := fun e => e)) (gcF1 rfl) rfl ?_
  refine TL.p (C := cx) (gc := (!(((((((((((!r5) || (decide (h1.Version < (1 : Int)))) || (decide (h1.Version > (1073741824 : Int)))) || (decide (h1.Serial < (1 : Int)))) || (decide (h1.Serial > (1073741824 : Int)))) || (decide (h1.Size < (0 : Int)))) || (decide (h1.Size > (4000 : Int)))) || (decide (h1.From < (0 : Int)))) || (decide (h1.Len < (0 : Int)))) || (decide (h1.From > h1.Size)))))) (p_faR fs23_3 (by decide) rfl (hg := fun e => rfl)) (gcF1 rfl) rfl ?_
  refine TL.p (C := cx) (gc := (!(((((((((((!r5) || (decide (h1.Version < (1 : Int)))) || (decide (h1.Version > (1073741824 : Int)))) || (decide (h1.Serial < (1 : Int)))) || (decide (h1.Serial > (1073741824 : Int)))) || (decide (h1.Size < (0 : Int)))) || (decide (h1.Size > (4000 : Int)))) || (decide (h1.From < (0 : Int)))) || (decide (h1.Len < (0 : Int)))) || (decide (h1.From > h1.Size)))))) (p_ldR (v := Enc.v (h1.From : Int)) ty3 rfl rfl rfl rfl rfl rfl (hg := fun e => e)) (gcF1 rfl) rfl ?_
  refine TL.p (C := cx) (gc := (!(((((((((((!r5) || (decide (h1.Version < (1 : Int)))) || (decide (h1.Version > (1073741824 : Int)))) || (decide (h1.Serial < (1 : Int)))) || (decide (h1.Serial > (1073741824 : Int)))) || (decide (h1.Size < (0 : Int)))) || (decide (h1.Size > (4000 : Int)))) || (decide (h1.From < (0 : Int)))) || (decide (h1.Len < (0 : Int)))) || (decide (h1.From > h1.Size)))))) (p_sub rfl rfl (hg := fun e => ⟨e, e⟩)) (gcF1 rfl) rfl ?_
  refine TL.p (C := cx) (gc := (!(((((((((((!r5) || (decide (h1.Version < (1 : Int)))) || (decide (h1.Version > (1073741824 : Int)))) || (decide (h1.Serial < (1 : Int)))) || (decide (h1.Serial > (1073741824 : Int)))) || (decide (h1.Size < (0 : Int)))) || (decide (h1.Size > (4000 : Int)))) || (decide (h1.From < (0 : Int)))) || (decide (h1.Len < (0 : Int)))) || (decide (h1.From > h1.Size)))))) (p_gtr rfl rfl (hg := fun e => ⟨e, e⟩)) (gcF1 rfl) rfl ?_
  refine TL.p (C := cx) (gc := true) (p_or rfl rfl (fun e => ⟨rfl, fun h => (not_t h)⟩)) rfl rfl ?_
  refine TL.p (C := cx) (gc := true) (p_mv rfl) rfl rfl ?_
  refine TL.p (C := cx) (gc := (!((((((((((((!r5) || (decide (h1.Version < (1 : Int)))) || (decide (h1.Version > (1073741824 : Int)))) || (decide (h1.Serial < (1 : Int)))) || (decide (h1.Serial > (1073741824 : Int)))) || (decide (h1.Size < (0 : Int)))) || (decide (h1.Size > (4000 : Int)))) || (decide (h1.From < (0 : Int)))) || (decide (h1.Len < (0 : Int)))) || (decide (h1.From > h1.Size))) || (decide (h1.Len > (wr (h1.Size - h1.From)))))))) (p_faR fs23_4 (by decide) rfl (hg := fun e => rfl)) (gcF1 rfl) rfl ?_
  refine TL.p (C := cx) (gc := (!((((((((((((!r5) || (decide (h1.Version < (1 : Int)))) || (decide (h1.Version > (1073741824 : Int)))) || (decide (h1.Serial < (1 : Int)))) || (decide (h1.Serial > (1073741824 : Int)))) || (decide (h1.Size < (0 : Int)))) || (decide (h1.Size > (4000 : Int)))) || (decide (h1.From < (0 : Int)))) || (decide (h1.Len < (0 : Int)))) || (decide (h1.From > h1.Size))) || (decide (h1.Len > (wr (h1.Size - h1.From)))))))) (p_ldR (v := Enc.v (h1.Len : Int)) ty3 rfl rfl rfl rfl rfl rfl (hg := fun e => e)) (gcF1 rfl) rfl ?_
  refine TL.p (C := cx) (gc := (!((((((((((((!r5) || (decide (h1.Version < (1 : Int)))) || (decide (h1.Version > (1073741824 : Int)))) || (decide (h1.Serial < (1 : Int)))) || (decide (h1.Serial > (1073741824 : Int)))) || (decide (h1.Size < (0 : Int)))) || (decide (h1.Size > (4000 : Int)))) || (decide (h1.From < (0 : Int)))) || (decide (h1.Len < (0 : Int)))) || (decide (h1.From > h1.Size))) || (decide (h1.Len > (wr (h1.Size - h1.From)))))))) (p_eql rfl rfl (hg := fun e => ⟨e, rfl⟩)) (gcF1 rfl) rfl ?_
  refine TL.p (C := cx) (gc := (!((((((((((((!r5) || (decide (h1.Version < (1 : Int)))) || (decide (h1.Version > (1073741824 : Int)))) || (decide (h1.Serial < (1 : Int)))) || (decide (h1.Serial > (1073741824 : Int)))) || (decide (h1.Size < (0 : Int)))) || (decide (h1.Size > (4000 : Int)))) || (decide (h1.From < (0 : Int)))) || (decide (h1.Len < (0 : Int)))) || (decide (h1.From > h1.Size))) || (decide (h1.Len > (wr (h1.Size - h1.From)))))))) (p_mv rfl (hg := fun e => e)) (gcF1 rfl) rfl ?_
  refine TL.p (C := cx) (gc := ((!((((((((((((!r5) || (decide (h1.Version < (1 : Int)))) || (decide (h1.Version > (1073741824 : Int)))) || (decide (h1.Serial < (1 : Int)))) || (decide (h1.Serial > (1073741824 : Int)))) || (decide (h1.Size < (0 : Int)))) || (decide (h1.Size > (4000 : Int)))) || (decide (h1.From < (0 : Int)))) || (decide (h1.Len < (0 : Int)))) || (decide (h1.From > h1.Size))) || (decide (h1.Len > (wr (h1.Size - h1.From))))))) && ((h1.Len == (0 : Int))))) (p_faR fs23_2 (by decide) rfl (hg := fun e => rfl)) (gcT rfl) rfl ?_
  refine TL.p (C := cx) (gc := ((!((((((((((((!r5) || (decide (h1.Version < (1 : Int)))) || (decide (h1.Version > (1073741824 : Int)))) || (decide (h1.Serial < (1 : Int)))) || (decide (h1.Serial > (1073741824 : Int)))) || (decide (h1.Size < (0 : Int)))) || (decide (h1.Size > (4000 : Int)))) || (decide (h1.From < (0 : Int)))) || (decide (h1.Len < (0 : Int)))) || (decide (h1.From > h1.Size))) || (decide (h1.Len > (wr (h1.Size - h1.From))))))) && ((h1.Len == (0 : Int))))) (p_ldR (v := Enc.v (h1.Size : Int)) ty3 rfl rfl rfl rfl rfl rfl (hg := fun e => e)) (gcT rfl) rfl ?_
  refine TL.p (C := cx) (gc := ((!((((((((((((!r5) || (decide (h1.Version < (1 : Int)))) || (decide (h1.Version > (1073741824 : Int)))) || (decide (h1.Serial < (1 : Int)))) || (decide (h1.Serial > (1073741824 : Int)))) || (decide (h1.Size < (0 : Int)))) || (decide (h1.Size > (4000 : Int)))) || (decide (h1.From < (0 : Int)))) || (decide (h1.Len < (0 : Int)))) || (decide (h1.From > h1.Size))) || (decide (h1.Len > (wr (h1.Size - h1.From))))))) && ((h1.Len == (0 : Int))))) (p_gtr rfl rfl (hg := fun e => ⟨e, rfl⟩)) (gcT rfl) rfl ?_
  refine TL.p (C := cx) (gc := (!((((((((((((!r5) || (decide (h1.Version < (1 : Int)))) || (decide (h1.Version > (1073741824 : Int)))) || (decide (h1.Serial < (1 : Int)))) || (decide (h1.Serial > (1073741824 : Int)))) || (decide (h1.Size < (0 : Int)))) || (decide (h1.Size > (4000 : Int)))) || (decide (h1.From < (0 : Int)))) || (decide (h1.Len < (0 : Int)))) || (decide (h1.From > h1.Size))) || (decide (h1.Len > (wr (h1.Size - h1.From)))))))) (p_and rfl rfl (fun e => ⟨e, fun h => (and_i e h)⟩)) (gcF1 rfl) rfl ?_
  refine TL.p (C := cx) (gc := true) (p_or rfl rfl (fun e => ⟨rfl, fun h => (not_t h)⟩)) rfl rfl ?_
  refine TL.p (C := cx) (gc := true) (p_mv rfl) rfl rfl ?_
  refine TL.p (C := cx) (gc := (!(((((((((((((!r5) || (decide (h1.Version < (1 : Int)))) || (decide (h1.Version > (1073741824 : Int)))) || (decide (h1.Serial < (1 : Int)))) || (decide (h1.Serial > (1073741824 : Int)))) || (decide (h1.Size < (0 : Int)))) || (decide (h1.Size > (4000 : Int)))) || (decide (h1.From < (0 : Int)))) || (decide (h1.Len < (0 : Int)))) || (decide (h1.From > h1.Size))) || (decide (h1.Len > (wr (h1.Size - h1.From))))) || ((h1.Len == (0 : Int)) && (decide (h1.Size > (0 : Int)))))))) (p_faR fs23_6 (by decide) rfl (hg := fun e => rfl)) (gcF1 rfl) rfl ?_
  refine TL.p (C := cx) (gc := (!(((((((((((((!r5) || (decide (h1.Version < (1 : Int)))) || (decide (h1.Version > (1073741824 : Int)))) || (decide (h1.Serial < (1 : Int)))) || (decide (h1.Serial > (1073741824 : Int)))) || (decide (h1.Size < (0 : Int)))) || (decide (h1.Size > (4000 : Int)))) || (decide (h1.From < (0 : Int)))) || (decide (h1.Len < (0 : Int)))) || (decide (h1.From > h1.Size))) || (decide (h1.Len > (wr (h1.Size - h1.From))))) || ((h1.Len == (0 : Int)) && (decide (h1.Size > (0 : Int)))))))) (p_ldR (v := Enc.v (h1.Sum : Int)) ty3 rfl rfl rfl rfl rfl rfl (hg := fun e => e)) (gcF1 rfl) rfl ?_
  refine TL.p (C := cx) (gc := (!(((((((((((((!r5) || (decide (h1.Version < (1 : Int)))) || (decide (h1.Version > (1073741824 : Int)))) || (decide (h1.Serial < (1 : Int)))) || (decide (h1.Serial > (1073741824 : Int)))) || (decide (h1.Size < (0 : Int)))) || (decide (h1.Size > (4000 : Int)))) || (decide (h1.From < (0 : Int)))) || (decide (h1.Len < (0 : Int)))) || (decide (h1.From > h1.Size))) || (decide (h1.Len > (wr (h1.Size - h1.From))))) || ((h1.Len == (0 : Int)) && (decide (h1.Size > (0 : Int)))))))) (p_lss rfl rfl (hg := fun e => ⟨e, rfl⟩)) (gcF1 rfl) rfl ?_
  refine TL.p (C := cx) (gc := true) (p_or rfl rfl (fun e => ⟨rfl, fun h => (not_t h)⟩)) rfl rfl ?_
  refine TL.p (C := cx) (gc := true) (p_mv rfl) rfl rfl ?_
  refine TL.p (C := cx) (gc := (!((((((((((((((!r5) || (decide (h1.Version < (1 : Int)))) || (decide (h1.Version > (1073741824 : Int)))) || (decide (h1.Serial < (1 : Int)))) || (decide (h1.Serial > (1073741824 : Int)))) || (decide (h1.Size < (0 : Int)))) || (decide (h1.Size > (4000 : Int)))) || (decide (h1.From < (0 : Int)))) || (decide (h1.Len < (0 : Int)))) || (decide (h1.From > h1.Size))) || (decide (h1.Len > (wr (h1.Size - h1.From))))) || ((h1.Len == (0 : Int)) && (decide (h1.Size > (0 : Int))))) || (decide (h1.Sum < (0 : Int))))))) (p_faR fs23_6 (by decide) rfl (hg := fun e => rfl)) (gcF1 rfl) rfl ?_
  refine TL.p (C := cx) (gc := (!((((((((((((((!r5) || (decide (h1.Version < (1 : Int)))) || (decide (h1.Version > (1073741824 : Int)))) || (decide (h1.Serial < (1 : Int)))) || (decide (h1.Serial > (1073741824 : Int)))) || (decide (h1.Size < (0 : Int)))) || (decide (h1.Size > (4000 : Int)))) || (decide (h1.From < (0 : Int)))) || (decide (h1.Len < (0 : Int)))) || (decide (h1.From > h1.Size))) || (decide (h1.Len > (wr (h1.Size - h1.From))))) || ((h1.Len == (0 : Int)) && (decide (h1.Size > (0 : Int))))) || (decide (h1.Sum < (0 : Int))))))) (p_ldR (v := Enc.v (h1.Sum : Int)) ty3 rfl rfl rfl rfl rfl rfl (hg := fun e => e)) (gcF1 rfl) rfl ?_
  refine TL.p (C := cx) (gc := (!((((((((((((((!r5) || (decide (h1.Version < (1 : Int)))) || (decide (h1.Version > (1073741824 : Int)))) || (decide (h1.Serial < (1 : Int)))) || (decide (h1.Serial > (1073741824 : Int)))) || (decide (h1.Size < (0 : Int)))) || (decide (h1.Size > (4000 : Int)))) || (decide (h1.From < (0 : Int)))) || (decide (h1.Len < (0 : Int)))) || (decide (h1.From > h1.Size))) || (decide (h1.Len > (wr (h1.Size - h1.From))))) || ((h1.Len == (0 : Int)) && (decide (h1.Size > (0 : Int))))) || (decide (h1.Sum < (0 : Int))))))) (p_gtr rfl rfl (hg := fun e => ⟨e, rfl⟩)) (gcF1 rfl) rfl ?_
  refine TL.p (C := cx) (gc := true) (p_or rfl rfl (fun e => ⟨rfl, fun h => (not_t h)⟩)) rfl rfl ?_
  refine TL.nil ?_
  refine hK4 _ _ ?_
  refine TK.cond (b := ((((((((((((((!r5) || (decide (h1.Version < (1 : Int)))) || (decide (h1.Version > (1073741824 : Int)))) || (decide (h1.Serial < (1 : Int)))) || (decide (h1.Serial > (1073741824 : Int)))) || (decide (h1.Size < (0 : Int)))) || (decide (h1.Size > (4000 : Int)))) || (decide (h1.From < (0 : Int)))) || (decide (h1.Len < (0 : Int)))) || (decide (h1.From > h1.Size))) || (decide (h1.Len > (wr (h1.Size - h1.From))))) || ((h1.Len == (0 : Int)) && (decide (h1.Size > (0 : Int))))) || (decide (h1.Sum < (0 : Int)))) || (decide (h1.Sum > (4294967295 : Int))))) rfl (fun hc => ?_) (fun hc => ?_)
  · have hX := ite_t hc hX
    refine TK.seq_k fun K6 hK6 => ?_
    refine TK.reg ?_
    refine TL.p (C := cx) (gc := true) (p_mv rfl) rfl rfl ?_
    refine TL.nil ?_
    refine hK6 _ _ ?_
    refine TK.ret ?_
    try dsimp only [thenQ]
    exact ret1 (v := Enc.v (false : Bool)) rfl (by obtain rfl := some_in hX; rfl) (v_val _)
  · have hX := ite_f hc hX
    refine TK.skip ?_
    refine hK3 _ _ ?_
    refine TK.seq_k fun K7 hK7 => ?_
    refine TK.reg ?_
    refine TL.p (C := cx) (gc := true) (p_faR fs23_7 (by decide) rfl) rfl rfl ?_
    refine TL.p (C := cx) (gc := true) (p_ldR (v := Enc.v (h1.Gone : Bool)) ty4 rfl rfl rfl rfl rfl rfl) rfl rfl ?_
    refine TL.p (C := cx) (gc := true) (p_not rfl) rfl rfl ?_
    refine TL.p (C := cx) (gc := true) (p_mv rfl) rfl rfl ?_
    refine TL.p (C := cx) (gc := (!((!h1.Gone)))) (p_faR fs23_2 (by decide) rfl (hg := fun e => rfl)) (gcF1 rfl) rfl ?_
    refine TL.p (C := cx) (gc := (!((!h1.Gone)))) (p_ldR (v := Enc.v (h1.Size : Int)) ty3 rfl rfl rfl rfl rfl rfl (hg := fun e => e)) (gcF1 rfl) rfl ?_
    refine TL.p (C := cx) (gc := (!((!h1.Gone)))) (p_eql rfl rfl (hg := fun e => ⟨e, rfl⟩)) (gcF1 rfl) rfl ?_
    refine TL.p (C := cx) (gc := (!((!h1.Gone)))) (p_mv rfl (hg := fun e => e)) (gcF1 rfl) rfl ?_
    refine TL.p (C := cx) (gc := ((!((!h1.Gone))) && ((h1.Size == (0 : Int))))) (p_faR fs23_3 (by decide) rfl (hg := fun e => rfl)) (gcT rfl) rfl ?_
    refine TL.p (C := cx) (gc := ((!((!h1.Gone))) && ((h1.Size == (0 : Int))))) (p_ldR (v := Enc.v (h1.From : Int)) ty3 rfl rfl rfl rfl rfl rfl (hg := fun e => e)) (gcT rfl) rfl ?_
    refine TL.p (C := cx) (gc := ((!((!h1.Gone))) && ((h1.Size == (0 : Int))))) (p_eql rfl rfl (hg := fun e => ⟨e, rfl⟩)) (gcT rfl) rfl ?_
    refine TL.p (C := cx) (gc := (!((!h1.Gone)))) (p_and rfl rfl (fun e => ⟨e, fun h => (and_i e h)⟩)) (gcF1 rfl) rfl ?_
    refine TL.p (C := cx) (gc := (!((!h1.Gone)))) (p_mv rfl (hg := fun e => e)) (gcF1 rfl) rfl ?_
    refine TL.p (C := cx) (gc := ((!((!h1.Gone))) && (((h1.Size == (0 : Int)) && (h1.From == (0 : Int)))))) (p_faR fs23_4 (by decide) rfl (hg := fun e => rfl)) (gcT rfl) rfl ?_
    refine TL.p (C := cx) (gc := ((!((!h1.Gone))) && (((h1.Size == (0 : Int)) && (h1.From == (0 : Int)))))) (p_ldR (v := Enc.v (h1.Len : Int)) ty3 rfl rfl rfl rfl rfl rfl (hg := fun e => e)) (gcT rfl) rfl ?_
    refine TL.p (C := cx) (gc := ((!((!h1.Gone))) && (((h1.Size == (0 : Int)) && (h1.From == (0 : Int)))))) (p_eql rfl rfl (hg := fun e => ⟨e, rfl⟩)) (gcT rfl) rfl ?_
    refine TL.p (C := cx) (gc := (!((!h1.Gone)))) (p_and rfl rfl (fun e => ⟨e, fun h => (and_i e h)⟩)) (gcF1 rfl) rfl ?_
    refine TL.p (C := cx) (gc := (!((!h1.Gone)))) (p_mv rfl (hg := fun e => e)) (gcF1 rfl) rfl ?_
    refine TL.p (C := cx) (gc := ((!((!h1.Gone))) && ((((h1.Size == (0 : Int)) && (h1.From == (0 : Int))) && (h1.Len == (0 : Int)))))) (p_faR fs23_6 (by decide) rfl (hg := fun e => rfl)) (gcT rfl) rfl ?_
    refine TL.p (C := cx) (gc := ((!((!h1.Gone))) && ((((h1.Size == (0 : Int)) && (h1.From == (0 : Int))) && (h1.Len == (0 : Int)))))) (p_ldR (v := Enc.v (h1.Sum : Int)) ty3 rfl rfl rfl rfl rfl rfl (hg := fun e => e)) (gcT rfl) rfl ?_
    refine TL.p (C := cx) (gc := ((!((!h1.Gone))) && ((((h1.Size == (0 : Int)) && (h1.From == (0 : Int))) && (h1.Len == (0 : Int)))))) (p_eql rfl rfl (hg := fun e => ⟨e, rfl⟩)) (gcT rfl) rfl ?_
    refine TL.p (C := cx) (gc := (!((!h1.Gone)))) (p_and rfl rfl (fun e => ⟨e, fun h => (and_i e h)⟩)) (gcF1 rfl) rfl ?_
    refine TL.p (C := cx) (gc := true) (p_or rfl rfl (fun e => ⟨rfl, fun h => (not_t h)⟩)) rfl rfl ?_
    refine TL.p (C := cx) (gc := true) (p_mv rfl) rfl rfl ?_
    refine TL.nil ?_
    refine hK7 _ _ ?_
    refine TK.ret ?_
    try dsimp only [thenQ]
    exact ret1 (v := Enc.v (((!h1.Gone) || ((((h1.Size == (0 : Int)) && (h1.From == (0 : Int))) && (h1.Len == (0 : Int))) && (h1.Sum == (0 : Int)))) : Bool)) rfl (by obtain rfl := some_in hX; rfl) (v_val _)

/-- (*cartridge/cartridgeref1.Writer).Text -/
theorem ok_cartridgeref1_Writer_Text (s4 : Str) (B1 : (List UInt8)) (b2 : Nat) (b3 : Nat) (nd : Nd [(b2, RV 102 [OL (α := UInt8) b3 B1]), (b3, RL (α := UInt8) 5 B1)]) (r : (List UInt8)) (hX : X.cartridgeref1_Writer_Text s4 B1 = some r) : TCX Tryd.prog 87 [.ref b2 0 1, Enc.v (s4 : Str)] [(b2, RV 102 [OL (α := UInt8) b3 B1]), (b3, RL (α := UInt8) 5 B1)] (fun rv h' => ∃ b15, rv = .tup 0 (ofL []) ∧ h' = [(b2, RV 102 [OL (α := UInt8) b15 r]), (b15, RL (α := UInt8) 5 r)]) := by
  refine TCX.of b87 (Nat.le_of_ble_eq_true rfl) ?_
  unfold k87
  unfold X.cartridgeref1_Writer_Text at hX
  refine TK.endK fun KE hKE => ?_
  refine TK.seq_k fun K5 hK5 => ?_
  have J5 : ∀ (s8 : Str) (env : Env) (h : Hp), (∃ _u : Unit, keepE [0, 1] env = [(0, true, .ref b2 0 1), (1, true, Enc.v (s8 : Str))] ∧ Nd [(b3, RL (α := UInt8) 5 B1), (b2, RV 102 [OL (α := UInt8) b3 B1])] ∧ HSub [(b3, RL (α := UInt8) 5 B1), (b2, RV 102 [OL (α := UInt8) b3 B1])] h) → X.cartridgeref1_Writer_Text_j5 B1 s8 = some r → K5 env h := by
    intro s8 env h hE hX
    obtain ⟨_u, henv, nd, hs⟩ := hE
    unfold X.cartridgeref1_Writer_Text_j5 at hX
    refine hK5 _ _ (TK.keep [0, 1] ?_)
    rw [henv]
    refine TK.subH hs ?_
    refine TK.seq_k fun K9 hK9 => ?_
    refine TK.reg ?_
    refine TL.p (C := cx) (gc := true) (p_mv rfl) rfl rfl ?_
    refine TL.p (C := cx) (gc := true) (p_mv rfl) rfl rfl ?_
    refine TL.p (C := cx) (gc := true) (p_ncR rfl (fun _ => refOK_of nd (j := 1) rfl rfl)) rfl rfl ?_
    refine TL.p (C := cx) (gc := true) (p_faV fs102_0 (by decide) rfl nd (j := 1) rfl rfl) rfl rfl ?_
    refine TL.p (C := cx) (gc := true) (p_ldV (v := OL (α := UInt8) b3 B1) ty24 rfl rfl nd (j := 1) rfl rfl rfl rfl rfl) rfl rfl ?_
    refine TL.p (C := cx) (gc := true) (p_mv rfl) rfl rfl ?_
    refine TL.p (C := cx) (gc := true) (p_lenS (s := s8) kd9 rfl) rfl rfl ?_
    refine TL.p (C := cx) (gc := true) (p_cvt src3 kd5 rfl (cv_u8 _)) rfl rfl ?_
    refine TL.lit (C := cx) ([(u8 (s8.l.length : Int))] : List UInt8) kd24 ty5 rfl ⟨⟨rfl, rfl⟩, trivial⟩ rfl rfl rfl ?_
    obtain ⟨u10, hu10, hX⟩ := bind_some hX
    refine TL.appO (C := cx) nd kd24 bo24 ty5 rfl rfl (j := 0) rfl rfl (Src_L _) (by decide) (need_t hu10) rfl fun nd => ?_
    refine TL.p (C := cx) (gc := true) (p_ncR rfl (fun _ => refOK_of nd (j := 1) rfl rfl)) rfl rfl ?_
    refine TL.p (C := cx) (gc := true) (p_faV fs102_0 (by decide) rfl nd (j := 1) rfl rfl) rfl rfl ?_
    refine TL.stV (C := cx) (lu := [OL (α := UInt8) b3 (B1 ++ ([(u8 (s8.l.length : Int))] : List UInt8))]) nd ty24 rfl (j := 1) rfl rfl rfl (Cells_rs (refOK_of nd (j := 0) rfl rfl)) rfl rfl [OL (α := UInt8) b3 (B1 ++ ([(u8 (s8.l.length : Int))] : List UInt8))] rfl fun nd => ?_
    refine TL.nil ?_
    refine hK9 _ _ ?_
    refine TK.reg ?_
    refine TL.p (C := cx) (gc := true) (p_mv rfl) rfl rfl ?_
    refine TL.p (C := cx) (gc := true) (p_mv rfl) rfl rfl ?_
    refine TL.p (C := cx) (gc := true) (p_ncR rfl (fun _ => refOK_of nd (j := 1) rfl rfl)) rfl rfl ?_
    refine TL.p (C := cx) (gc := true) (p_faV fs102_0 (by decide) rfl nd (j := 1) rfl rfl) rfl rfl ?_
    refine TL.p (C := cx) (gc := true) (p_ldV (v := OL (α := UInt8) b3 (B1 ++ ([(u8 (s8.l.length : Int))] : List UInt8))) ty24 rfl rfl nd (j := 1) rfl rfl rfl rfl rfl) rfl rfl ?_
    refine TL.p (C := cx) (gc := true) (p_mv rfl) rfl rfl ?_
    obtain ⟨u11, hu11, hX⟩ := bind_some hX
    refine TL.appO (C := cx) nd kd24 bo9 ty5 rfl rfl (j := 0) rfl rfl (Src_str s8) (by decide) (need_t hu11) rfl fun nd => ?_
    refine TL.p (C := cx) (gc := true) (p_ncR rfl (fun _ => refOK_of nd (j := 1) rfl rfl)) rfl rfl ?_
    refine TL.p (C := cx) (gc := true) (p_faV fs102_0 (by decide) rfl nd (j := 1) rfl rfl) rfl rfl ?_
    refine TL.stV (C := cx) (lu := [OL (α := UInt8) b3 ((B1 ++ ([(u8 (s8.l.length : Int))] : List UInt8)) ++ s8.l)]) nd ty24 rfl (j := 1) rfl rfl rfl (Cells_rs (refOK_of nd (j := 0) rfl rfl)) rfl rfl [OL (α := UInt8) b3 ((B1 ++ ([(u8 (s8.l.length : Int))] : List UInt8)) ++ s8.l)] rfl fun nd => ?_
    refine TL.nil ?_
    refine hKE _ _ ?_
    refine TL.pick [1, 0] nd (by decide) fun nd => ?_
    refine TL.nil ?_
    try dsimp only [thenQ]
    refine RetQ_end ?_
    exact retX (v := .tup 0 (ofL [])) res0 (by obtain rfl := some_in hX; exact ⟨b3, rfl, rfl⟩) nd (inH_tup (l := []) trivial) ⟨rowIn_RV ⟨inH_rs nd (j := 1) rfl, trivial⟩, rowIn_RL, trivial⟩
  refine TK.seq_k fun K12 hK12 => ?_
  refine TK.reg ?_
  refine TL.p (C := cx) (gc := true) (p_mv rfl) rfl rfl ?_
  refine TL.p (C := cx) (gc := true) (p_lenS (s := s4) kd9 rfl) rfl rfl ?_
  refine TL.p (C := cx) (gc := true) (p_gtr rfl rfl) rfl rfl ?_
  refine TL.nil ?_
  refine hK12 _ _ ?_
  refine TK.cond (b := (decide ((s4.l.length : Int) > (255 : Int)))) rfl (fun hc => ?_) (fun hc => ?_)
  · have hX := ite_t hc hX
    refine TK.reg ?_
    refine TL.p (C := cx) (gc := true) (p_mv rfl) rfl rfl ?_
    obtain ⟨u13, hu13, hX⟩ := bind_some hX
    refine TL.p (C := cx) (gc := true) (p_sliS (s := s4) (l := (0 : Int)) (k := (255 : Int)) kd9 rfl rfl (fun n hn => rfl) (fun e => need_t hu13)) rfl rfl ?_
    refine TL.p (C := cx) (gc := true) (p_mv rfl) rfl rfl ?_
    refine TL.nil ?_
    exact J5 (Str.mk (slc s4.l (0 : Int) (255 : Int))) _ _ ⟨(), rfl, (Nd.pick nd (is := [1, 0]) (by decide)), (HSub.pick nd (is := [1, 0]) (by decide))⟩ hX
  · have hX := ite_f hc hX
    refine TK.skip ?_
    exact J5 s4 _ _ ⟨(), rfl, (Nd.pick nd (is := [1, 0]) (by decide)), (HSub.pick nd (is := [1, 0]) (by decide))⟩ hX

/-- cartridge/cartridgeref10.HeadBytes -/
theorem ok_cartridgeref10_HeadBytes (h1 : Head_api) (r : (List UInt8)) (hX : X.cartridgeref10_HeadBytes h1 = some r) : Fun Tryd.prog 45 [Enc.v (h1 : Head_api)] (· = Enc.v (r : (List UInt8))) := by
  refine Fun.of b45 (Nat.le_of_ble_eq_true rfl) (allVal.mem ⟨(by exact (v_val _)), trivial⟩) ?_
  unfold k45
  have nd : Nd [] := Nd_nil
  unfold X.cartridgeref10_HeadBytes at hX
  refine TK.seq_k fun K2 hK2 => ?_
  refine TK.reg ?_
  refine TL.boxV (C := cx) (lu := [Enc.v (h1.Path : Str), Enc.v (h1.Version : Int), Enc.v (h1.Size : Int), Enc.v (h1.From : Int), Enc.v (h1.Len : Int), Enc.v (h1.Serial : Int), Enc.v (h1.Sum : Int), Enc.v (h1.Gone : Bool)]) nd rfl (Cells_v (h1 : Head_api)) rfl ?_
  refine TL.p (C := cx) (gc := true) (p_mv rfl) rfl rfl ?_
  refine TL.nil ?_
  refine hK2 _ _ ?_
  refine TK.seq_k fun K3 hK3 => ?_
  refine TK.seq_k fun K4 hK4 => ?_
  refine TK.reg ?_
  refine TL.p (C := cx) (gc := true) (p_ldRa (l' := Enc.cl (h1 : Head_api)) ty23 rfl rfl rfl rfl rfl (Nat.le_of_ble_eq_true rfl)) rfl rfl ?_
  obtain ⟨r5, hr5, hX⟩ := bind_some hX
  refine TL.cvX rfl rfl rfl (fun _ => ⟨rfl, ⟨rfl, trivial⟩⟩) (fun e => ok_cartridgeref10_RightHead h1 _ hr5) ?_
  refine TL.p (C := cx) (gc := true) (p_not rfl) rfl rfl ?_
  refine TL.nil ?_
  refine hK4 _ _ ?_
  refine TK.cond (b := (!r5)) rfl (fun hc => ?_) (fun hc => ?_)
  · have hX := ite_t hc hX
    refine TK.seq_k fun K6 hK6 => ?_
    refine TK.reg ?_
    refine TL.p (C := cx) (gc := true) (p_mv rfl) rfl rfl ?_
    refine TL.nil ?_
    refine hK6 _ _ ?_
    refine TK.wk 2 (L ([] : (List UInt8))) rfl Wk_nil ?_
    refine TK.ret ?_
    try dsimp only [thenQ]
    exact ret1 (v := Enc.v (([] : (List UInt8)) : (List UInt8))) rfl (by obtain rfl := some_in hX; rfl) (v_val _)
  · have hX := ite_f hc hX
    refine TK.skip ?_
    refine hK3 _ _ ?_
    refine TK.seq_k fun K7 hK7 => ?_
    refine TK.reg ?_
    refine TL.p (C := cx) (gc := true) (p_bld (l := [.nils]) ty102 rfl all102 rfl (fun _ => trivial)) rfl rfl ?_
    refine TL.boxO (C := cx) (lu := [.nils]) nd rfl (Cells_agg rfl (allA.mem ⟨trivial, trivial⟩)) rfl fun b8 nd => ?_
    refine TL.p (C := cx) (gc := true) (p_mv rfl) rfl rfl ?_
    refine TL.nil ?_
    refine hK7 _ _ ?_
    refine TK.ownC (α := UInt8) nd (j := 0) rfl 0 5 (.inl rfl) fun b9 nd => ?_
    refine TK.seq_k fun K10 hK10 => ?_
    refine TK.reg ?_
    refine TL.p (C := cx) (gc := true) (p_mv rfl) rfl rfl ?_
    refine TL.p (C := cx) (gc := true) (p_faR fs23_0 (by decide) rfl) rfl rfl ?_
    refine TL.p (C := cx) (gc := true) (p_ldR (v := Enc.v (h1.Path : Str)) ty9 rfl rfl rfl rfl rfl rfl) rfl rfl ?_
    obtain ⟨r11, hr11, hX⟩ := bind_some hX
    refine TL.pick [1, 0] nd (by decide) fun nd => ?_
    refine TL.tcX [(b8, RV 102 [OL (α := UInt8) b9 ([] : List UInt8)]), (b9, RL (α := UInt8) 5 ([] : List UInt8))] [] rfl nd (dlt rfl) rfl ⟨rfl, ⟨rfl, ⟨rfl, trivial⟩⟩⟩ (ok_cartridgeref1_Writer_Text h1.Path ([] : List UInt8) b8 b9 (Nd.take nd 2 rfl) _ hr11) ?_
    rintro _ _ hQ nd
    obtain ⟨b13, rfl, rfl⟩ := hQ
    refine TL.nil ?_
    refine hK10 _ _ ?_
    refine TK.seq_k fun K14 hK14 => ?_
    refine TK.reg ?_
    refine TL.p (C := cx) (gc := true) (p_mv rfl) rfl rfl ?_
    refine TL.p (C := cx) (gc := true) (p_faR fs23_1 (by decide) rfl) rfl rfl ?_
    refine TL.p (C := cx) (gc := true) (p_ldR (v := Enc.v (h1.Version : Int)) ty3 rfl rfl rfl rfl rfl rfl) rfl rfl ?_
    obtain ⟨r15, hr15, hX⟩ := bind_some hX
    refine TL.tcX [(b8, RV 102 [OL (α := UInt8) b13 r11]), (b13, RL (α := UInt8) 5 r11)] [] rfl nd (dlt rfl) rfl ⟨rfl, ⟨rfl, ⟨rfl, trivial⟩⟩⟩ (ok_cartridgeref1_Writer_Int h1.Version r11 b8 b13 (Nd.take nd 2 rfl) _ hr15) ?_
    rintro _ _ hQ nd
    obtain ⟨b17, rfl, rfl⟩ := hQ
    refine TL.nil ?_
    refine hK14 _ _ ?_
    refine TK.seq_k fun K18 hK18 => ?_
    refine TK.reg ?_
    refine TL.p (C := cx) (gc := true) (p_mv rfl) rfl rfl ?_
    refine TL.p (C := cx) (gc := true) (p_faR fs23_2 (by decide) rfl) rfl rfl ?_
    refine TL.p (C := cx) (gc := true) (p_ldR (v := Enc.v (h1.Size : Int)) ty3 rfl rfl rfl rfl rfl rfl) rfl rfl ?_
    obtain ⟨r19, hr19, hX⟩ := bind_some hX
    refine TL.tcX [(b8, RV 102 [OL (α := UInt8) b17 r15]), (b17, RL (α := UInt8) 5 r15)] [] rfl nd (dlt rfl) rfl ⟨rfl, ⟨rfl, ⟨rfl, trivial⟩⟩⟩ (ok_cartridgeref1_Writer_Int h1.Size r15 b8 b17 (Nd.take nd 2 rfl) _ hr19) ?_
    rintro _ _ hQ nd
    obtain ⟨b21, rfl, rfl⟩ := hQ
    refine TL.nil ?_
    refine hK18 _ _ ?_
    refine TK.seq_k fun K22 hK22 => ?_
    refine TK.reg ?_
    refine TL.p (C := cx) (gc := true) (p_mv rfl) rfl rfl ?_
    refine TL.p (C := cx) (gc := true) (p_faR fs23_3 (by decide) rfl) rfl rfl ?_
    refine TL.p (C := cx) (gc := true) (p_ldR (v := Enc.v (h1.From : Int)) ty3 rfl rfl rfl rfl rfl rfl) rfl rfl ?_
    obtain ⟨r23, hr23, hX⟩ := bind_some hX
    refine TL.tcX [(b8, RV 102 [OL (α := UInt8) b21 r19]), (b21, RL (α := UInt8) 5 r19)] [] rfl nd (dlt rfl) rfl ⟨rfl, ⟨rfl, ⟨rfl, trivial⟩⟩⟩ (ok_cartridgeref1_Writer_Int h1.From r19 b8 b21 (Nd.take nd 2 rfl) _ hr23) ?_
    rintro _ _ hQ nd
    obtain ⟨b25, rfl, rfl⟩ := hQ
    refine TL.nil ?_
    refine hK22 _ _ ?_
    refine TK.seq_k fun K26 hK26 => ?_
    refine TK.reg ?_
    refine TL.p (C := cx) (gc := true) (p_mv rfl) rfl rfl ?_
    refine TL.p (C := cx) (gc := true) (p_faR fs23_4 (by decide) rfl) rfl rfl ?_
    refine TL.p (C := cx) (gc := true) (p_ldR (v := Enc.v (h1.Len : Int)) ty3 rfl rfl rfl rfl rfl rfl) rfl rfl ?_
    obtain ⟨r27, hr27, hX⟩ := bind_some hX
    refine TL.tcX [(b8, RV 102 [OL (α := UInt8) b25 r23]), (b25, RL (α := UInt8) 5 r23)] [] rfl nd (dlt rfl) rfl ⟨rfl, ⟨rfl, ⟨rfl, trivial⟩⟩⟩ (ok_cartridgeref1_Writer_Int h1.Len r23 b8 b25 (Nd.take nd 2 rfl) _ hr27) ?_
    rintro _ _ hQ nd
    obtain ⟨b29, rfl, rfl⟩ := hQ
    refine TL.nil ?_
    refine hK26 _ _ ?_
    refine TK.seq_k fun K30 hK30 => ?_
    refine TK.reg ?_
    refine TL.p (C := cx) (gc := true) (p_mv rfl) rfl rfl ?_
    refine TL.p (C := cx) (gc := true) (p_faR fs23_5 (by decide) rfl) rfl rfl ?_
    refine TL.p (C := cx) (gc := true) (p_ldR (v := Enc.v (h1.Serial : Int)) ty3 rfl rfl rfl rfl rfl rfl) rfl rfl ?_
    obtain ⟨r31, hr31, hX⟩ := bind_some hX
    refine TL.tcX [(b8, RV 102 [OL (α := UInt8) b29 r27]), (b29, RL (α := UInt8) 5 r27)] [] rfl nd (dlt rfl) rfl ⟨rfl, ⟨rfl, ⟨rfl, trivial⟩⟩⟩ (ok_cartridgeref1_Writer_Int h1.Serial r27 b8 b29 (Nd.take nd 2 rfl) _ hr31) ?_
    rintro _ _ hQ nd
    obtain ⟨b33, rfl, rfl⟩ := hQ
    refine TL.nil ?_
    refine hK30 _ _ ?_
    refine TK.seq_k fun K34 hK34 => ?_
    refine TK.reg ?_
    refine TL.p (C := cx) (gc := true) (p_mv rfl) rfl rfl ?_
    refine TL.p (C := cx) (gc := true) (p_faR fs23_6 (by decide) rfl) rfl rfl ?_
    refine TL.p (C := cx) (gc := true) (p_ldR (v := Enc.v (h1.Sum : Int)) ty3 rfl rfl rfl rfl rfl rfl) rfl rfl ?_
    obtain ⟨r35, hr35, hX⟩ := bind_some hX
    refine TL.tcX [(b8, RV 102 [OL (α := UInt8) b33 r31]), (b33, RL (α := UInt8) 5 r31)] [] rfl nd (dlt rfl) rfl ⟨rfl, ⟨rfl, ⟨rfl, trivial⟩⟩⟩ (ok_cartridgeref1_Writer_Int h1.Sum r31 b8 b33 (Nd.take nd 2 rfl) _ hr35) ?_
    rintro _ _ hQ nd
    obtain ⟨b37, rfl, rfl⟩ := hQ
    refine TL.nil ?_
    refine hK34 _ _ ?_
    refine TK.seq_k fun K38 hK38 => ?_
    refine TK.reg ?_
    refine TL.p (C := cx) (gc := true) (p_mv rfl) rfl rfl ?_
    refine TL.nil ?_
    refine hK38 _ _ ?_
    refine TK.seq_k fun K39 hK39 => ?_
    have J39 : ∀ (c42 : UInt8) (env : Env) (h : Hp), (∃ b41 b40, keepE [3, 4] env = [(3, true, .ref b40 0 1), (4, true, Enc.v (c42 : UInt8))] ∧ Nd [(b41, RL (α := UInt8) 5 r35), (b40, RV 102 [OL (α := UInt8) b41 r35])] ∧ HSub [(b41, RL (α := UInt8) 5 r35), (b40, RV 102 [OL (α := UInt8) b41 r35])] h) → X.cartridgeref10_HeadBytes_j39 r35 c42 = some r → K39 env h := by
      intro c42 env h hE hX
      obtain ⟨b41, b40, henv, nd, hs⟩ := hE
      unfold X.cartridgeref10_HeadBytes_j39 at hX
      refine hK39 _ _ (TK.keep [3, 4] ?_)
      rw [henv]
      refine TK.subH hs ?_
      refine TK.seq_k fun K43 hK43 => ?_
      refine TK.reg ?_
      refine TL.p (C := cx) (gc := true) (p_mv rfl) rfl rfl ?_
      refine TL.p (C := cx) (gc := true) (p_mv rfl) rfl rfl ?_
      obtain ⟨r44, hr44, hX⟩ := bind_some hX
      refine TL.pick [1, 0] nd (by decide) fun nd => ?_
      refine TL.tcX [(b40, RV 102 [OL (α := UInt8) b41 r35]), (b41, RL (α := UInt8) 5 r35)] [] rfl nd (dlt rfl) rfl ⟨rfl, ⟨rfl, ⟨rfl, trivial⟩⟩⟩ (ok_cartridgeref1_Writer_Byte c42 r35 b40 b41 (Nd.take nd 2 rfl) _ hr44) ?_
      rintro _ _ hQ nd
      obtain ⟨b46, rfl, rfl⟩ := hQ
      refine TL.nil ?_
      refine hK43 _ _ ?_
      refine TK.seq_k fun K47 hK47 => ?_
      refine TK.reg ?_
      refine TL.p (C := cx) (gc := true) (p_mv rfl) rfl rfl ?_
      refine TL.p (C := cx) (gc := true) (p_ncR rfl (fun _ => refOK_of nd (j := 0) rfl rfl)) rfl rfl ?_
      refine TL.p (C := cx) (gc := true) (p_faV fs102_0 (by decide) rfl nd (j := 0) rfl rfl) rfl rfl ?_
      refine TL.p (C := cx) (gc := true) (p_ldV (v := OL (α := UInt8) b46 r44) ty24 rfl rfl nd (j := 0) rfl rfl rfl rfl rfl) rfl rfl ?_
      refine TL.p (C := cx) (gc := true) (p_mv rfl) rfl rfl ?_
      refine TL.nil ?_
      refine hK47 _ _ ?_
      refine TK.layR (l2' := [Enc.v (r44 : (List UInt8))]) [(2, L r44)] nd (j := 1) rfl 0 rfl rfl ⟨fix_OL nd (j := 1) rfl, trivial⟩ ⟨⟨_, rfl, fix_OL nd (j := 1) rfl, rfl⟩, trivial⟩ fun nd => ?_
      refine TK.ret ?_
      try dsimp only [thenQ]
      exact ret1 (v := Enc.v (r44 : (List UInt8))) rfl (by obtain rfl := some_in hX; rfl) (v_val _)
    refine TK.seq_k fun K48 hK48 => ?_
    refine TK.reg ?_
    refine TL.p (C := cx) (gc := true) (p_faR fs23_7 (by decide) rfl) rfl rfl ?_
    refine TL.p (C := cx) (gc := true) (p_ldR (v := Enc.v (h1.Gone : Bool)) ty4 rfl rfl rfl rfl rfl rfl) rfl rfl ?_
    refine TL.nil ?_
    refine hK48 _ _ ?_
    refine TK.cond (b := h1.Gone) rfl (fun hc => ?_) (fun hc => ?_)
    · have hX := ite_t hc hX
      refine TK.reg ?_
      refine TL.p (C := cx) (gc := true) (p_mv rfl) rfl rfl ?_
      refine TL.nil ?_
      exact J39 (1 : UInt8) _ _ ⟨b37, b8, rfl, (Nd.pick nd (is := [1, 0]) (by decide)), (HSub.pick nd (is := [1, 0]) (by decide))⟩ hX
    · have hX := ite_f hc hX
      refine TK.skip ?_
      exact J39 (0 : UInt8) _ _ ⟨b37, b8, rfl, (Nd.pick nd (is := [1, 0]) (by decide)), (HSub.pick nd (is := [1, 0]) (by decide))⟩ hX

/-- cartridge/cartridgeref10.Blocks -/
theorem ok_cartridgeref10_Blocks (label1 : Int) (at2 : Int) (h3 : Head_api) (b4 : (List UInt8)) (r : ((List (List UInt8)) × Int)) (hX : X.cartridgeref10_Blocks label1 at2 h3 b4 = some r) : Fun Tryd.prog 14 [Enc.v (label1 : Int), Enc.v (at2 : Int), Enc.v (h3 : Head_api), Enc.v (b4 : (List UInt8))] (· = .tup 2 (ofL [Enc.v r.1, Enc.v r.2])) := by
  refine Fun.of b14 (Nat.le_of_ble_eq_true rfl) (allVal.mem ⟨(by exact (v_val _)), (by exact (v_val _)), (by exact (v_val _)), (by exact (v_val _)), trivial⟩) ?_
  unfold k14
  have nd : Nd [] := Nd_nil
  unfold X.cartridgeref10_Blocks at hX
  refine TK.seq_k fun K5 hK5 => ?_
  refine TK.reg ?_
  refine TL.boxV (C := cx) (lu := [Enc.v (h3.Path : Str), Enc.v (h3.Version : Int), Enc.v (h3.Size : Int), Enc.v (h3.From : Int), Enc.v (h3.Len : Int), Enc.v (h3.Serial : Int), Enc.v (h3.Sum : Int), Enc.v (h3.Gone : Bool)]) nd rfl (Cells_v (h3 : Head_api)) rfl ?_
  refine TL.p (C := cx) (gc := true) (p_mv rfl) rfl rfl ?_
  refine TL.p (C := cx) (gc := true) (p_mv rfl) rfl rfl ?_
  refine TL.nil ?_
  refine hK5 _ _ ?_
  refine TK.seq_k fun K6 hK6 => ?_
  refine TK.seq_k fun K7 hK7 => ?_
  refine TK.reg ?_
  refine TL.p (C := cx) (gc := true) (p_ldRa (l' := Enc.cl (h3 : Head_api)) ty23 rfl rfl rfl rfl rfl (Nat.le_of_ble_eq_true rfl)) rfl rfl ?_
  obtain ⟨r8, hr8, hX⟩ := bind_some hX
  refine TL.cvX rfl rfl rfl (fun _ => ⟨rfl, ⟨rfl, trivial⟩⟩) (fun e => ok_cartridgeref10_RightHead h3 _ hr8) ?_
  refine TL.p (C := cx) (gc := true) (p_not rfl) rfl rfl ?_
  refine TL.p (C := cx) (gc := true) (p_mv rfl) rfl rfl ?_
  refine TL.p (C := cx) (gc := (!((!r8)))) (p_mv rfl (hg := fun e => rfl)) (gcF1 rfl) rfl ?_
  refine TL.p (C := cx) (gc := (!((!r8)))) (p_lenL (xs := b4) kd24 rfl (hg := fun e => e)) (gcF1 rfl) rfl ?_
  refine TL.p (C := cx) (gc := (!((!r8)))) (p_faR fs23_4 (by decide) rfl (hg := fun e => rfl)) (gcF1 rfl) rfl ?_
  refine TL.p (C := cx) (gc := (!((!r8)))) (p_ldR (v := Enc.v (h3.Len : Int)) ty3 rfl rfl rfl rfl rfl rfl (hg := fun e => e)) (gcF1 rfl) rfl ?_
  refine TL.p (C := cx) (gc := (!((!r8)))) (p_neq rfl rfl (hg := fun e => ⟨e, e⟩)) (gcF1 rfl) rfl ?_
  refine TL.p (C := cx) (gc := true) (p_or rfl rfl (fun e => ⟨rfl, fun h => (not_t h)⟩)) rfl rfl ?_
  refine TL.nil ?_
  refine hK7 _ _ ?_
  refine TK.cond (b := ((!r8) || ((b4.length : Int) != h3.Len))) rfl (fun hc => ?_) (fun hc => ?_)
  · have hX := ite_t hc hX
    refine TK.seq_k fun K9 hK9 => ?_
    refine TK.reg ?_
    refine TL.p (C := cx) (gc := true) (p_mv rfl) rfl rfl ?_
    refine TL.p (C := cx) (gc := true) (p_mv rfl) rfl rfl ?_
    refine TL.nil ?_
    refine hK9 _ _ ?_
    refine TK.wk 8 (L ([] : (List (List UInt8)))) rfl Wk_nil ?_
    refine TK.ret ?_
    try dsimp only [thenQ]
    exact retN (vs := [Enc.v (([] : (List (List UInt8))) : (List (List UInt8))), Enc.v ((1 : Int) : Int)]) ⟨rfl, rfl, trivial⟩ (by obtain rfl := some_in hX; rfl) (allVal.mem ⟨v_val _, v_val _, trivial⟩)
  · have hX := ite_f hc hX
    refine TK.skip ?_
    refine hK6 _ _ ?_
    refine TK.seq_k fun K10 hK10 => ?_
    refine TK.reg ?_
    refine TL.p (C := cx) (gc := true) (p_ldRa (l' := Enc.cl (h3 : Head_api)) ty23 rfl rfl rfl rfl rfl (Nat.le_of_ble_eq_true rfl)) rfl rfl ?_
    obtain ⟨r11, hr11, hX⟩ := bind_some hX
    refine TL.cvX rfl rfl rfl (fun _ => ⟨rfl, ⟨rfl, trivial⟩⟩) (fun e => ok_cartridgeref10_HeadBytes h3 _ hr11) ?_
    refine TL.p (C := cx) (gc := true) (p_bld (l := Enc.cl ((Unit_api.mk (2 : Int) (0 : Int) (0 : Int) r11) : Unit_api)) ty42 rfl all42 rfl (fun _ => ⟨⟨rfl, trivial, rfl⟩, ⟨rfl, trivial, rfl⟩, trivial⟩)) rfl rfl ?_
    refine TL.litO (C := cx) nd ([(Unit_api.mk (2 : Int) (0 : Int) (0 : Int) r11)] : List Unit_api) kd97 ty42 rfl ⟨⟨rfl, rfl⟩, trivial⟩ rfl rfl rfl fun b12 nd => ?_
    refine TL.p (C := cx) (gc := true) (p_mv rfl) rfl rfl ?_
    refine TL.nil ?_
    refine hK10 _ _ ?_
    refine TK.seq_k fun K13 hK13 => ?_
    refine TK.seq_k fun K14 hK14 => ?_
    refine TK.reg ?_
    refine TL.p (C := cx) (gc := true) (p_mv rfl) rfl rfl ?_
    refine TL.nil ?_
    refine hK14 _ _ ?_
    refine TK.block ?_
    obtain ⟨o15, hO15, hA15⟩ := bind_some hX
    have E15 : ∀ (l20 : List Unit_api) (env : Env) (h : Hp), (∃ b19, keepE [0, 1, 10] env = [(0, true, Enc.v (label1 : Int)), (1, true, Enc.v (at2 : Int)), (10, true, OL (α := Unit_api) b19 l20)] ∧ Nd [(b19, RL (α := Unit_api) 42 l20)] ∧ HSub [(b19, RL (α := Unit_api) 42 l20)] h) → X.cartridgeref10_Blocks_e15 label1 at2 l20 = some r → K13 env h := by
      intro l20 env h hE hX
      obtain ⟨b19, henv, nd, hs⟩ := hE
      unfold X.cartridgeref10_Blocks_e15 at hX
      refine hK13 _ _ (TK.keep [0, 1, 10] ?_)
      rw [henv]
      refine TK.subH hs ?_
      refine TK.seq_k fun K21 hK21 => ?_
      refine TK.reg ?_
      refine TL.p (C := cx) (gc := true) (p_mv rfl) rfl rfl ?_
      refine TL.p (C := cx) (gc := true) (p_bld (l := [Enc.v ((4 : Int) : Int), Enc.v ((0 : Int) : Int), Enc.v ((0 : Int) : Int), .nils]) ty42 rfl all42 rfl (fun _ => ⟨⟨rfl, trivial, rfl⟩, trivial⟩)) rfl rfl (TL.wk (v' := Enc.v ((Unit_api.mk (4 : Int) (0 : Int) (0 : Int) ([] : (List UInt8))) : Unit_api)) (Wk_agg ⟨Wk.refl _, Wk.refl _, Wk.refl _, Wk_nil, trivial⟩) ?_)
      refine TL.lit (C := cx) ([(Unit_api.mk (4 : Int) (0 : Int) (0 : Int) ([] : (List UInt8)))] : List Unit_api) kd97 ty42 rfl ⟨⟨rfl, rfl⟩, trivial⟩ rfl rfl rfl ?_
      obtain ⟨u22, hu22, hX⟩ := bind_some hX
      refine TL.appO (C := cx) nd kd97 bo97 ty42 rfl rfl (j := 0) rfl rfl (Src_L _) (by decide) (need_t hu22) rfl fun nd => ?_
      refine TL.p (C := cx) (gc := true) (p_mv rfl) rfl rfl ?_
      refine TL.nil ?_
      refine hK21 _ _ ?_
      refine TK.seq_k fun K23 hK23 => ?_
      refine TK.reg ?_
      refine TL.p (C := cx) (gc := true) (p_mv rfl) rfl rfl ?_
      refine TL.nil ?_
      refine hK23 _ _ ?_
      refine TK.ownL (α := (List UInt8)) 13 24 nd rfl (.inl rfl) fun b24 nd => ?_
      refine TK.seq_k fun K25 hK25 => ?_
      refine TK.seq_k fun K26 hK26 => ?_
      refine TK.reg ?_
      refine TL.p (C := cx) (gc := true) (p_mv rfl) rfl rfl ?_
      refine TL.nil ?_
      refine hK26 _ _ ?_
      refine TK.block ?_
      obtain ⟨o27, hO27, hA27⟩ := bind_some hX
      have E27 : ∀ (l34 : List (List UInt8)) (env : Env) (h : Hp), (∃ b33, keepE [13] env = [(13, true, OL (α := (List UInt8)) b33 l34)] ∧ Nd [(b33, RL (α := (List UInt8)) 24 l34)] ∧ HSub [(b33, RL (α := (List UInt8)) 24 l34)] h) → X.cartridgeref10_Blocks_e27 l34 = some r → K25 env h := by
        intro l34 env h hE hX
        obtain ⟨b33, henv, nd, hs⟩ := hE
        unfold X.cartridgeref10_Blocks_e27 at hX
        refine hK25 _ _ (TK.keep [13] ?_)
        rw [henv]
        refine TK.subH hs ?_
        refine TK.seq_k fun K35 hK35 => ?_
        refine TK.reg ?_
        refine TL.p (C := cx) (gc := true) (p_mv rfl) rfl rfl ?_
        refine TL.p (C := cx) (gc := true) (p_mv rfl) rfl rfl ?_
        refine TL.p (C := cx) (gc := true) (p_mv rfl) rfl rfl ?_
        refine TL.nil ?_
        refine hK35 _ _ ?_
        refine TK.lay [(8, L l34)] nd (j := 0) rfl ⟨⟨_, rfl, fix_OL nd (j := 0) rfl, rfl⟩, trivial⟩ fun nd => ?_
        refine TK.ret ?_
        try dsimp only [thenQ]
        exact retN (vs := [Enc.v (l34 : (List (List UInt8))), Enc.v ((0 : Int) : Int)]) ⟨rfl, rfl, trivial⟩ (by obtain rfl := some_in hX; rfl) (allVal.mem ⟨v_val _, v_val _, trivial⟩)
      refine TK.iter [0, 1, 10, 13, 14] (fun s env h => match s with | (l29, out31, i32) => ∃ b28 b30, env = [(0, true, Enc.v (label1 : Int)), (1, true, Enc.v (at2 : Int)), (10, true, OL (α := Unit_api) b28 l29), (13, true, OL (α := (List UInt8)) b30 out31), (14, true, Enc.v (i32 : Int))] ∧ Nd [(b28, RL (α := Unit_api) 42 l29), (b30, RL (α := (List UInt8)) 24 out31)] ∧ HSub [(b28, RL (α := Unit_api) 42 l29), (b30, RL (α := (List UInt8)) 24 out31)] h) hO27 ⟨b19, b24, rfl, (Nd.pick nd (is := [1, 0]) (by decide)), (HSub.pick nd (is := [1, 0]) (by decide))⟩ ?_
      rintro ⟨l29, out31, i32⟩ env h x27x ⟨b28, b30, rfl, nd, hs⟩ hX hR27
      refine TK.subH hs ?_
      unfold X.cartridgeref10_Blocks_s27 at hX
      try dsimp only at hX
      refine TK.seq_k fun K36 hK36 => ?_
      refine TK.seq_k fun K37 hK37 => ?_
      refine TK.reg ?_
      refine TL.p (C := cx) (gc := true) (p_mv rfl) rfl rfl ?_
      refine TL.p (C := cx) (gc := true) (p_mv rfl) rfl rfl ?_
      refine TL.p (C := cx) (gc := true) (p_lenR kd97 rfl (fun _ => refOK_of nd (j := 0) rfl rfl)) rfl rfl ?_
      refine TL.p (C := cx) (gc := true) (p_lss rfl rfl) rfl rfl ?_
      refine TL.nil ?_
      refine hK37 _ _ ?_
      refine TK.cond (b := (decide (i32 < (l29.length : Int)))) rfl (fun hc => ?_) (fun hc => ?_)
      · have hX := ite_t hc hX
        refine TK.skip ?_
        refine hK36 _ _ ?_
        refine TK.seq_k fun K38 hK38 => ?_
        refine TK.block ?_
        refine TK.seq_k fun K39 hK39 => ?_
        refine TK.reg ?_
        refine TL.p (C := cx) (gc := true) (p_mv rfl) rfl rfl ?_
        refine TL.p (C := cx) (gc := true) (p_mv rfl) rfl rfl ?_
        refine TL.p (C := cx) (gc := true) (p_mv rfl) rfl rfl ?_
        obtain ⟨e40, he40, hX⟩ := bind_some hX
        refine TL.p (C := cx) (gc := true) (p_iaO (xs := l29) kd97 ty42 rfl rfl rfl nd (j := 0) rfl (fun _ => he40)) rfl rfl ?_
        refine TL.p (C := cx) (gc := true) (p_faO (xs := l29) fs42_1 (by decide) rfl nd (j := 0) rfl) rfl rfl ?_
        refine TL.stL (C := cx) (lu := Enc.cl (label1 : Int)) (a' := (Unit_api.mk e40.Kind label1 e40.Number e40.Load)) nd ty3 rfl (j := 0) rfl he40 rfl (Cells_v (label1 : Int)) rfl rfl rfl fun nd => ?_
        refine TL.cv 10 (OL b28 (l29.set i32.toNat (Unit_api.mk e40.Kind label1 e40.Number e40.Load))) rfl (Wk_eq (OL_len (by simp))) ?_
        refine TL.nil ?_
        refine hK39 _ _ ?_
        refine TK.seq_k fun K41 hK41 => ?_
        refine TK.reg ?_
        refine TL.p (C := cx) (gc := true) (p_mv rfl) rfl rfl ?_
        refine TL.p (C := cx) (gc := true) (p_mv rfl) rfl rfl ?_
        refine TL.p (C := cx) (gc := true) (p_mv rfl) rfl rfl ?_
        refine TL.p (C := cx) (gc := true) (p_mv rfl) rfl rfl ?_
        refine TL.p (C := cx) (gc := true) (p_add rfl rfl) rfl rfl ?_
        obtain ⟨e42, he42, hX⟩ := bind_some hX
        refine TL.p (C := cx) (gc := true) (p_iaO (xs := (l29.set i32.toNat (Unit_api.mk e40.Kind label1 e40.Number e40.Load))) kd97 ty42 rfl rfl rfl nd (j := 0) rfl (fun _ => he42)) rfl rfl ?_
        refine TL.p (C := cx) (gc := true) (p_faO (xs := (l29.set i32.toNat (Unit_api.mk e40.Kind label1 e40.Number e40.Load))) fs42_2 (by decide) rfl nd (j := 0) rfl) rfl rfl ?_
        refine TL.stL (C := cx) (lu := Enc.cl ((wr (at2 + i32)) : Int)) (a' := (Unit_api.mk e42.Kind e42.Label (wr (at2 + i32)) e42.Load)) nd ty3 rfl (j := 0) rfl he42 rfl (Cells_v ((wr (at2 + i32)) : Int)) rfl rfl rfl fun nd => ?_
        refine TL.cv 10 (OL b28 ((l29.set i32.toNat (Unit_api.mk e40.Kind label1 e40.Number e40.Load)).set i32.toNat (Unit_api.mk e42.Kind e42.Label (wr (at2 + i32)) e42.Load))) rfl (Wk_eq (OL_len (by simp))) ?_
        refine TL.nil ?_
        refine hK41 _ _ ?_
        refine TK.seq_k fun K43 hK43 => ?_
        have J43 : ∀ (l45 : List Unit_api) (env : Env) (h : Hp), (∃ b44 b46, keepE [0, 1, 10, 13, 14] env = [(0, true, Enc.v (label1 : Int)), (1, true, Enc.v (at2 : Int)), (10, true, OL (α := Unit_api) b44 l45), (13, true, OL (α := (List UInt8)) b46 out31), (14, true, Enc.v (i32 : Int))] ∧ Nd [(b44, RL (α := Unit_api) 42 l45), (b46, RL (α := (List UInt8)) 24 out31)] ∧ HSub [(b44, RL (α := Unit_api) 42 l45), (b46, RL (α := (List UInt8)) 24 out31)] h) → X.cartridgeref10_Blocks_j43 i32 out31 l45 = some x27x → K43 env h := by
          intro l45 env h hE hX
          obtain ⟨b44, b46, henv, nd, hs⟩ := hE
          unfold X.cartridgeref10_Blocks_j43 at hX
          refine hK43 _ _ (TK.keep [0, 1, 10, 13, 14] ?_)
          rw [henv]
          refine TK.subH hs ?_
          refine TK.seq_k fun K47 hK47 => ?_
          refine TK.reg ?_
          refine TL.p (C := cx) (gc := true) (p_mv rfl) rfl rfl ?_
          refine TL.p (C := cx) (gc := true) (p_mv rfl) rfl rfl ?_
          obtain ⟨e48, he48, hX⟩ := bind_some hX
          refine TL.p (C := cx) (gc := true) (p_iaO (xs := l45) kd97 ty42 rfl rfl rfl nd (j := 0) rfl (fun _ => he48)) rfl rfl ?_
          refine TL.p (C := cx) (gc := true) (p_ldO (xs := l45) (a := e48) (e48 : Unit_api) ty42 rfl rfl nd (j := 0) rfl (fun _ => he48) rfl rfl rfl) rfl rfl ?_
          obtain ⟨r49, hr49, hX⟩ := bind_some hX
          refine TL.cvX rfl rfl rfl (fun _ => ⟨rfl, ⟨rfl, trivial⟩⟩) (fun e => ok_cartridgeref1_PutFrame e48 _ hr49) ?_
          refine TL.p (C := cx) (gc := true) (p_mv rfl) rfl rfl ?_
          refine TL.p (C := cx) (gc := true) (p_ex rfl rfl (by decide)) rfl rfl ?_
          refine TL.p (C := cx) (gc := true) (p_ex rfl rfl (by decide)) rfl rfl ?_
          refine TL.p (C := cx) (gc := true) (p_mv rfl) rfl rfl ?_
          refine TL.p (C := cx) (gc := true) (p_mv rfl) rfl rfl ?_
          refine TL.nil ?_
          refine hK47 _ _ ?_
          refine TK.seq_k fun K50 hK50 => ?_
          refine TK.seq_k fun K51 hK51 => ?_
          refine TK.reg ?_
          refine TL.p (C := cx) (gc := true) (p_mv rfl) rfl rfl ?_
          refine TL.p (C := cx) (gc := true) (p_neq rfl rfl) rfl rfl ?_
          refine TL.nil ?_
          refine hK51 _ _ ?_
          refine TK.cond (b := (r49.2 != (0 : Int))) rfl (fun hc => ?_) (fun hc => ?_)
          · have hX := ite_t hc hX
            refine TK.seq_k fun K52 hK52 => ?_
            refine TK.reg ?_
            refine TL.p (C := cx) (gc := true) (p_mv rfl) rfl rfl ?_
            refine TL.p (C := cx) (gc := true) (p_mv rfl) rfl rfl ?_
            refine TL.p (C := cx) (gc := true) (p_mv rfl) rfl rfl ?_
            refine TL.nil ?_
            refine hK52 _ _ ?_
            refine TK.wk 8 (L ([] : (List (List UInt8)))) rfl Wk_nil ?_
            refine TK.ret ?_
            obtain rfl := hR27 _ (some_in hX).symm
            replace hX := hA27
            try dsimp only [thenQ]
            exact retN (vs := [Enc.v (([] : (List (List UInt8))) : (List (List UInt8))), Enc.v (r49.2 : Int)]) ⟨rfl, rfl, trivial⟩ (by obtain rfl := some_in hX; rfl) (allVal.mem ⟨v_val _, v_val _, trivial⟩)
          · have hX := ite_f hc hX
            refine TK.skip ?_
            refine hK50 _ _ ?_
            refine TK.reg ?_
            refine TL.p (C := cx) (gc := true) (p_mv rfl) rfl rfl ?_
            refine TL.p (C := cx) (gc := true) (p_mv rfl) rfl rfl ?_
            refine TL.lit (C := cx) ([r49.1] : List (List UInt8)) kd26 ty24 rfl ⟨⟨rfl, rfl⟩, trivial⟩ rfl rfl rfl ?_
            obtain ⟨u53, hu53, hX⟩ := bind_some hX
            refine TL.appO (C := cx) nd kd26 bo26 ty24 rfl rfl (j := 1) rfl rfl (Src_L _) (by decide) (need_t hu53) rfl fun nd => ?_
            refine TL.p (C := cx) (gc := true) (p_mv rfl) rfl rfl ?_
            refine TL.nil ?_
            refine hK38 _ _ ?_
            refine TK.reg ?_
            refine TL.p (C := cx) (gc := true) (p_mv rfl) rfl rfl ?_
            refine TL.p (C := cx) (gc := true) (p_add rfl rfl) rfl rfl ?_
            refine TL.p (C := cx) (gc := true) (p_mv rfl) rfl rfl ?_
            refine TL.nil ?_
            exact ⟨_, (some_in hX).symm, b44, b46, rfl, (Nd.pick nd (is := [0, 1]) (by decide)), (HSub.pick nd (is := [0, 1]) (by decide))⟩
        refine TK.seq_k fun K54 hK54 => ?_
        refine TK.reg ?_
        refine TL.p (C := cx) (gc := true) (p_mv rfl) rfl rfl ?_
        refine TL.p (C := cx) (gc := true) (p_gtr rfl rfl) rfl rfl ?_
        refine TL.nil ?_
        refine hK54 _ _ ?_
        refine TK.cond (b := (decide (at2 > (2147483648 : Int)))) rfl (fun hc => ?_) (fun hc => ?_)
        · have hX := ite_t hc hX
          refine TK.reg ?_
          refine TL.p (C := cx) (gc := true) (p_mv rfl) rfl rfl ?_
          refine TL.p (C := cx) (gc := true) (p_mv rfl) rfl rfl ?_
          obtain ⟨e55, he55, hX⟩ := bind_some hX
          refine TL.p (C := cx) (gc := true) (p_iaO (xs := ((l29.set i32.toNat (Unit_api.mk e40.Kind label1 e40.Number e40.Load)).set i32.toNat (Unit_api.mk e42.Kind e42.Label (wr (at2 + i32)) e42.Load))) kd97 ty42 rfl rfl rfl nd (j := 0) rfl (fun _ => he55)) rfl rfl ?_
          refine TL.p (C := cx) (gc := true) (p_faO (xs := ((l29.set i32.toNat (Unit_api.mk e40.Kind label1 e40.Number e40.Load)).set i32.toNat (Unit_api.mk e42.Kind e42.Label (wr (at2 + i32)) e42.Load))) fs42_2 (by decide) rfl nd (j := 0) rfl) rfl rfl ?_
          refine TL.stL (C := cx) (lu := Enc.cl ((2147483648 : Int) : Int)) (a' := (Unit_api.mk e55.Kind e55.Label (2147483648 : Int) e55.Load)) nd ty3 rfl (j := 0) rfl he55 rfl (Cells_v ((2147483648 : Int) : Int)) rfl rfl rfl fun nd => ?_
          refine TL.cv 10 (OL b28 (((l29.set i32.toNat (Unit_api.mk e40.Kind label1 e40.Number e40.Load)).set i32.toNat (Unit_api.mk e42.Kind e42.Label (wr (at2 + i32)) e42.Load)).set i32.toNat (Unit_api.mk e55.Kind e55.Label (2147483648 : Int) e55.Load))) rfl (Wk_eq (OL_len (by simp))) ?_
          refine TL.nil ?_
          exact J43 (((l29.set i32.toNat (Unit_api.mk e40.Kind label1 e40.Number e40.Load)).set i32.toNat (Unit_api.mk e42.Kind e42.Label (wr (at2 + i32)) e42.Load)).set i32.toNat (Unit_api.mk e55.Kind e55.Label (2147483648 : Int) e55.Load)) _ _ ⟨b28, b30, rfl, (Nd.pick nd (is := [0, 1]) (by decide)), (HSub.pick nd (is := [0, 1]) (by decide))⟩ hX
        · have hX := ite_f hc hX
          refine TK.skip ?_
          exact J43 ((l29.set i32.toNat (Unit_api.mk e40.Kind label1 e40.Number e40.Load)).set i32.toNat (Unit_api.mk e42.Kind e42.Label (wr (at2 + i32)) e42.Load)) _ _ ⟨b28, b30, rfl, (Nd.pick nd (is := [0, 1]) (by decide)), (HSub.pick nd (is := [0, 1]) (by decide))⟩ hX
      · have hX := ite_f hc hX
        refine TK.exit ?_
        obtain rfl := hR27 _ (some_in hX).symm
        exact E27 out31 _ _ ⟨b30, rfl, (Nd.pick nd (is := [1]) (by decide)), (HSub.pick nd (is := [1]) (by decide))⟩ hA27
    refine TK.iter [0, 1, 3, 10, 11] (fun s env h => match s with | (l17, i18) => ∃ b16, env = [(0, true, Enc.v (label1 : Int)), (1, true, Enc.v (at2 : Int)), (3, true, Enc.v (b4 : (List UInt8))), (10, true, OL (α := Unit_api) b16 l17), (11, true, Enc.v (i18 : Int))] ∧ Nd [(b16, RL (α := Unit_api) 42 l17)] ∧ HSub [(b16, RL (α := Unit_api) 42 l17)] h) hO15 ⟨b12, rfl, (Nd.pick nd (is := [0]) (by decide)), (HSub.pick nd (is := [0]) (by decide))⟩ ?_
    rintro ⟨l17, i18⟩ env h x15x ⟨b16, rfl, nd, hs⟩ hX hR15
    refine TK.subH hs ?_
    unfold X.cartridgeref10_Blocks_s15 at hX
    try dsimp only at hX
    refine TK.seq_k fun K56 hK56 => ?_
    refine TK.seq_k fun K57 hK57 => ?_
    refine TK.reg ?_
    refine TL.p (C := cx) (gc := true) (p_mv rfl) rfl rfl ?_
    refine TL.p (C := cx) (gc := true) (p_mv rfl) rfl rfl ?_
    refine TL.p (C := cx) (gc := true) (p_lenL (xs := b4) kd24 rfl) rfl rfl ?_
    refine TL.p (C := cx) (gc := true) (p_lss rfl rfl) rfl rfl ?_
    refine TL.nil ?_
    refine hK57 _ _ ?_
    refine TK.cond (b := (decide (i18 < (b4.length : Int)))) rfl (fun hc => ?_) (fun hc => ?_)
    · have hX := ite_t hc hX
      refine TK.skip ?_
      refine hK56 _ _ ?_
      refine TK.seq_k fun K58 hK58 => ?_
      refine TK.block ?_
      refine TK.seq_k fun K59 hK59 => ?_
      refine TK.reg ?_
      refine TL.p (C := cx) (gc := true) (p_mv rfl) rfl rfl ?_
      refine TL.p (C := cx) (gc := true) (p_add rfl rfl) rfl rfl ?_
      refine TL.p (C := cx) (gc := true) (p_mv rfl) rfl rfl ?_
      refine TL.nil ?_
      refine hK59 _ _ ?_
      refine TK.seq_k fun K60 hK60 => ?_
      have J60 : ∀ (to62 : Int) (env : Env) (h : Hp), (∃ b61, keepE [0, 1, 3, 10, 11, 12] env = [(0, true, Enc.v (label1 : Int)), (1, true, Enc.v (at2 : Int)), (3, true, Enc.v (b4 : (List UInt8))), (10, true, OL (α := Unit_api) b61 l17), (11, true, Enc.v (i18 : Int)), (12, true, Enc.v (to62 : Int))] ∧ Nd [(b61, RL (α := Unit_api) 42 l17)] ∧ HSub [(b61, RL (α := Unit_api) 42 l17)] h) → X.cartridgeref10_Blocks_j60 i18 b4 l17 to62 = some x15x → K60 env h := by
        intro to62 env h hE hX
        obtain ⟨b61, henv, nd, hs⟩ := hE
        unfold X.cartridgeref10_Blocks_j60 at hX
        refine hK60 _ _ (TK.keep [0, 1, 3, 10, 11, 12] ?_)
        rw [henv]
        refine TK.subH hs ?_
        refine TK.reg ?_
        refine TL.p (C := cx) (gc := true) (p_mv rfl) rfl rfl ?_
        refine TL.p (C := cx) (gc := true) (p_mv rfl) rfl rfl ?_
        refine TL.p (C := cx) (gc := true) (p_mv rfl) rfl rfl ?_
        refine TL.p (C := cx) (gc := true) (p_mv rfl) rfl rfl ?_
        obtain ⟨u63, hu63, hX⟩ := bind_some hX
        refine TL.p (C := cx) (gc := true) (p_sliL (xs := b4) (l := i18) (k := to62) kd24 ty5 rfl rfl rfl rfl (fun e => need_t hu63)) rfl rfl ?_
        refine TL.p (C := cx) (gc := true) (p_bld (l := Enc.cl ((Unit_api.mk (3 : Int) (0 : Int) (0 : Int) (slc b4 i18 to62)) : Unit_api)) ty42 rfl all42 rfl (fun _ => ⟨⟨rfl, trivial, rfl⟩, ⟨rfl, trivial, rfl⟩, trivial⟩)) rfl rfl ?_
        refine TL.lit (C := cx) ([(Unit_api.mk (3 : Int) (0 : Int) (0 : Int) (slc b4 i18 to62))] : List Unit_api) kd97 ty42 rfl ⟨⟨rfl, rfl⟩, trivial⟩ rfl rfl rfl ?_
        obtain ⟨u65, hu65, hX⟩ := bind_some hX
        refine TL.appO (C := cx) nd kd97 bo97 ty42 rfl rfl (j := 0) rfl rfl (Src_L _) (by decide) (need_t hu65) rfl fun nd => ?_
        refine TL.p (C := cx) (gc := true) (p_mv rfl) rfl rfl ?_
        refine TL.nil ?_
        refine hK58 _ _ ?_
        refine TK.reg ?_
        refine TL.p (C := cx) (gc := true) (p_mv rfl) rfl rfl ?_
        refine TL.p (C := cx) (gc := true) (p_add rfl rfl) rfl rfl ?_
        refine TL.p (C := cx) (gc := true) (p_mv rfl) rfl rfl ?_
        refine TL.nil ?_
        exact ⟨_, (some_in hX).symm, b61, rfl, (Nd.pick nd (is := [0]) (by decide)), (HSub.pick nd (is := [0]) (by decide))⟩
      refine TK.seq_k fun K66 hK66 => ?_
      refine TK.reg ?_
      refine TL.p (C := cx) (gc := true) (p_mv rfl) rfl rfl ?_
      refine TL.p (C := cx) (gc := true) (p_mv rfl) rfl rfl ?_
      refine TL.p (C := cx) (gc := true) (p_lenL (xs := b4) kd24 rfl) rfl rfl ?_
      refine TL.p (C := cx) (gc := true) (p_gtr rfl rfl) rfl rfl ?_
      refine TL.nil ?_
      refine hK66 _ _ ?_
      refine TK.cond (b := (decide ((wr (i18 + (64 : Int))) > (b4.length : Int)))) rfl (fun hc => ?_) (fun hc => ?_)
      · have hX := ite_t hc hX
        refine TK.reg ?_
        refine TL.p (C := cx) (gc := true) (p_mv rfl) rfl rfl ?_
        refine TL.p (C := cx) (gc := true) (p_lenL (xs := b4) kd24 rfl) rfl rfl ?_
        refine TL.p (C := cx) (gc := true) (p_mv rfl) rfl rfl ?_
        refine TL.nil ?_
        exact J60 (b4.length : Int) _ _ ⟨b16, rfl, (Nd.pick nd (is := [0]) (by decide)), (HSub.pick nd (is := [0]) (by decide))⟩ hX
      · have hX := ite_f hc hX
        refine TK.skip ?_
        exact J60 (wr (i18 + (64 : Int))) _ _ ⟨b16, rfl, (Nd.pick nd (is := [0]) (by decide)), (HSub.pick nd (is := [0]) (by decide))⟩ hX
    · have hX := ite_f hc hX
      refine TK.exit ?_
      obtain rfl := hR15 _ (some_in hX).symm
      exact E15 l17 _ _ ⟨b16, rfl, (Nd.pick nd (is := [0]) (by decide)), (HSub.pick nd (is := [0]) (by decide))⟩ hA15

/-- cartridge/cartridgelaw11.VolumeKeeps -/
theorem ok_cartridgelaw11_VolumeKeeps (sizes1 : (List Int)) (last2 : Int) (stop3 : Int) (bytes4 : Int) (r : Bool) (hX : X.cartridgelaw11_VolumeKeeps sizes1 last2 stop3 bytes4 = some r) : Fun Tryd.prog 4 [Enc.v (sizes1 : (List Int)), Enc.v (last2 : Int), Enc.v (stop3 : Int), Enc.v (bytes4 : Int)] (· = Enc.v (r : Bool)) := by
  refine Fun.of b4 (Nat.le_of_ble_eq_true rfl) (allVal.mem ⟨(by exact (v_val _)), (by exact (v_val _)), (by exact (v_val _)), (by exact (v_val _)), trivial⟩) ?_
  unfold k4
  have nd : Nd [] := Nd_nil
  unfold X.cartridgelaw11_VolumeKeeps at hX
  refine TK.seq_k fun K5 hK5 => ?_
  refine TK.reg ?_
  refine TL.p (C := cx) (gc := true) (p_mv rfl) rfl rfl ?_
  refine TL.nil ?_
  refine hK5 _ _ ?_
  refine TK.seq_k fun K6 hK6 => ?_
  refine TK.reg ?_
  obtain ⟨r7, hr7, hX⟩ := bind_some hX
  refine TL.cvX rfl rfl rfl (fun _ => ⟨rfl, trivial⟩) (fun e => ok_cartridgelaw11_alive  _ hr7) ?_
  refine TL.p (C := cx) (gc := true) (p_mv rfl) rfl rfl ?_
  refine TL.nil ?_
  refine hK6 _ _ ?_
  refine TK.seq_k fun K8 hK8 => ?_
  refine TK.seq_k fun K9 hK9 => ?_
  refine TK.reg ?_
  refine TL.p (C := cx) (gc := true) (p_mv rfl) rfl rfl ?_
  refine TL.p (C := cx) (gc := true) (p_not rfl) rfl rfl ?_
  refine TL.p (C := cx) (gc := true) (p_mv rfl) rfl rfl ?_
  refine TL.p (C := cx) (gc := (!((!r7)))) (p_mv rfl (hg := fun e => rfl)) (gcF1 rfl) rfl ?_
  refine TL.p (C := cx) (gc := (!((!r7)))) (p_lenL (xs := sizes1) kd36 rfl (hg := fun e => e)) (gcF1 rfl) rfl ?_
  refine TL.p (C := cx) (gc := (!((!r7)))) (p_gtr rfl rfl (hg := fun e => ⟨e, rfl⟩)) (gcF1 rfl) rfl ?_
  refine TL.p (C := cx) (gc := true) (p_or rfl rfl (fun e => ⟨rfl, fun h => (not_t h)⟩)) rfl rfl ?_
  refine TL.p (C := cx) (gc := true) (p_mv rfl) rfl rfl ?_
  refine TL.p (C := cx) (gc := (!(((!r7) || (decide ((sizes1.length : Int) > (8 : Int))))))) (p_mv rfl (hg := fun e => rfl)) (gcF1 rfl) rfl ?_
  refine TL.p (C := cx) (gc := (!(((!r7) || (decide ((sizes1.length : Int) > (8 : Int))))))) (p_lss rfl rfl (hg := fun e => ⟨e, rfl⟩)) (gcF1 rfl) rfl ?_
  refine TL.p (C := cx) (gc := true) (p_or rfl rfl (fun e => ⟨rfl, fun h => (not_t h)⟩)) rfl rfl ?_
  refine TL.p (C := cx) (gc := true) (p_mv rfl) rfl rfl ?_
  refine TL.p (C := cx) (gc := (!((((!r7) || (decide ((sizes1.length : Int) > (8 : Int)))) || (decide (last2 < (0 : Int))))))) (p_mv rfl (hg := fun e => rfl)) (gcF1 rfl) rfl ?_
  refine TL.p (C := cx) (gc := (!((((!r7) || (decide ((sizes1.length : Int) > (8 : Int)))) || (decide (last2 < (0 : Int))))))) (p_gtr rfl rfl (hg := fun e => ⟨e, rfl⟩)) (gcF1 rfl) rfl ?_
  refine TL.p (C := cx) (gc := true) (p_or rfl rfl (fun e => ⟨rfl, fun h => (not_t h)⟩)) rfl rfl ?_
  refine TL.p (C := cx) (gc := true) (p_mv rfl) rfl rfl ?_
  refine TL.p (C := cx) (gc := (!(((((!r7) || (decide ((sizes1.length : Int) > (8 : Int)))) || (decide (last2 < (0 : Int)))) || (decide (last2 > (400 : Int))))))) (p_mv rfl (hg := fun e => rfl)) (gcF1 rfl) rfl ?_
  refine TL.p (C := cx) (gc := (!(((((!r7) || (decide ((sizes1.length : Int) > (8 : Int)))) || (decide (last2 < (0 : Int)))) || (decide (last2 > (400 : Int))))))) (p_lss rfl rfl (hg := fun e => ⟨e, rfl⟩)) (gcF1 rfl) rfl ?_
  refine TL.p (C := cx) (gc := true) (p_or rfl rfl (fun e => ⟨rfl, fun h => (not_t h)⟩)) rfl rfl ?_
  refine TL.p (C := cx) (gc := true) (p_mv rfl) rfl rfl ?_
  refine TL.p (C := cx) (gc := (!((((((!r7) || (decide ((sizes1.length : Int) > (8 : Int)))) || (decide (last2 < (0 : Int)))) || (decide (last2 > (400 : Int)))) || (decide (stop3 < (0 : Int))))))) (p_mv rfl (hg := fun e => rfl)) (gcF1 rfl) rfl ?_
  refine TL.p (C := cx) (gc := (!((((((!r7) || (decide ((sizes1.length : Int) > (8 : Int)))) || (decide (last2 < (0 : Int)))) || (decide (last2 > (400 : Int)))) || (decide (stop3 < (0 : Int))))))) (p_lss rfl rfl (hg := fun e => ⟨e, rfl⟩)) (gcF1 rfl) rfl ?_
  refine TL.p (C := cx) (gc := true) (p_or rfl rfl (fun e => ⟨rfl, fun h => (not_t h)⟩)) rfl rfl ?_
  refine TL.nil ?_
  refine hK9 _ _ ?_
  refine TK.cond (b := ((((((!r7) || (decide ((sizes1.length : Int) > (8 : Int)))) || (decide (last2 < (0 : Int)))) || (decide (last2 > (400 : Int)))) || (decide (stop3 < (0 : Int)))) || (decide (bytes4 < (0 : Int))))) rfl (fun hc => ?_) (fun hc => ?_)
  · have hX := ite_t hc hX
    refine TK.seq_k fun K10 hK10 => ?_
    refine TK.reg ?_
    refine TL.p (C := cx) (gc := true) (p_mv rfl) rfl rfl ?_
    refine TL.p (C := cx) (gc := true) (p_mv rfl) rfl rfl ?_
    refine TL.nil ?_
    refine hK10 _ _ ?_
    refine TK.ret ?_
    try dsimp only [thenQ]
    exact ret1 (v := Enc.v (r7 : Bool)) rfl (by obtain rfl := some_in hX; rfl) (v_val _)
  · have hX := ite_f hc hX
    refine TK.skip ?_
    refine hK8 _ _ ?_
    refine TK.seq_k fun K11 hK11 => ?_
    refine TK.reg ?_
    refine TL.p (C := cx) (gc := true) (p_bld (l := [Enc.v ((7 : Int) : Int), Enc.v ((64 : Int) : Int), .nils, Enc.v (false : Bool)]) ty38 rfl all38 rfl (fun _ => ⟨⟨rfl, trivial, rfl⟩, ⟨rfl, trivial, rfl⟩, trivial⟩)) rfl rfl ?_
    refine TL.alO (C := cx) (l := [Enc.v ((0 : Int) : Int), Enc.v ((0 : Int) : Int), .nils, Enc.v (false : Bool)]) nd ty38 ti38_z rfl rfl fun b12 nd => ?_
    refine TL.stV (C := cx) (lu := [Enc.v ((7 : Int) : Int), Enc.v ((64 : Int) : Int), .nils, Enc.v (false : Bool)]) nd ty38 rfl (j := 0) rfl rfl rfl (Cells_agg rfl (allA.mem ⟨trivial, trivial, trivial, trivial, trivial⟩)) rfl rfl [Enc.v ((7 : Int) : Int), Enc.v ((64 : Int) : Int), .nils, Enc.v (false : Bool)] rfl fun nd => ?_
    refine TL.nil ?_
    refine hK11 _ _ ?_
    refine TK.ownC (α := (List UInt8)) nd (j := 0) rfl 2 24 (.inl rfl) fun b13 nd => ?_
    refine TK.seq_k fun K14 hK14 => ?_
    refine TK.reg ?_
    refine TL.litO (C := cx) nd ([(68 : UInt8)] : List UInt8) kd24 ty5 rfl ⟨⟨rfl, rfl⟩, trivial⟩ rfl rfl rfl fun b15 nd => ?_
    refine TL.cvtF (C := cx) (xs := ([(68 : UInt8)] : List UInt8)) nd kd24 kd5 rfl (j := 0) rfl (by simp) rfl fun nd => ?_
    refine TL.p (C := cx) (gc := true) (p_bld (l := Enc.cl ((Unit_api.mk (1 : Int) (7 : Int) (0 : Int) ([(68 : UInt8)] : List UInt8)) : Unit_api)) ty42 rfl all42 rfl (fun _ => ⟨⟨rfl, trivial, rfl⟩, ⟨rfl, trivial, rfl⟩, ⟨rfl, trivial, rfl⟩, trivial⟩)) rfl rfl ?_
    obtain ⟨r16, hr16, hX⟩ := bind_some hX
    refine TL.cvX rfl rfl rfl (fun _ => ⟨rfl, ⟨rfl, trivial⟩⟩) (fun e => ok_cartridgeref1_PutFrame (Unit_api.mk (1 : Int) (7 : Int) (0 : Int) ([(68 : UInt8)] : List UInt8)) _ hr16) ?_
    refine TL.p (C := cx) (gc := true) (p_mv rfl) rfl rfl ?_
    refine TL.p (C := cx) (gc := true) (p_ex rfl rfl (by decide)) rfl rfl ?_
    refine TL.p (C := cx) (gc := true) (p_ex rfl rfl (by decide)) rfl rfl ?_
    refine TL.p (C := cx) (gc := true) (p_mv rfl) rfl rfl ?_
    refine TL.p (C := cx) (gc := true) (p_mv rfl) rfl rfl ?_
    refine TL.nil ?_
    refine hK14 _ _ ?_
    refine TK.seq_k fun K17 hK17 => ?_
    refine TK.reg ?_
    refine TL.p (C := cx) (gc := true) (p_faV fs38_2 (by decide) rfl nd (j := 1) rfl rfl) rfl rfl ?_
    refine TL.p (C := cx) (gc := true) (p_ldV (v := OL (α := (List UInt8)) b13 ([] : List (List UInt8))) ty26 rfl rfl nd (j := 1) rfl rfl rfl rfl rfl) rfl rfl ?_
    refine TL.p (C := cx) (gc := true) (p_mv rfl) rfl rfl ?_
    refine TL.lit (C := cx) ([r16.1] : List (List UInt8)) kd26 ty24 rfl ⟨⟨rfl, rfl⟩, trivial⟩ rfl rfl rfl ?_
    obtain ⟨u18, hu18, hX⟩ := bind_some hX
    refine TL.appO (C := cx) nd kd26 bo26 ty24 rfl rfl (j := 0) rfl rfl (Src_L _) (by decide) (need_t hu18) rfl fun nd => ?_
    refine TL.p (C := cx) (gc := true) (p_faV fs38_2 (by decide) rfl nd (j := 1) rfl rfl) rfl rfl ?_
    refine TL.stV (C := cx) (lu := [OL (α := (List UInt8)) b13 (([] : List (List UInt8)) ++ ([r16.1] : List (List UInt8)))]) nd ty26 rfl (j := 1) rfl rfl rfl (Cells_rs (refOK_of nd (j := 0) rfl rfl)) rfl rfl [Enc.v ((7 : Int) : Int), Enc.v ((64 : Int) : Int), OL (α := (List UInt8)) b13 (([] : List (List UInt8)) ++ ([r16.1] : List (List UInt8))), Enc.v (false : Bool)] rfl fun nd => ?_
    refine TL.nil ?_
    refine hK17 _ _ ?_
    refine TK.seq_k fun K19 hK19 => ?_
    refine TK.seq_k fun K20 hK20 => ?_
    refine TK.reg ?_
    refine TL.p (C := cx) (gc := true) (p_mv rfl) rfl rfl ?_
    refine TL.nil ?_
    refine hK20 _ _ ?_
    refine TK.block ?_
    obtain ⟨o21, hO21, hA21⟩ := bind_some hX
    have E21 : ∀ (c30 : Int) (c31 : Int) (l33 : List (List UInt8)) (c34 : Bool) (env : Env) (h : Hp), (∃ b32 b29, keepE [0, 1, 2, 3, 10] env = [(0, true, Enc.v (sizes1 : (List Int))), (1, true, Enc.v (last2 : Int)), (2, true, Enc.v (stop3 : Int)), (3, true, Enc.v (bytes4 : Int)), (10, true, .ref b29 0 4)] ∧ Nd [(b32, RL (α := (List UInt8)) 24 l33), (b29, RV 38 [Enc.v (c30 : Int), Enc.v (c31 : Int), OL (α := (List UInt8)) b32 l33, Enc.v (c34 : Bool)])] ∧ HSub [(b32, RL (α := (List UInt8)) 24 l33), (b29, RV 38 [Enc.v (c30 : Int), Enc.v (c31 : Int), OL (α := (List UInt8)) b32 l33, Enc.v (c34 : Bool)])] h) → X.cartridgelaw11_VolumeKeeps_e21 last2 stop3 bytes4 sizes1 c30 c31 l33 c34 = some r → K19 env h := by
      intro c30 c31 l33 c34 env h hE hX
      obtain ⟨b32, b29, henv, nd, hs⟩ := hE
      unfold X.cartridgelaw11_VolumeKeeps_e21 at hX
      refine hK19 _ _ (TK.keep [0, 1, 2, 3, 10] ?_)
      rw [henv]
      refine TK.subH hs ?_
      refine TK.seq_k fun K35 hK35 => ?_
      refine TK.reg ?_
      refine TL.p (C := cx) (gc := true) (p_faV fs38_2 (by decide) rfl nd (j := 1) rfl rfl) rfl rfl ?_
      refine TL.p (C := cx) (gc := true) (p_ldV (v := OL (α := (List UInt8)) b32 l33) ty26 rfl rfl nd (j := 1) rfl rfl rfl rfl rfl) rfl rfl ?_
      refine TL.p (C := cx) (gc := true) (p_lenR kd26 rfl (fun _ => refOK_of nd (j := 0) rfl rfl)) rfl rfl ?_
      refine TL.p (C := cx) (gc := true) (p_mv rfl) rfl rfl ?_
      refine TL.nil ?_
      refine hK35 _ _ ?_
      refine TK.seq_k fun K36 hK36 => ?_
      refine TK.reg ?_
      refine TL.p (C := cx) (gc := true) (p_mv rfl) rfl rfl ?_
      refine TL.p (C := cx) (gc := true) (p_mv rfl) rfl rfl ?_
      refine TL.p (C := cx) (gc := true) (p_mv rfl) rfl rfl ?_
      refine TL.p (C := cx) (gc := true) (p_bld (l := Enc.cl ((Head_api.mk (Str.mk [98]) (1 : Int) last2 (0 : Int) last2 (1 : Int) (0 : Int) false) : Head_api)) ty23 rfl all23 rfl (fun _ => ⟨⟨rfl, trivial, rfl⟩, ⟨rfl, trivial, rfl⟩, ⟨rfl, trivial, rfl⟩, ⟨rfl, trivial, rfl⟩, ⟨rfl, trivial, rfl⟩, trivial⟩)) rfl rfl ?_
      refine TL.p (C := cx) (gc := true) (p_mv rfl) rfl rfl ?_
      obtain ⟨u37, hu37, hX⟩ := bind_some hX
      refine TL.mkV (C := cx) nd (0 : UInt8) kd24 ty5 rfl (fun j hj => by (have : j = 0 := by simpa [Enc.sz] using hj); subst this; rfl) rfl rfl (by decide) (need_t hu37) rfl ?_
      obtain ⟨r38, hr38, hX⟩ := bind_some hX
      refine TL.cvX rfl rfl rfl (fun _ => ⟨rfl, ⟨rfl, ⟨rfl, ⟨rfl, ⟨rfl, trivial⟩⟩⟩⟩⟩) (fun e => ok_cartridgeref10_Blocks (7 : Int) (l33.length : Int) (Head_api.mk (Str.mk [98]) (1 : Int) last2 (0 : Int) last2 (1 : Int) (0 : Int) false) (List.replicate last2.toNat (0 : UInt8)) _ hr38) ?_
      refine TL.p (C := cx) (gc := true) (p_mv rfl) rfl rfl ?_
      refine TL.p (C := cx) (gc := true) (p_ex rfl rfl (by decide)) rfl rfl ?_
      refine TL.p (C := cx) (gc := true) (p_ex rfl rfl (by decide)) rfl rfl ?_
      refine TL.p (C := cx) (gc := true) (p_mv rfl) rfl rfl ?_
      refine TL.p (C := cx) (gc := true) (p_mv rfl) rfl rfl ?_
      refine TL.nil ?_
      refine hK36 _ _ ?_
      refine TK.seq_k fun K39 hK39 => ?_
      refine TK.reg ?_
      refine TL.p (C := cx) (gc := true) (p_mv rfl) rfl rfl ?_
      refine TL.p (C := cx) (gc := true) (p_mv rfl) rfl rfl ?_
      refine TL.p (C := cx) (gc := true) (p_lenL (xs := r38.1) kd26 rfl) rfl rfl ?_
      obtain ⟨u40, hu40, hX⟩ := bind_some hX
      refine TL.p (C := cx) (gc := true) (p_rem rfl rfl (fun _ => need_t hu40)) rfl rfl ?_
      refine TL.p (C := cx) (gc := true) (p_mv rfl) rfl rfl ?_
      refine TL.nil ?_
      refine hK39 _ _ ?_
      refine TK.seq_k fun K41 hK41 => ?_
      have ndS : Nd [] := Nd.pick nd (is := []) (by decide)
      refine TK.drwX (h := [(b32, RL (α := (List UInt8)) 24 l33), (b29, RV 38 [Enc.v (c30 : Int), Enc.v (c31 : Int), OL (α := (List UInt8)) b32 l33, Enc.v (c34 : Bool)])]) (hS := []) [(1, 0), (1, 1), (0, 2), (0, 3), (0, 4), (2, 5), (1, 6), (2, 7)] mixed (by kernel_rfl) (HSub_app nd) ?_
      refine DR1 (gc := true) rfl (vok_p (C := cx) (p_faV fs38_2 (by decide) rfl nd (j := 1) rfl rfl)) rfl rfl ?_
      refine DR1 (gc := true) rfl (vok_p (C := cx) (p_ldV (v := OL (α := (List UInt8)) b32 l33) ty26 rfl rfl nd (j := 1) rfl rfl rfl rfl rfl)) rfl rfl ?_
      refine DR0 (gc := true) rfl (vok_p (C := cx) (p_mv rfl)) rfl rfl ?_
      refine DR0 (gc := true) rfl (vok_p (C := cx) (p_mv rfl)) rfl rfl ?_
      obtain ⟨u42, hu42, hX⟩ := bind_some hX
      refine DR0 (gc := true) rfl (vok_p (C := cx) (p_sliL (xs := r38.1) (l := (0 : Int)) (k := (stop3.tmod (r38.1.length : Int))) kd26 ty24 rfl rfl rfl rfl (fun e => need_t hu42))) rfl rfl ?_
      obtain ⟨u43, hu43, hX⟩ := bind_some hX
      refine DR2 rfl rfl ?_
      refine TL.appO (C := cx) nd kd26 bo26 ty24 rfl rfl (j := 0) rfl rfl (Src_L _) (by decide) (need_t hu43) rfl fun nd => ?_
      refine TL.nil ⟨_, [(b32, RL (α := (List UInt8)) 24 (l33 ++ (slc r38.1 (0 : Int) (stop3.tmod (r38.1.length : Int))))), (b29, RV 38 [Enc.v (c30 : Int), Enc.v (c31 : Int), OL (α := (List UInt8)) b32 l33, Enc.v (c34 : Bool)])], rfl, rfl, HSub_app nd, ?_⟩
      refine DR1 (gc := true) rfl (vok_p (C := cx) (p_faV fs38_2 (by decide) rfl nd (j := 1) rfl rfl)) rfl rfl ?_
      refine DR2n rfl ?_
      refine TL.stV (C := cx) (lu := [OL (α := (List UInt8)) b32 (l33 ++ (slc r38.1 (0 : Int) (stop3.tmod (r38.1.length : Int))))]) nd ty26 rfl (j := 1) rfl rfl rfl (Cells_rs (refOK_of nd (j := 0) rfl rfl)) rfl rfl [Enc.v (c30 : Int), Enc.v (c31 : Int), OL (α := (List UInt8)) b32 (l33 ++ (slc r38.1 (0 : Int) (stop3.tmod (r38.1.length : Int)))), Enc.v (c34 : Bool)] rfl fun nd => ?_
      refine TL.nil ⟨.nilp, [(b32, RL (α := (List UInt8)) 24 (l33 ++ (slc r38.1 (0 : Int) (stop3.tmod (r38.1.length : Int))))), (b29, RV 38 [Enc.v (c30 : Int), Enc.v (c31 : Int), OL (α := (List UInt8)) b32 (l33 ++ (slc r38.1 (0 : Int) (stop3.tmod (r38.1.length : Int)))), Enc.v (c34 : Bool)])], rfl, rfl, HSub_app nd, ?_⟩
      refine DRend ?_
      refine hK41 _ _ ?_
      refine TK.seq_k fun K44 hK44 => ?_
      have J44 : ∀ (l47 : List (List UInt8)) (env : Env) (h : Hp), (∃ b46 b45, keepE [0, 10, 17] env = [(0, true, Enc.v (sizes1 : (List Int))), (10, true, .ref b45 0 4), (17, true, Enc.v ((l33.length : Int) : Int))] ∧ Nd [(b46, RL (α := (List UInt8)) 24 l47), (b45, RV 38 [Enc.v (c30 : Int), Enc.v (c31 : Int), OL (α := (List UInt8)) b46 l47, Enc.v (c34 : Bool)])] ∧ HSub [(b46, RL (α := (List UInt8)) 24 l47), (b45, RV 38 [Enc.v (c30 : Int), Enc.v (c31 : Int), OL (α := (List UInt8)) b46 l47, Enc.v (c34 : Bool)])] h) → X.cartridgelaw11_VolumeKeeps_j44 c30 c31 c34 l33 sizes1 l47 = some r → K44 env h := by
        intro l47 env h hE hX
        obtain ⟨b46, b45, henv, nd, hs⟩ := hE
        unfold X.cartridgelaw11_VolumeKeeps_j44 at hX
        refine hK44 _ _ (TK.keep [0, 10, 17] ?_)
        rw [henv]
        refine TK.subH hs ?_
        refine TK.seq_k fun K48 hK48 => ?_
        refine TK.reg ?_
        refine TL.layR (l2' := [Enc.v (c30 : Int), Enc.v (c31 : Int), Enc.v (l47 : (List (List UInt8))), Enc.v (c34 : Bool)]) [] nd (j := 0) rfl 1 rfl rfl ⟨fix_id _, fix_id _, fix_OL nd (j := 0) rfl, fix_id _, trivial⟩ trivial fun nd => ?_
        refine TL.p (C := cx) (gc := true) (p_ldVa (l' := Enc.cl ((Tape_api.mk c30 c31 l47 c34) : Tape_api)) ty38 rfl rfl nd (j := 0) rfl rfl rfl rfl (Nat.le_of_ble_eq_true rfl)) rfl rfl ?_
        obtain ⟨r49, hr49, hX⟩ := bind_some hX
        refine TL.cvX rfl rfl rfl (fun _ => ⟨rfl, ⟨rfl, trivial⟩⟩) (fun e => ok_volume_Keep (Tape_api.mk c30 c31 l47 c34) _ hr49) ?_
        refine TL.p (C := cx) (gc := true) (p_mv rfl) rfl rfl ?_
        refine TL.p (C := cx) (gc := true) (p_eql rfl rfl) rfl rfl ?_
        refine TL.p (C := cx) (gc := true) (p_mv rfl) rfl rfl ?_
        refine TL.p (C := cx) (gc := ((r49 == (l33.length : Int)))) (p_ldVa (l' := Enc.cl ((Tape_api.mk c30 c31 l47 c34) : Tape_api)) ty38 rfl rfl nd (j := 0) rfl rfl rfl rfl (Nat.le_of_ble_eq_true rfl) (hg := fun e => rfl)) (gcT1 rfl) rfl ?_
        obtain ⟨r50, hr50, hX⟩ := bind_some hX
        refine TL.cvX (gcT1 rfl) rfl rfl (fun e => ⟨rfl, ⟨e, trivial⟩⟩) (fun e => ok_volume_Parts (Tape_api.mk c30 c31 l47 c34) _ (optG_t hr50 e)) ?_
        refine TL.p (C := cx) (gc := ((r49 == (l33.length : Int)))) (p_lenL (xs := r50) kd44 rfl (hg := fun e => e)) (gcT1 rfl) rfl ?_
        refine TL.p (C := cx) (gc := ((r49 == (l33.length : Int)))) (p_mv rfl (hg := fun e => rfl)) (gcT1 rfl) rfl ?_
        refine TL.p (C := cx) (gc := ((r49 == (l33.length : Int)))) (p_lenL (xs := sizes1) kd36 rfl (hg := fun e => e)) (gcT1 rfl) rfl ?_
        refine TL.p (C := cx) (gc := ((r49 == (l33.length : Int)))) (p_eql rfl rfl (hg := fun e => ⟨e, e⟩)) (gcT1 rfl) rfl ?_
        refine TL.p (C := cx) (gc := true) (p_and rfl rfl (fun e => ⟨rfl, fun h => h⟩)) rfl rfl ?_
        refine TL.p (C := cx) (gc := true) (p_mv rfl) rfl rfl ?_
        refine TL.nil ?_
        refine hK48 _ _ ?_
        refine TK.ret ?_
        try dsimp only [thenQ]
        exact ret1 (v := Enc.v (((r49 == (l33.length : Int)) && ((r50.length : Int) == (sizes1.length : Int))) : Bool)) rfl (by obtain rfl := some_in hX; rfl) (v_val _)
      refine TK.seq_k fun K51 hK51 => ?_
      refine TK.reg ?_
      refine TL.p (C := cx) (gc := true) (p_mv rfl) rfl rfl ?_
      refine TL.p (C := cx) (gc := true) (p_mv rfl) rfl rfl ?_
      refine TL.p (C := cx) (gc := true) (p_mv rfl) rfl rfl ?_
      obtain ⟨e52, he52, hX⟩ := bind_some hX
      refine TL.p (C := cx) (gc := true) (p_iaL (xs := r38.1) kd26 ty24 rfl rfl rfl (fun _ => he52)) rfl rfl ?_
      refine TL.p (C := cx) (gc := true) (p_ldE (xs := r38.1) (a := e52) (e52 : (List UInt8)) ty24 rfl rfl (fun _ => he52) rfl rfl rfl) rfl rfl ?_
      refine TL.p (C := cx) (gc := true) (p_lenL (xs := e52) kd24 rfl) rfl rfl ?_
      obtain ⟨u53, hu53, hX⟩ := bind_some hX
      refine TL.p (C := cx) (gc := true) (p_rem rfl rfl (fun _ => need_t hu53)) rfl rfl ?_
      refine TL.p (C := cx) (gc := true) (p_mv rfl) rfl rfl ?_
      refine TL.nil ?_
      refine hK51 _ _ ?_
      refine TK.seq_k fun K54 hK54 => ?_
      refine TK.reg ?_
      refine TL.p (C := cx) (gc := true) (p_mv rfl) rfl rfl ?_
      refine TL.p (C := cx) (gc := true) (p_gtr rfl rfl) rfl rfl ?_
      refine TL.p (C := cx) (gc := true) (p_mv rfl) rfl rfl ?_
      refine TL.p (C := cx) (gc := ((decide ((bytes4.tmod (e52.length : Int)) > (0 : Int))))) (p_mv rfl (hg := fun e => rfl)) (gcT1 rfl) rfl ?_
      refine TL.p (C := cx) (gc := ((decide ((bytes4.tmod (e52.length : Int)) > (0 : Int))))) (p_mv rfl (hg := fun e => rfl)) (gcT1 rfl) rfl ?_
      refine TL.p (C := cx) (gc := ((decide ((bytes4.tmod (e52.length : Int)) > (0 : Int))))) (p_lenL (xs := r38.1) kd26 rfl (hg := fun e => e)) (gcT1 rfl) rfl ?_
      refine TL.p (C := cx) (gc := ((decide ((bytes4.tmod (e52.length : Int)) > (0 : Int))))) (p_sub rfl rfl (hg := fun e => ⟨e, rfl⟩)) (gcT1 rfl) rfl ?_
      refine TL.p (C := cx) (gc := ((decide ((bytes4.tmod (e52.length : Int)) > (0 : Int))))) (p_lss rfl rfl (hg := fun e => ⟨e, e⟩)) (gcT1 rfl) rfl ?_
      refine TL.p (C := cx) (gc := true) (p_and rfl rfl (fun e => ⟨rfl, fun h => h⟩)) rfl rfl ?_
      refine TL.nil ?_
      refine hK54 _ _ ?_
      refine TK.cond (b := ((decide ((bytes4.tmod (e52.length : Int)) > (0 : Int))) && (decide ((stop3.tmod (r38.1.length : Int)) < (wr ((r38.1.length : Int) - (1 : Int))))))) rfl (fun hc => ?_) (fun hc => ?_)
      · have hX := ite_t hc hX
        have ndS : Nd [] := Nd.pick nd (is := []) (by decide)
        refine TK.drwX (h := [(b32, RL (α := (List UInt8)) 24 (l33 ++ (slc r38.1 (0 : Int) (stop3.tmod (r38.1.length : Int))))), (b29, RV 38 [Enc.v (c30 : Int), Enc.v (c31 : Int), OL (α := (List UInt8)) b32 (l33 ++ (slc r38.1 (0 : Int) (stop3.tmod (r38.1.length : Int)))), Enc.v (c34 : Bool)])]) (hS := []) [(1, 0), (1, 1), (0, 2), (0, 3), (0, 4), (0, 5), (0, 6), (0, 7), (0, 8), (2, 9), (1, 10), (2, 11)] mixed (by kernel_rfl) (HSub_app nd) ?_
        refine DR1 (gc := true) rfl (vok_p (C := cx) (p_faV fs38_2 (by decide) rfl nd (j := 1) rfl rfl)) rfl rfl ?_
        refine DR1 (gc := true) rfl (vok_p (C := cx) (p_ldV (v := OL (α := (List UInt8)) b32 (l33 ++ (slc r38.1 (0 : Int) (stop3.tmod (r38.1.length : Int))))) ty26 rfl rfl nd (j := 1) rfl rfl rfl rfl rfl)) rfl rfl ?_
        refine DR0 (gc := true) rfl (vok_p (C := cx) (p_mv rfl)) rfl rfl ?_
        refine DR0 (gc := true) rfl (vok_p (C := cx) (p_mv rfl)) rfl rfl ?_
        obtain ⟨e55, he55, hX⟩ := bind_some hX
        refine DR0 (gc := true) rfl (vok_p (C := cx) (p_iaL (xs := r38.1) kd26 ty24 rfl rfl rfl (fun _ => he55))) rfl rfl ?_
        refine DR0 (gc := true) rfl (vok_p (C := cx) (p_ldE (xs := r38.1) (a := e55) (e55 : (List UInt8)) ty24 rfl rfl (fun _ => he55) rfl rfl rfl)) rfl rfl ?_
        refine DR0 (gc := true) rfl (vok_p (C := cx) (p_mv rfl)) rfl rfl ?_
        obtain ⟨u56, hu56, hX⟩ := bind_some hX
        refine DR0 (gc := true) rfl (vok_p (C := cx) (p_sliL (xs := e55) (l := (0 : Int)) (k := (bytes4.tmod (e52.length : Int))) kd24 ty5 rfl rfl rfl rfl (fun e => need_t hu56))) rfl rfl ?_
        refine DR0 (gc := true) rfl (vok_lit (C := cx) ([(slc e55 (0 : Int) (bytes4.tmod (e52.length : Int)))] : List (List UInt8)) kd26 ty24 rfl ⟨⟨rfl, rfl⟩, trivial⟩ rfl rfl) rfl rfl ?_
        obtain ⟨u57, hu57, hX⟩ := bind_some hX
        refine DR2 rfl rfl ?_
        refine TL.appO (C := cx) nd kd26 bo26 ty24 rfl rfl (j := 0) rfl rfl (Src_L _) (by decide) (need_t hu57) rfl fun nd => ?_
        refine TL.nil ⟨_, [(b32, RL (α := (List UInt8)) 24 ((l33 ++ (slc r38.1 (0 : Int) (stop3.tmod (r38.1.length : Int)))) ++ ([(slc e55 (0 : Int) (bytes4.tmod (e52.length : Int)))] : List (List UInt8)))), (b29, RV 38 [Enc.v (c30 : Int), Enc.v (c31 : Int), OL (α := (List UInt8)) b32 (l33 ++ (slc r38.1 (0 : Int) (stop3.tmod (r38.1.length : Int)))), Enc.v (c34 : Bool)])], rfl, rfl, HSub_app nd, ?_⟩
        refine DR1 (gc := true) rfl (vok_p (C := cx) (p_faV fs38_2 (by decide) rfl nd (j := 1) rfl rfl)) rfl rfl ?_
        refine DR2n rfl ?_
        refine TL.stV (C := cx) (lu := [OL (α := (List UInt8)) b32 ((l33 ++ (slc r38.1 (0 : Int) (stop3.tmod (r38.1.length : Int)))) ++ ([(slc e55 (0 : Int) (bytes4.tmod (e52.length : Int)))] : List (List UInt8)))]) nd ty26 rfl (j := 1) rfl rfl rfl (Cells_rs (refOK_of nd (j := 0) rfl rfl)) rfl rfl [Enc.v (c30 : Int), Enc.v (c31 : Int), OL (α := (List UInt8)) b32 ((l33 ++ (slc r38.1 (0 : Int) (stop3.tmod (r38.1.length : Int)))) ++ ([(slc e55 (0 : Int) (bytes4.tmod (e52.length : Int)))] : List (List UInt8))), Enc.v (c34 : Bool)] rfl fun nd => ?_
        refine TL.nil ⟨.nilp, [(b32, RL (α := (List UInt8)) 24 ((l33 ++ (slc r38.1 (0 : Int) (stop3.tmod (r38.1.length : Int)))) ++ ([(slc e55 (0 : Int) (bytes4.tmod (e52.length : Int)))] : List (List UInt8)))), (b29, RV 38 [Enc.v (c30 : Int), Enc.v (c31 : Int), OL (α := (List UInt8)) b32 ((l33 ++ (slc r38.1 (0 : Int) (stop3.tmod (r38.1.length : Int)))) ++ ([(slc e55 (0 : Int) (bytes4.tmod (e52.length : Int)))] : List (List UInt8))), Enc.v (c34 : Bool)])], rfl, rfl, HSub_app nd, ?_⟩
        refine DRend ?_
        exact J44 ((l33 ++ (slc r38.1 (0 : Int) (stop3.tmod (r38.1.length : Int)))) ++ ([(slc e55 (0 : Int) (bytes4.tmod (e52.length : Int)))] : List (List UInt8))) _ _ ⟨b32, b29, rfl, (Nd.pick nd (is := [0, 1]) (by decide)), (HSub.pick nd (is := [0, 1]) (by decide))⟩ hX
      · have hX := ite_f hc hX
        refine TK.skip ?_
        exact J44 (l33 ++ (slc r38.1 (0 : Int) (stop3.tmod (r38.1.length : Int)))) _ _ ⟨b32, b29, rfl, (Nd.pick nd (is := [0, 1]) (by decide)), (HSub.pick nd (is := [0, 1]) (by decide))⟩ hX
    refine TK.iter [0, 1, 2, 3, 10, 13] (fun s env h => match s with | (c23, c24, l26, c27, i28) => ∃ b25 b22, env = [(0, true, Enc.v (sizes1 : (List Int))), (1, true, Enc.v (last2 : Int)), (2, true, Enc.v (stop3 : Int)), (3, true, Enc.v (bytes4 : Int)), (10, true, .ref b22 0 4), (13, true, Enc.v (i28 : Int))] ∧ Nd [(b25, RL (α := (List UInt8)) 24 l26), (b22, RV 38 [Enc.v (c23 : Int), Enc.v (c24 : Int), OL (α := (List UInt8)) b25 l26, Enc.v (c27 : Bool)])] ∧ HSub [(b25, RL (α := (List UInt8)) 24 l26), (b22, RV 38 [Enc.v (c23 : Int), Enc.v (c24 : Int), OL (α := (List UInt8)) b25 l26, Enc.v (c27 : Bool)])] h) hO21 ⟨b13, b12, rfl, (Nd.pick nd (is := [0, 1]) (by decide)), (HSub.pick nd (is := [0, 1]) (by decide))⟩ ?_
    rintro ⟨c23, c24, l26, c27, i28⟩ env h x21x ⟨b25, b22, rfl, nd, hs⟩ hX hR21
    refine TK.subH hs ?_
    unfold X.cartridgelaw11_VolumeKeeps_s21 at hX
    try dsimp only at hX
    refine TK.seq_k fun K58 hK58 => ?_
    refine TK.seq_k fun K59 hK59 => ?_
    refine TK.reg ?_
    refine TL.p (C := cx) (gc := true) (p_mv rfl) rfl rfl ?_
    refine TL.p (C := cx) (gc := true) (p_mv rfl) rfl rfl ?_
    refine TL.p (C := cx) (gc := true) (p_lenL (xs := sizes1) kd36 rfl) rfl rfl ?_
    refine TL.p (C := cx) (gc := true) (p_lss rfl rfl) rfl rfl ?_
    refine TL.nil ?_
    refine hK59 _ _ ?_
    refine TK.cond (b := (decide (i28 < (sizes1.length : Int)))) rfl (fun hc => ?_) (fun hc => ?_)
    · have hX := ite_t hc hX
      refine TK.skip ?_
      refine hK58 _ _ ?_
      refine TK.seq_k fun K60 hK60 => ?_
      refine TK.block ?_
      refine TK.seq_k fun K61 hK61 => ?_
      refine TK.reg ?_
      refine TL.p (C := cx) (gc := true) (p_mv rfl) rfl rfl ?_
      refine TL.p (C := cx) (gc := true) (p_mv rfl) rfl rfl ?_
      obtain ⟨e62, he62, hX⟩ := bind_some hX
      refine TL.p (C := cx) (gc := true) (p_iaL (xs := sizes1) kd36 ty3 rfl rfl rfl (fun _ => he62)) rfl rfl ?_
      refine TL.p (C := cx) (gc := true) (p_ldE (xs := sizes1) (a := e62) (e62 : Int) ty3 rfl rfl (fun _ => he62) rfl rfl rfl) rfl rfl ?_
      refine TL.p (C := cx) (gc := true) (p_and64 rfl rfl) rfl rfl ?_
      refine TL.p (C := cx) (gc := true) (p_mv rfl) rfl rfl ?_
      refine TL.nil ?_
      refine hK61 _ _ ?_
      refine TK.seq_k fun K63 hK63 => ?_
      have ndS : Nd [(b25, RL (α := (List UInt8)) 24 l26), (b22, RV 38 [Enc.v (c23 : Int), Enc.v (c24 : Int), OL (α := (List UInt8)) b25 l26, Enc.v (c27 : Bool)])] := Nd.pick nd (is := [0, 1]) (by decide)
      refine TK.drwX (h := []) (hS := [(b25, RL (α := (List UInt8)) 24 l26), (b22, RV 38 [Enc.v (c23 : Int), Enc.v (c24 : Int), OL (α := (List UInt8)) b25 l26, Enc.v (c27 : Bool)])]) [(0, 0), (0, 1), (0, 2), (0, 3), (0, 4), (0, 5), (0, 6), (0, 7), (0, 8), (2, 9), (0, 10), (0, 11), (0, 12), (0, 13), (0, 14), (0, 15)] mixed (by kernel_rfl) (HSub_app nd) ?_
      refine DR0 (gc := true) rfl (vok_p (C := cx) (p_faV fs38_2 (by decide) rfl ndS (j := 1) rfl rfl)) rfl rfl ?_
      refine DR0 (gc := true) rfl (vok_p (C := cx) (p_ldV (v := OL (α := (List UInt8)) b25 l26) ty26 rfl rfl ndS (j := 1) rfl rfl rfl rfl rfl)) rfl rfl ?_
      refine DR0 (gc := true) rfl (vok_p (C := cx) (p_lenR kd26 rfl (fun _ => refOK_of ndS (j := 0) rfl rfl))) rfl rfl ?_
      refine DR0 (gc := true) rfl (vok_p (C := cx) (p_mv rfl)) rfl rfl ?_
      refine DR0 (gc := true) rfl (vok_p (C := cx) (p_add rfl rfl)) rfl rfl ?_
      refine DR0 (gc := true) rfl (vok_p (C := cx) (p_mv rfl)) rfl rfl ?_
      refine DR0 (gc := true) rfl (vok_p (C := cx) (p_mv rfl)) rfl rfl ?_
      refine DR0 (gc := true) rfl (vok_p (C := cx) (p_bld (l := Enc.cl ((Head_api.mk (Str.mk [97]) (wr (i28 + (1 : Int))) (and64 e62 (127 : Int)) (0 : Int) (and64 e62 (127 : Int)) (1 : Int) (0 : Int) false) : Head_api)) ty23 rfl all23 rfl (fun _ => ⟨⟨rfl, trivial, rfl⟩, ⟨rfl, trivial, rfl⟩, ⟨rfl, trivial, rfl⟩, ⟨rfl, trivial, rfl⟩, ⟨rfl, trivial, rfl⟩, trivial⟩))) rfl rfl ?_
      refine DR0 (gc := true) rfl (vok_p (C := cx) (p_mv rfl)) rfl rfl ?_
      obtain ⟨u65, hu65, hX⟩ := bind_some hX
      refine DR2 rfl rfl ?_
      refine TL.mkV (C := cx) nd (0 : UInt8) kd24 ty5 rfl (fun j hj => by (have : j = 0 := by simpa [Enc.sz] using hj); subst this; rfl) rfl rfl (by decide) (need_t hu65) rfl ?_
      refine TL.nil ⟨_, [], rfl, rfl, HSub_app nd, ?_⟩
      obtain ⟨r66, hr66, hX⟩ := bind_some hX
      refine DR0 (gc := true) rfl (vok_c rfl (fun _ => ⟨rfl, ⟨rfl, ⟨rfl, ⟨rfl, ⟨rfl, trivial⟩⟩⟩⟩⟩) (fun e => ok_cartridgeref10_Blocks (7 : Int) (l26.length : Int) (Head_api.mk (Str.mk [97]) (wr (i28 + (1 : Int))) (and64 e62 (127 : Int)) (0 : Int) (and64 e62 (127 : Int)) (1 : Int) (0 : Int) false) (List.replicate (and64 e62 (127 : Int)).toNat (0 : UInt8)) _ hr66)) rfl rfl ?_
      refine DR0 (gc := true) rfl (vok_p (C := cx) (p_mv rfl)) rfl rfl ?_
      refine DR0 (gc := true) rfl (vok_p (C := cx) (p_ex rfl rfl (by decide))) rfl rfl ?_
      refine DR0 (gc := true) rfl (vok_p (C := cx) (p_ex rfl rfl (by decide))) rfl rfl ?_
      refine DR0 (gc := true) rfl (vok_p (C := cx) (p_mv rfl)) rfl rfl ?_
      refine DR0 (gc := true) rfl (vok_p (C := cx) (p_mv rfl)) rfl rfl ?_
      refine DRend ?_
      refine hK63 _ _ ?_
      refine TK.reg ?_
      refine TL.p (C := cx) (gc := true) (p_faV fs38_2 (by decide) rfl nd (j := 1) rfl rfl) rfl rfl ?_
      refine TL.p (C := cx) (gc := true) (p_ldV (v := OL (α := (List UInt8)) b25 l26) ty26 rfl rfl nd (j := 1) rfl rfl rfl rfl rfl) rfl rfl ?_
      refine TL.p (C := cx) (gc := true) (p_mv rfl) rfl rfl ?_
      obtain ⟨u67, hu67, hX⟩ := bind_some hX
      refine TL.appO (C := cx) nd kd26 bo26 ty24 rfl rfl (j := 0) rfl rfl (Src_L _) (by decide) (need_t hu67) rfl fun nd => ?_
      refine TL.p (C := cx) (gc := true) (p_faV fs38_2 (by decide) rfl nd (j := 1) rfl rfl) rfl rfl ?_
      refine TL.stV (C := cx) (lu := [OL (α := (List UInt8)) b25 (l26 ++ r66.1)]) nd ty26 rfl (j := 1) rfl rfl rfl (Cells_rs (refOK_of nd (j := 0) rfl rfl)) rfl rfl [Enc.v (c23 : Int), Enc.v (c24 : Int), OL (α := (List UInt8)) b25 (l26 ++ r66.1), Enc.v (c27 : Bool)] rfl fun nd => ?_
      refine TL.nil ?_
      refine hK60 _ _ ?_
      refine TK.reg ?_
      refine TL.p (C := cx) (gc := true) (p_mv rfl) rfl rfl ?_
      refine TL.p (C := cx) (gc := true) (p_add rfl rfl) rfl rfl ?_
      refine TL.p (C := cx) (gc := true) (p_mv rfl) rfl rfl ?_
      refine TL.nil ?_
      exact ⟨_, (some_in hX).symm, b25, b22, rfl, (Nd.pick nd (is := [0, 1]) (by decide)), (HSub.pick nd (is := [0, 1]) (by decide))⟩
    · have hX := ite_f hc hX
      refine TK.exit ?_
      obtain rfl := hR21 _ (some_in hX).symm
      exact E21 c23 c24 l26 c27 _ _ ⟨b25, b22, rfl, (Nd.pick nd (is := [0, 1]) (by decide)), (HSub.pick nd (is := [0, 1]) (by decide))⟩ hA21

end Go.Proofs.YtliahlgkinhjlaaDoor
