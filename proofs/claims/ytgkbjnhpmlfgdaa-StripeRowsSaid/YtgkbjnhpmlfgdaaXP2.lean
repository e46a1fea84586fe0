import Derived.Test.YtgkbjnhpmlfgdaaXFn
import Derived.Test.YtgkbjnhpmlfgdaaXS
import Derived.Test.YtgkbjnhpmlfgdaaAmK0
import Derived.Test.YtgkbjnhpmlfgdaaXP1
/- That they do. -/
namespace Go.Proofs.Ytgkbjnhpmlfgdaa
open Go.AM Go.AX
set_option linter.unusedVariables false
set_option maxRecDepth 20000

/-- cartridge/cartridgelaw13.StripeRows -/
theorem ok_cartridgelaw13_StripeRows (sizes1 : (List Int)) (parity2 : Int) (gone3 : (List Int)) (r : Bool) (hX : X.cartridgelaw13_StripeRows sizes1 parity2 gone3 = some r) : Fun Try.prog 6 [Enc.v (sizes1 : (List Int)), Enc.v (parity2 : Int), Enc.v (gone3 : (List Int))] (· = Enc.v (r : Bool)) := by
  refine Fun.of b6 (Nat.le_of_ble_eq_true rfl) (allVal.mem ⟨(by exact (v_val _)), (by exact (v_val _)), (by exact (v_val _)), trivial⟩) ?_
  unfold k6
  have nd : Nd [] := Nd_nil
  unfold X.cartridgelaw13_StripeRows at hX
  refine TK.seq_k fun K4 hK4 => ?_
  refine TK.reg ?_
  refine TL.p (C := cx) (gc := true) (p_mv rfl) rfl rfl ?_
  refine TL.nil ?_
  refine hK4 _ _ ?_
  refine TK.seq_k fun K5 hK5 => ?_
  refine TK.reg ?_
  obtain ⟨r6, hr6, hX⟩ := bind_some hX
  refine TL.cvX rfl rfl rfl (fun _ => ⟨rfl, trivial⟩) (fun e => ok_cartridgelaw13_alive  _ hr6) ?_
  refine TL.p (C := cx) (gc := true) (p_mv rfl) rfl rfl ?_
  refine TL.nil ?_
  refine hK5 _ _ ?_
  refine TK.seq_k fun K7 hK7 => ?_
  refine TK.seq_k fun K8 hK8 => ?_
  refine TK.reg ?_
  refine TL.p (C := cx) (gc := true) (p_mv rfl) rfl rfl ?_
  refine TL.p (C := cx) (gc := true) (p_not rfl) rfl rfl ?_
  refine TL.p (C := cx) (gc := true) (p_mv rfl) rfl rfl ?_
  refine TL.p (C := cx) (gc := (!((!r6)))) (p_mv rfl (hg := fun e => rfl)) (gcF1 rfl) rfl ?_
  refine TL.p (C := cx) (gc := (!((!r6)))) (p_lenL (xs := sizes1) kd46 rfl (hg := fun e => e)) (gcF1 rfl) rfl ?_
  refine TL.p (C := cx) (gc := (!((!r6)))) (p_lss rfl rfl (hg := fun e => ⟨e, rfl⟩)) (gcF1 rfl) rfl ?_
  refine TL.p (C := cx) (gc := true) (p_or rfl rfl (fun e => ⟨rfl, fun h => (not_t h)⟩)) rfl rfl ?_
  refine TL.p (C := cx) (gc := true) (p_mv rfl) rfl rfl ?_
  refine TL.p (C := cx) (gc := (!(((!r6) || (decide ((sizes1.length : Int) < (1 : Int))))))) (p_mv rfl (hg := fun e => rfl)) (gcF1 rfl) rfl ?_
  refine TL.p (C := cx) (gc := (!(((!r6) || (decide ((sizes1.length : Int) < (1 : Int))))))) (p_lenL (xs := sizes1) kd46 rfl (hg := fun e => e)) (gcF1 rfl) rfl ?_
  refine TL.p (C := cx) (gc := (!(((!r6) || (decide ((sizes1.length : Int) < (1 : Int))))))) (p_gtr rfl rfl (hg := fun e => ⟨e, rfl⟩)) (gcF1 rfl) rfl ?_
  refine TL.p (C := cx) (gc := true) (p_or rfl rfl (fun e => ⟨rfl, fun h => (not_t h)⟩)) rfl rfl ?_
  refine TL.p (C := cx) (gc := true) (p_mv rfl) rfl rfl ?_
  refine TL.p (C := cx) (gc := (!((((!r6) || (decide ((sizes1.length : Int) < (1 : Int)))) || (decide ((sizes1.length : Int) > (6 : Int))))))) (p_mv rfl (hg := fun e => rfl)) (gcF1 rfl) rfl ?_
  refine TL.p (C := cx) (gc := (!((((!r6) || (decide ((sizes1.length : Int) < (1 : Int)))) || (decide ((sizes1.length : Int) > (6 : Int))))))) (p_lss rfl rfl (hg := fun e => ⟨e, rfl⟩)) (gcF1 rfl) rfl ?_
  refine TL.p (C := cx) (gc := true) (p_or rfl rfl (fun e => ⟨rfl, fun h => (not_t h)⟩)) rfl rfl ?_
  refine TL.p (C := cx) (gc := true) (p_mv rfl) rfl rfl ?_
  refine TL.p (C := cx) (gc := (!(((((!r6) || (decide ((sizes1.length : Int) < (1 : Int)))) || (decide ((sizes1.length : Int) > (6 : Int)))) || (decide (parity2 < (1 : Int))))))) (p_mv rfl (hg := fun e => rfl)) (gcF1 rfl) rfl ?_
  refine TL.p (C := cx) (gc := (!(((((!r6) || (decide ((sizes1.length : Int) < (1 : Int)))) || (decide ((sizes1.length : Int) > (6 : Int)))) || (decide (parity2 < (1 : Int))))))) (p_gtr rfl rfl (hg := fun e => ⟨e, rfl⟩)) (gcF1 rfl) rfl ?_
  refine TL.p (C := cx) (gc := true) (p_or rfl rfl (fun e => ⟨rfl, fun h => (not_t h)⟩)) rfl rfl ?_
  refine TL.p (C := cx) (gc := true) (p_mv rfl) rfl rfl ?_
  refine TL.p (C := cx) (gc := (!((((((!r6) || (decide ((sizes1.length : Int) < (1 : Int)))) || (decide ((sizes1.length : Int) > (6 : Int)))) || (decide (parity2 < (1 : Int)))) || (decide (parity2 > (4 : Int))))))) (p_mv rfl (hg := fun e => rfl)) (gcF1 rfl) rfl ?_
  refine TL.p (C := cx) (gc := (!((((((!r6) || (decide ((sizes1.length : Int) < (1 : Int)))) || (decide ((sizes1.length : Int) > (6 : Int)))) || (decide (parity2 < (1 : Int)))) || (decide (parity2 > (4 : Int))))))) (p_lenL (xs := gone3) kd46 rfl (hg := fun e => e)) (gcF1 rfl) rfl ?_
  refine TL.p (C := cx) (gc := (!((((((!r6) || (decide ((sizes1.length : Int) < (1 : Int)))) || (decide ((sizes1.length : Int) > (6 : Int)))) || (decide (parity2 < (1 : Int)))) || (decide (parity2 > (4 : Int))))))) (p_gtr rfl rfl (hg := fun e => ⟨e, rfl⟩)) (gcF1 rfl) rfl ?_
  refine TL.p (C := cx) (gc := true) (p_or rfl rfl (fun e => ⟨rfl, fun h => (not_t h)⟩)) rfl rfl ?_
  refine TL.nil ?_
  refine hK8 _ _ ?_
  refine TK.cond (b := ((((((!r6) || (decide ((sizes1.length : Int) < (1 : Int)))) || (decide ((sizes1.length : Int) > (6 : Int)))) || (decide (parity2 < (1 : Int)))) || (decide (parity2 > (4 : Int)))) || (decide ((gone3.length : Int) > (10 : Int))))) rfl (fun hc => ?_) (fun hc => ?_)
  · have hX := ite_t hc hX
    refine TK.seq_k fun K9 hK9 => ?_
    refine TK.reg ?_
    refine TL.p (C := cx) (gc := true) (p_mv rfl) rfl rfl ?_
    refine TL.p (C := cx) (gc := true) (p_mv rfl) rfl rfl ?_
    refine TL.nil ?_
    refine hK9 _ _ ?_
    refine TK.ret ?_
    try dsimp only [thenQ]
    exact ret1 (v := Enc.v (r6 : Bool)) rfl (by obtain rfl := some_in hX; rfl) (v_val _)
  · have hX := ite_f hc hX
    refine TK.skip ?_
    refine hK7 _ _ ?_
    refine TK.seq_k fun K10 hK10 => ?_
    refine TK.reg ?_
    refine TL.p (C := cx) (gc := true) (p_mv rfl) rfl rfl ?_
    refine TL.nil ?_
    refine hK10 _ _ ?_
    refine TK.ownL (α := Tape_api) 8 48 nd rfl (.inl rfl) fun b11 nd => ?_
    refine TK.seq_k fun K12 hK12 => ?_
    refine TK.seq_k fun K13 hK13 => ?_
    refine TK.reg ?_
    refine TL.p (C := cx) (gc := true) (p_mv rfl) rfl rfl ?_
    refine TL.nil ?_
    refine hK13 _ _ ?_
    refine TK.block ?_
    obtain ⟨o14, hO14, hA14⟩ := bind_some hX
    have E14 : ∀ (l19 : List Tape_api) (env : Env) (h : Hp), (∃ b18, keepE [1, 2, 8] env = [(1, true, Enc.v (parity2 : Int)), (2, true, Enc.v (gone3 : (List Int))), (8, true, OL (α := Tape_api) b18 l19)] ∧ Nd [(b18, RL (α := Tape_api) 48 l19)] ∧ HSub [(b18, RL (α := Tape_api) 48 l19)] h) → X.cartridgelaw13_StripeRows_e14 parity2 gone3 l19 = some r → K12 env h := by
      intro l19 env h hE hX
      obtain ⟨b18, henv, nd, hs⟩ := hE
      unfold X.cartridgelaw13_StripeRows_e14 at hX
      refine hK12 _ _ (TK.keep [1, 2, 8] ?_)
      rw [henv]
      refine TK.subH hs ?_
      refine TK.seq_k fun K20 hK20 => ?_
      refine TK.reg ?_
      refine TL.p (C := cx) (gc := true) (p_mv rfl) rfl rfl ?_
      refine TL.p (C := cx) (gc := true) (p_mv rfl) rfl rfl ?_
      refine TL.lay [(8, L l19), (87, L l19)] nd (j := 0) rfl ⟨⟨_, rfl, fix_OL nd (j := 0) rfl, rfl⟩, ⟨⟨_, rfl, fix_OL nd (j := 0) rfl, rfl⟩, trivial⟩⟩ fun nd => ?_
      obtain ⟨r21, hr21, hX⟩ := bind_some hX
      refine TL.cvX rfl rfl rfl (fun _ => ⟨rfl, ⟨rfl, ⟨rfl, trivial⟩⟩⟩) (fun e => ok_stripe_Parity l19 parity2 _ hr21) ?_
      refine TL.p (C := cx) (gc := true) (p_mv rfl) rfl rfl ?_
      refine TL.p (C := cx) (gc := true) (p_ex rfl rfl (by decide)) rfl rfl ?_
      refine TL.p (C := cx) (gc := true) (p_ex rfl rfl (by decide)) rfl rfl ?_
      refine TL.p (C := cx) (gc := true) (p_mv rfl) rfl rfl ?_
      refine TL.p (C := cx) (gc := true) (p_mv rfl) rfl rfl ?_
      refine TL.nil ?_
      refine hK20 _ _ ?_
      refine TK.seq_k fun K22 hK22 => ?_
      refine TK.seq_k fun K23 hK23 => ?_
      refine TK.reg ?_
      refine TL.p (C := cx) (gc := true) (p_mv rfl) rfl rfl ?_
      obtain ⟨r24, hr24, hX⟩ := bind_some hX
      refine TL.cvX rfl rfl rfl (fun _ => ⟨rfl, ⟨rfl, trivial⟩⟩) (fun e => ok_cartridgelaw13_num r21.2 _ hr24) ?_
      refine TL.p (C := cx) (gc := true) (p_neq rfl rfl) rfl rfl ?_
      refine TL.p (C := cx) (gc := true) (p_mv rfl) rfl rfl ?_
      refine TL.p (C := cx) (gc := (!((r24 != (0 : Int))))) (p_mv rfl (hg := fun e => rfl)) (gcF1 rfl) rfl ?_
      refine TL.p (C := cx) (gc := (!((r24 != (0 : Int))))) (p_lenL (xs := r21.1) kd37 rfl (hg := fun e => e)) (gcF1 rfl) rfl ?_
      refine TL.p (C := cx) (gc := (!((r24 != (0 : Int))))) (p_mv rfl (hg := fun e => rfl)) (gcF1 rfl) rfl ?_
      refine TL.p (C := cx) (gc := (!((r24 != (0 : Int))))) (p_neq rfl rfl (hg := fun e => ⟨e, e⟩)) (gcF1 rfl) rfl ?_
      refine TL.p (C := cx) (gc := true) (p_or rfl rfl (fun e => ⟨rfl, fun h => (not_t h)⟩)) rfl rfl ?_
      refine TL.nil ?_
      refine hK23 _ _ ?_
      refine TK.cond (b := ((r24 != (0 : Int)) || ((r21.1.length : Int) != parity2))) rfl (fun hc => ?_) (fun hc => ?_)
      · have hX := ite_t hc hX
        refine TK.seq_k fun K25 hK25 => ?_
        refine TK.reg ?_
        refine TL.p (C := cx) (gc := true) (p_mv rfl) rfl rfl ?_
        refine TL.nil ?_
        refine hK25 _ _ ?_
        refine TK.ret ?_
        try dsimp only [thenQ]
        exact ret1 (v := Enc.v (false : Bool)) rfl (by obtain rfl := some_in hX; rfl) (v_val _)
      · have hX := ite_f hc hX
        refine TK.skip ?_
        refine hK22 _ _ ?_
        refine TK.seq_k fun K26 hK26 => ?_
        refine TK.seq_k fun K27 hK27 => ?_
        refine TK.reg ?_
        refine TL.p (C := cx) (gc := true) (p_mv rfl) rfl rfl ?_
        refine TL.nil ?_
        refine hK27 _ _ ?_
        refine TK.block ?_
        obtain ⟨o28, hO28, hA28⟩ := bind_some hX
        have E28 : ∀ (env : Env) (h : Hp), (∃ _u : Unit, keepE [] env = [] ∧ Nd [] ∧ HSub [] h) → X.cartridgelaw13_StripeRows_e28 = some r → K26 env h := by
          intro  env h hE hX
          obtain ⟨_u, henv, nd, hs⟩ := hE
          unfold X.cartridgelaw13_StripeRows_e28 at hX
          refine hK26 _ _ (TK.keep [] ?_)
          rw [henv]
          refine TK.subH hs ?_
          refine TK.seq_k fun K30 hK30 => ?_
          refine TK.reg ?_
          refine TL.p (C := cx) (gc := true) (p_mv rfl) rfl rfl ?_
          refine TL.nil ?_
          refine hK30 _ _ ?_
          refine TK.ret ?_
          try dsimp only [thenQ]
          exact ret1 (v := Enc.v (true : Bool)) rfl (by obtain rfl := some_in hX; rfl) (v_val _)
        refine TK.iter [1, 2, 8, 13, 15] (fun s env h => match s with | n29 => ∃ _u : Unit, env = [(1, true, Enc.v (parity2 : Int)), (2, true, Enc.v (gone3 : (List Int))), (8, true, Enc.v (l19 : (List Tape_api))), (13, true, Enc.v (r21.1 : (List (List (List UInt8))))), (15, true, Enc.v (n29 : Int))] ∧ Nd [] ∧ HSub [] h) hO28 ⟨(), rfl, Nd_nil, HSub.refl _⟩ ?_
        rintro n29 env h x28x ⟨_u, rfl, nd, hs⟩ hX hR28
        refine TK.subH hs ?_
        unfold X.cartridgelaw13_StripeRows_s28 at hX
        try dsimp only at hX
        refine TK.seq_k fun K31 hK31 => ?_
        refine TK.seq_k fun K32 hK32 => ?_
        refine TK.reg ?_
        refine TL.p (C := cx) (gc := true) (p_mv rfl) rfl rfl ?_
        refine TL.p (C := cx) (gc := true) (p_mv rfl) rfl rfl ?_
        obtain ⟨r33, hr33, hX⟩ := bind_some hX
        refine TL.cvX rfl rfl rfl (fun _ => ⟨rfl, ⟨rfl, trivial⟩⟩) (fun e => ok_stripe_Len l19 _ hr33) ?_
        refine TL.p (C := cx) (gc := true) (p_lss rfl rfl) rfl rfl ?_
        refine TL.nil ?_
        refine hK32 _ _ ?_
        refine TK.cond (b := (decide (n29 < r33))) rfl (fun hc => ?_) (fun hc => ?_)
        · have hX := ite_t hc hX
          refine TK.skip ?_
          refine hK31 _ _ ?_
          refine TK.seq_k fun K34 hK34 => ?_
          refine TK.block ?_
          refine TK.seq_k fun K35 hK35 => ?_
          refine TK.reg ?_
          refine TL.p (C := cx) (gc := true) (p_mv rfl) rfl rfl ?_
          refine TL.p (C := cx) (gc := true) (p_mv rfl) rfl rfl ?_
          obtain ⟨r36, hr36, hX⟩ := bind_some hX
          refine TL.cvX rfl rfl rfl (fun _ => ⟨rfl, ⟨rfl, ⟨rfl, trivial⟩⟩⟩) (fun e => ok_stripe_Row l19 n29 _ hr36) ?_
          refine TL.p (C := cx) (gc := true) (p_mv rfl) rfl rfl ?_
          refine TL.nil ?_
          refine hK35 _ _ ?_
          refine TK.seq_k fun K37 hK37 => ?_
          refine TK.seq_k fun K38 hK38 => ?_
          refine TK.reg ?_
          refine TL.p (C := cx) (gc := true) (p_mv rfl) rfl rfl ?_
          refine TL.p (C := cx) (gc := true) (p_lenL (xs := r36) kd22 rfl) rfl rfl ?_
          refine TL.p (C := cx) (gc := true) (p_mv rfl) rfl rfl ?_
          refine TL.p (C := cx) (gc := true) (p_lenL (xs := l19) kd35 rfl) rfl rfl ?_
          refine TL.p (C := cx) (gc := true) (p_neq rfl rfl) rfl rfl ?_
          refine TL.nil ?_
          refine hK38 _ _ ?_
          refine TK.cond (b := ((r36.length : Int) != (l19.length : Int))) rfl (fun hc => ?_) (fun hc => ?_)
          · have hX := ite_t hc hX
            refine TK.seq_k fun K39 hK39 => ?_
            refine TK.reg ?_
            refine TL.p (C := cx) (gc := true) (p_mv rfl) rfl rfl ?_
            refine TL.nil ?_
            refine hK39 _ _ ?_
            refine TK.ret ?_
            obtain rfl := hR28 _ (some_in hX).symm
            replace hX := hA28
            try dsimp only [thenQ]
            exact ret1 (v := Enc.v (false : Bool)) rfl (by obtain rfl := some_in hX; rfl) (v_val _)
          · have hX := ite_f hc hX
            refine TK.skip ?_
            refine hK37 _ _ ?_
            refine TK.seq_k fun K40 hK40 => ?_
            refine TK.reg ?_
            refine TL.p (C := cx) (gc := true) (p_mv rfl) rfl rfl ?_
            obtain ⟨u41, hu41, hX⟩ := bind_some hX
            refine TL.appN (C := cx) nd kd22 bo22 ty23 rfl rfl (.inl rfl) rfl (Src_L _) (by decide) (need_t hu41) rfl fun b42 nd => ?_
            refine TL.p (C := cx) (gc := true) (p_mv rfl) rfl rfl ?_
            refine TL.nil ?_
            refine hK40 _ _ ?_
            refine TK.seq_k fun K43 hK43 => ?_
            refine TK.seq_k fun K44 hK44 => ?_
            refine TK.reg ?_
            refine TL.p (C := cx) (gc := true) (p_mv rfl) rfl rfl ?_
            refine TL.nil ?_
            refine hK44 _ _ ?_
            refine TK.block ?_
            obtain ⟨o45, hO45, hA45⟩ := bind_some hX
            have E45 : ∀ (l50 : List (List UInt8)) (env : Env) (h : Hp), (∃ b49, keepE [1, 2, 8, 13, 15, 16, 17] env = [(1, true, Enc.v (parity2 : Int)), (2, true, Enc.v (gone3 : (List Int))), (8, true, Enc.v (l19 : (List Tape_api))), (13, true, Enc.v (r21.1 : (List (List (List UInt8))))), (15, true, Enc.v (n29 : Int)), (16, true, Enc.v (r36 : (List (List UInt8)))), (17, true, OL (α := (List UInt8)) b49 l50)] ∧ Nd [(b49, RL (α := (List UInt8)) 23 l50)] ∧ HSub [(b49, RL (α := (List UInt8)) 23 l50)] h) → X.cartridgelaw13_StripeRows_e45 gone3 parity2 l19 r36 n29 l50 = some x28x → K43 env h := by
              intro l50 env h hE hX
              obtain ⟨b49, henv, nd, hs⟩ := hE
              unfold X.cartridgelaw13_StripeRows_e45 at hX
              refine hK43 _ _ (TK.keep [1, 2, 8, 13, 15, 16, 17] ?_)
              rw [henv]
              refine TK.subH hs ?_
              refine TK.seq_k fun K51 hK51 => ?_
              refine TK.reg ?_
              refine TL.p (C := cx) (gc := true) (p_mv rfl) rfl rfl ?_
              refine TL.nil ?_
              refine hK51 _ _ ?_
              refine TK.seq_k fun K52 hK52 => ?_
              refine TK.seq_k fun K53 hK53 => ?_
              refine TK.reg ?_
              refine TL.p (C := cx) (gc := true) (p_mv rfl) rfl rfl ?_
              refine TL.nil ?_
              refine hK53 _ _ ?_
              refine TK.block ?_
              obtain ⟨o54, hO54, hA54⟩ := bind_some hX
              have E54 : ∀ (l60 : List (List UInt8)) (env : Env) (h : Hp), (∃ b59, keepE [1, 2, 8, 13, 15, 16, 17] env = [(1, true, Enc.v (parity2 : Int)), (2, true, Enc.v (gone3 : (List Int))), (8, true, Enc.v (l19 : (List Tape_api))), (13, true, Enc.v (r21.1 : (List (List (List UInt8))))), (15, true, Enc.v (n29 : Int)), (16, true, Enc.v (r36 : (List (List UInt8)))), (17, true, OL (α := (List UInt8)) b59 l60)] ∧ Nd [(b59, RL (α := (List UInt8)) 23 l60)] ∧ HSub [(b59, RL (α := (List UInt8)) 23 l60)] h) → X.cartridgelaw13_StripeRows_e54 l19 r36 n29 l60 = some x28x → K52 env h := by
                intro l60 env h hE hX
                obtain ⟨b59, henv, nd, hs⟩ := hE
                unfold X.cartridgelaw13_StripeRows_e54 at hX
                refine hK52 _ _ (TK.keep [1, 2, 8, 13, 15, 16, 17] ?_)
                rw [henv]
                refine TK.subH hs ?_
                refine TK.seq_k fun K61 hK61 => ?_
                refine TK.reg ?_
                refine TL.p (C := cx) (gc := true) (p_mv rfl) rfl rfl ?_
                refine TL.p (C := cx) (gc := true) (p_mv rfl) rfl rfl ?_
                refine TL.p (C := cx) (gc := true) (p_lenL (xs := l19) kd35 rfl) rfl rfl ?_
                refine TL.lay [(170, L l60)] nd (j := 0) rfl ⟨⟨_, rfl, fix_OL nd (j := 0) rfl, rfl⟩, trivial⟩ fun nd => ?_
                obtain ⟨r62, hr62, hX⟩ := bind_some hX
                refine TL.cvX rfl rfl rfl (fun _ => ⟨rfl, ⟨rfl, ⟨rfl, trivial⟩⟩⟩) (fun e => ok_cartridgeref1_Decode l60 (l19.length : Int) _ hr62) ?_
                refine TL.p (C := cx) (gc := true) (p_mv rfl) rfl rfl ?_
                refine TL.p (C := cx) (gc := true) (p_ex rfl rfl (by decide)) rfl rfl ?_
                refine TL.p (C := cx) (gc := true) (p_ex rfl rfl (by decide)) rfl rfl ?_
                refine TL.p (C := cx) (gc := true) (p_mv rfl) rfl rfl ?_
                refine TL.p (C := cx) (gc := true) (p_mv rfl) rfl rfl ?_
                refine TL.nil ?_
                refine hK61 _ _ ?_
                refine TK.seq_k fun K63 hK63 => ?_
                refine TK.reg ?_
                refine TL.p (C := cx) (gc := true) (p_mv rfl) rfl rfl ?_
                refine TL.p (C := cx) (gc := true) (p_neq rfl rfl) rfl rfl ?_
                refine TL.p (C := cx) (gc := true) (p_mv rfl) rfl rfl ?_
                refine TL.p (C := cx) (gc := (!((r62.2 != (0 : Int))))) (p_mv rfl (hg := fun e => rfl)) (gcF1 rfl) rfl ?_
                refine TL.p (C := cx) (gc := (!((r62.2 != (0 : Int))))) (p_mv rfl (hg := fun e => rfl)) (gcF1 rfl) rfl ?_
                obtain ⟨r64, hr64, hX⟩ := bind_some hX
                refine TL.cvX (gcF1 rfl) rfl rfl (fun e => ⟨rfl, ⟨e, ⟨e, trivial⟩⟩⟩) (fun e => ok_cartridgeref1_SameRows r62.1 r36 _ (optG_t hr64 e)) ?_
                refine TL.p (C := cx) (gc := (!((r62.2 != (0 : Int))))) (p_not rfl (hg := fun e => e)) (gcF1 rfl) rfl ?_
                refine TL.p (C := cx) (gc := true) (p_or rfl rfl (fun e => ⟨rfl, fun h => (not_t h)⟩)) rfl rfl ?_
                refine TL.nil ?_
                refine hK63 _ _ ?_
                refine TK.cond (b := ((r62.2 != (0 : Int)) || (!r64))) rfl (fun hc => ?_) (fun hc => ?_)
                · have hX := ite_t hc hX
                  refine TK.seq_k fun K65 hK65 => ?_
                  refine TK.reg ?_
                  refine TL.p (C := cx) (gc := true) (p_mv rfl) rfl rfl ?_
                  refine TL.nil ?_
                  refine hK65 _ _ ?_
                  refine TK.ret ?_
                  obtain rfl := hR28 _ (some_in hX).symm
                  replace hX := hA28
                  try dsimp only [thenQ]
                  exact ret1 (v := Enc.v (false : Bool)) rfl (by obtain rfl := some_in hX; rfl) (v_val _)
                · have hX := ite_f hc hX
                  refine TK.skip ?_
                  refine hK34 _ _ ?_
                  refine TK.reg ?_
                  refine TL.p (C := cx) (gc := true) (p_mv rfl) rfl rfl ?_
                  refine TL.p (C := cx) (gc := true) (p_add rfl rfl) rfl rfl ?_
                  refine TL.p (C := cx) (gc := true) (p_mv rfl) rfl rfl ?_
                  refine TL.nil ?_
                  exact ⟨_, (some_in hX).symm, (), rfl, Nd_nil, HSub.refl _⟩
              refine TK.iter [1, 2, 8, 13, 15, 16, 17, 19, 20] (fun s env h => match s with | (have56, k57, i58) => ∃ b55, env = [(1, true, Enc.v (parity2 : Int)), (2, true, Enc.v (gone3 : (List Int))), (8, true, Enc.v (l19 : (List Tape_api))), (13, true, Enc.v (r21.1 : (List (List (List UInt8))))), (15, true, Enc.v (n29 : Int)), (16, true, Enc.v (r36 : (List (List UInt8)))), (17, true, OL (α := (List UInt8)) b55 have56), (19, true, Enc.v (k57 : Int)), (20, true, Enc.v (i58 : Int))] ∧ Nd [(b55, RL (α := (List UInt8)) 23 have56)] ∧ HSub [(b55, RL (α := (List UInt8)) 23 have56)] h) hO54 ⟨b49, rfl, (Nd.pick nd (is := [0]) (by decide)), (HSub.pick nd (is := [0]) (by decide))⟩ ?_
              rintro ⟨have56, k57, i58⟩ env h x54x ⟨b55, rfl, nd, hs⟩ hX hR54
              refine TK.subH hs ?_
              unfold X.cartridgelaw13_StripeRows_s54 at hX
              try dsimp only at hX
              refine TK.seq_k fun K66 hK66 => ?_
              refine TK.seq_k fun K67 hK67 => ?_
              refine TK.reg ?_
              refine TL.p (C := cx) (gc := true) (p_mv rfl) rfl rfl ?_
              refine TL.p (C := cx) (gc := true) (p_mv rfl) rfl rfl ?_
              refine TL.p (C := cx) (gc := true) (p_lenL (xs := gone3) kd46 rfl) rfl rfl ?_
              refine TL.p (C := cx) (gc := true) (p_lss rfl rfl) rfl rfl ?_
              refine TL.p (C := cx) (gc := true) (p_mv rfl) rfl rfl ?_
              refine TL.p (C := cx) (gc := ((decide (i58 < (gone3.length : Int))))) (p_mv rfl (hg := fun e => rfl)) (gcT1 rfl) rfl ?_
              refine TL.p (C := cx) (gc := ((decide (i58 < (gone3.length : Int))))) (p_mv rfl (hg := fun e => rfl)) (gcT1 rfl) rfl ?_
              refine TL.p (C := cx) (gc := ((decide (i58 < (gone3.length : Int))))) (p_lss rfl rfl (hg := fun e => ⟨e, e⟩)) (gcT1 rfl) rfl ?_
              refine TL.p (C := cx) (gc := true) (p_and rfl rfl (fun e => ⟨rfl, fun h => h⟩)) rfl rfl ?_
              refine TL.nil ?_
              refine hK67 _ _ ?_
              refine TK.cond (b := ((decide (i58 < (gone3.length : Int))) && (decide (k57 < parity2)))) rfl (fun hc => ?_) (fun hc => ?_)
              · have hX := ite_t hc hX
                refine TK.skip ?_
                refine hK66 _ _ ?_
                refine TK.seq_k fun K68 hK68 => ?_
                refine TK.block ?_
                refine TK.seq_k fun K69 hK69 => ?_
                refine TK.reg ?_
                refine TL.p (C := cx) (gc := true) (p_mv rfl) rfl rfl ?_
                refine TL.p (C := cx) (gc := true) (p_mv rfl) rfl rfl ?_
                obtain ⟨e70, he70, hX⟩ := bind_some hX
                refine TL.p (C := cx) (gc := true) (p_iaL (xs := gone3) kd46 ty3 rfl rfl rfl (fun _ => he70)) rfl rfl ?_
                refine TL.p (C := cx) (gc := true) (p_ldE (xs := gone3) (a := e70) (e70 : Int) ty3 rfl rfl (fun _ => he70) rfl rfl rfl) rfl rfl ?_
                refine TL.p (C := cx) (gc := true) (p_and64 rfl rfl) rfl rfl ?_
                refine TL.p (C := cx) (gc := true) (p_mv rfl) rfl rfl ?_
                refine TL.p (C := cx) (gc := true) (p_lenR kd22 rfl (fun _ => refOK_of nd (j := 0) rfl rfl)) rfl rfl ?_
                obtain ⟨u71, hu71, hX⟩ := bind_some hX
                refine TL.p (C := cx) (gc := true) (p_rem rfl rfl (fun _ => need_t hu71)) rfl rfl ?_
                refine TL.p (C := cx) (gc := true) (p_mv rfl) rfl rfl ?_
                refine TL.nil ?_
                refine hK69 _ _ ?_
                refine TK.seq_k fun K72 hK72 => ?_
                have J72 : ∀ (k74 : Int) (env : Env) (h : Hp), (∃ b73, keepE [1, 2, 8, 13, 15, 16, 17, 19, 20, 21] env = [(1, true, Enc.v (parity2 : Int)), (2, true, Enc.v (gone3 : (List Int))), (8, true, Enc.v (l19 : (List Tape_api))), (13, true, Enc.v (r21.1 : (List (List (List UInt8))))), (15, true, Enc.v (n29 : Int)), (16, true, Enc.v (r36 : (List (List UInt8)))), (17, true, OL (α := (List UInt8)) b73 have56), (19, true, Enc.v (k74 : Int)), (20, true, Enc.v (i58 : Int)), (21, true, Enc.v (((and64 e70 (1023 : Int)).tmod (have56.length : Int)) : Int))] ∧ Nd [(b73, RL (α := (List UInt8)) 23 have56)] ∧ HSub [(b73, RL (α := (List UInt8)) 23 have56)] h) → X.cartridgelaw13_StripeRows_j72 have56 e70 i58 k74 = some x54x → K72 env h := by
                  intro k74 env h hE hX
                  obtain ⟨b73, henv, nd, hs⟩ := hE
                  unfold X.cartridgelaw13_StripeRows_j72 at hX
                  refine hK72 _ _ (TK.keep [1, 2, 8, 13, 15, 16, 17, 19, 20, 21] ?_)
                  rw [henv]
                  refine TK.subH hs ?_
                  refine TK.reg ?_
                  refine TL.p (C := cx) (gc := true) (p_mv rfl) rfl rfl ?_
                  refine TL.p (C := cx) (gc := true) (p_mv rfl) rfl rfl ?_
                  obtain ⟨e75, he75, hX⟩ := bind_some hX
                  refine TL.p (C := cx) (gc := true) (p_iaO (xs := have56) kd22 ty23 rfl rfl rfl nd (j := 0) rfl (fun _ => he75)) rfl rfl ?_
                  refine TL.stW (C := cx) (xs := have56) (i := ((and64 e70 (1023 : Int)).tmod (have56.length : Int))) (lu := [.nils]) (a' := ([] : (List UInt8))) nd ty23 rfl (j := 0) rfl (by simp [Enc.sz]) (inb_of he75 (by simp)) rfl (Cells_one trivial) rfl ⟨Wk_nil, trivial⟩ fun nd => ?_
                  refine TL.cv 17 (OL b73 (have56.set ((and64 e70 (1023 : Int)).tmod (have56.length : Int)).toNat ([] : (List UInt8)))) rfl (Wk_eq (OL_len (by simp))) ?_
                  refine TL.nil ?_
                  refine hK68 _ _ ?_
                  refine TK.reg ?_
                  refine TL.p (C := cx) (gc := true) (p_mv rfl) rfl rfl ?_
                  refine TL.p (C := cx) (gc := true) (p_add rfl rfl) rfl rfl ?_
                  refine TL.p (C := cx) (gc := true) (p_mv rfl) rfl rfl ?_
                  refine TL.nil ?_
                  exact ⟨_, (some_in hX).symm, b73, rfl, (Nd.pick nd (is := [0]) (by decide)), (HSub.pick nd (is := [0]) (by decide))⟩
                refine TK.seq_k fun K76 hK76 => ?_
                refine TK.reg ?_
                refine TL.p (C := cx) (gc := true) (p_mv rfl) rfl rfl ?_
                refine TL.p (C := cx) (gc := true) (p_mv rfl) rfl rfl ?_
                obtain ⟨e77, he77, hX⟩ := bind_some hX
                refine TL.p (C := cx) (gc := true) (p_iaO (xs := have56) kd22 ty23 rfl rfl rfl nd (j := 0) rfl (fun _ => he77)) rfl rfl ?_
                refine TL.p (C := cx) (gc := true) (p_ldO (xs := have56) (a := e77) (e77 : (List UInt8)) ty23 rfl rfl nd (j := 0) rfl (fun _ => he77) rfl rfl rfl) rfl rfl ?_
                refine TL.p (C := cx) (gc := true) (p_lenL (xs := e77) kd23 rfl) rfl rfl ?_
                refine TL.p (C := cx) (gc := true) (p_gtr rfl rfl) rfl rfl ?_
                refine TL.nil ?_
                refine hK76 _ _ ?_
                refine TK.cond (b := (decide ((e77.length : Int) > (0 : Int)))) rfl (fun hc => ?_) (fun hc => ?_)
                · have hX := ite_t hc hX
                  refine TK.reg ?_
                  refine TL.p (C := cx) (gc := true) (p_mv rfl) rfl rfl ?_
                  refine TL.p (C := cx) (gc := true) (p_add rfl rfl) rfl rfl ?_
                  refine TL.p (C := cx) (gc := true) (p_mv rfl) rfl rfl ?_
                  refine TL.nil ?_
                  exact J72 (wr (k57 + (1 : Int))) _ _ ⟨b55, rfl, (Nd.pick nd (is := [0]) (by decide)), (HSub.pick nd (is := [0]) (by decide))⟩ hX
                · have hX := ite_f hc hX
                  refine TK.skip ?_
                  exact J72 k57 _ _ ⟨b55, rfl, (Nd.pick nd (is := [0]) (by decide)), (HSub.pick nd (is := [0]) (by decide))⟩ hX
              · have hX := ite_f hc hX
                refine TK.exit ?_
                obtain rfl := hR54 _ (some_in hX).symm
                exact E54 have56 _ _ ⟨b55, rfl, (Nd.pick nd (is := [0]) (by decide)), (HSub.pick nd (is := [0]) (by decide))⟩ hA54
            refine TK.iter [1, 2, 8, 13, 15, 16, 17, 18] (fun s env h => match s with | (have47, i48) => ∃ b46, env = [(1, true, Enc.v (parity2 : Int)), (2, true, Enc.v (gone3 : (List Int))), (8, true, Enc.v (l19 : (List Tape_api))), (13, true, Enc.v (r21.1 : (List (List (List UInt8))))), (15, true, Enc.v (n29 : Int)), (16, true, Enc.v (r36 : (List (List UInt8)))), (17, true, OL (α := (List UInt8)) b46 have47), (18, true, Enc.v (i48 : Int))] ∧ Nd [(b46, RL (α := (List UInt8)) 23 have47)] ∧ HSub [(b46, RL (α := (List UInt8)) 23 have47)] h) hO45 ⟨b42, rfl, (Nd.pick nd (is := [0]) (by decide)), (HSub.pick nd (is := [0]) (by decide))⟩ ?_
            rintro ⟨have47, i48⟩ env h x45x ⟨b46, rfl, nd, hs⟩ hX hR45
            refine TK.subH hs ?_
            unfold X.cartridgelaw13_StripeRows_s45 at hX
            try dsimp only at hX
            refine TK.seq_k fun K78 hK78 => ?_
            refine TK.seq_k fun K79 hK79 => ?_
            refine TK.reg ?_
            refine TL.p (C := cx) (gc := true) (p_mv rfl) rfl rfl ?_
            refine TL.p (C := cx) (gc := true) (p_mv rfl) rfl rfl ?_
            refine TL.p (C := cx) (gc := true) (p_lss rfl rfl) rfl rfl ?_
            refine TL.nil ?_
            refine hK79 _ _ ?_
            refine TK.cond (b := (decide (i48 < parity2))) rfl (fun hc => ?_) (fun hc => ?_)
            · have hX := ite_t hc hX
              refine TK.skip ?_
              refine hK78 _ _ ?_
              refine TK.seq_k fun K80 hK80 => ?_
              refine TK.block ?_
              refine TK.seq_k fun K81 hK81 => ?_
              refine TK.seq_k fun K82 hK82 => ?_
              refine TK.reg ?_
              refine TL.p (C := cx) (gc := true) (p_mv rfl) rfl rfl ?_
              refine TL.p (C := cx) (gc := true) (p_mv rfl) rfl rfl ?_
              refine TL.p (C := cx) (gc := true) (p_mv rfl) rfl rfl ?_
              obtain ⟨e83, he83, hX⟩ := bind_some hX
              refine TL.p (C := cx) (gc := true) (p_iaL (xs := r21.1) kd37 ty22 rfl rfl rfl (fun _ => he83)) rfl rfl ?_
              refine TL.p (C := cx) (gc := true) (p_ldE (xs := r21.1) (a := e83) (e83 : (List (List UInt8))) ty22 rfl rfl (fun _ => he83) rfl rfl rfl) rfl rfl ?_
              refine TL.p (C := cx) (gc := true) (p_lenL (xs := e83) kd22 rfl) rfl rfl ?_
              refine TL.p (C := cx) (gc := true) (p_geq rfl rfl) rfl rfl ?_
              refine TL.nil ?_
              refine hK82 _ _ ?_
              refine TK.cond (b := (decide (n29 ≥ (e83.length : Int)))) rfl (fun hc => ?_) (fun hc => ?_)
              · have hX := ite_t hc hX
                refine TK.seq_k fun K84 hK84 => ?_
                refine TK.reg ?_
                refine TL.p (C := cx) (gc := true) (p_mv rfl) rfl rfl ?_
                refine TL.nil ?_
                refine hK84 _ _ ?_
                refine TK.ret ?_
                obtain rfl := hR45 _ (some_in hX).symm
                replace hX := hA45
                obtain rfl := hR28 _ (some_in hX).symm
                replace hX := hA28
                try dsimp only [thenQ]
                exact ret1 (v := Enc.v (false : Bool)) rfl (by obtain rfl := some_in hX; rfl) (v_val _)
              · have hX := ite_f hc hX
                refine TK.skip ?_
                refine hK81 _ _ ?_
                refine TK.reg ?_
                refine TL.p (C := cx) (gc := true) (p_mv rfl) rfl rfl ?_
                refine TL.p (C := cx) (gc := true) (p_mv rfl) rfl rfl ?_
                refine TL.p (C := cx) (gc := true) (p_mv rfl) rfl rfl ?_
                obtain ⟨e85, he85, hX⟩ := bind_some hX
                refine TL.p (C := cx) (gc := true) (p_iaL (xs := r21.1) kd37 ty22 rfl rfl rfl (fun _ => he85)) rfl rfl ?_
                refine TL.p (C := cx) (gc := true) (p_ldE (xs := r21.1) (a := e85) (e85 : (List (List UInt8))) ty22 rfl rfl (fun _ => he85) rfl rfl rfl) rfl rfl ?_
                refine TL.p (C := cx) (gc := true) (p_mv rfl) rfl rfl ?_
                obtain ⟨e86, he86, hX⟩ := bind_some hX
                refine TL.p (C := cx) (gc := true) (p_iaL (xs := e85) kd22 ty23 rfl rfl rfl (fun _ => he86)) rfl rfl ?_
                refine TL.p (C := cx) (gc := true) (p_ldE (xs := e85) (a := e86) (e86 : (List UInt8)) ty23 rfl rfl (fun _ => he86) rfl rfl rfl) rfl rfl ?_
                refine TL.lit (C := cx) ([e86] : List (List UInt8)) kd22 ty23 rfl ⟨⟨rfl, rfl⟩, trivial⟩ rfl rfl rfl ?_
                obtain ⟨u87, hu87, hX⟩ := bind_some hX
                refine TL.appO (C := cx) nd kd22 bo22 ty23 rfl rfl (j := 0) rfl rfl (Src_L _) (by decide) (need_t hu87) rfl fun nd => ?_
                refine TL.p (C := cx) (gc := true) (p_mv rfl) rfl rfl ?_
                refine TL.nil ?_
                refine hK80 _ _ ?_
                refine TK.reg ?_
                refine TL.p (C := cx) (gc := true) (p_mv rfl) rfl rfl ?_
                refine TL.p (C := cx) (gc := true) (p_add rfl rfl) rfl rfl ?_
                refine TL.p (C := cx) (gc := true) (p_mv rfl) rfl rfl ?_
                refine TL.nil ?_
                exact ⟨_, (some_in hX).symm, b46, rfl, (Nd.pick nd (is := [0]) (by decide)), (HSub.pick nd (is := [0]) (by decide))⟩
            · have hX := ite_f hc hX
              refine TK.exit ?_
              obtain rfl := hR45 _ (some_in hX).symm
              exact E45 have47 _ _ ⟨b46, rfl, (Nd.pick nd (is := [0]) (by decide)), (HSub.pick nd (is := [0]) (by decide))⟩ hA45
        · have hX := ite_f hc hX
          refine TK.exit ?_
          obtain rfl := hR28 _ (some_in hX).symm
          exact E28 _ _ ⟨(), rfl, Nd_nil, HSub.refl _⟩ hA28
    refine TK.iter [0, 1, 2, 8, 9] (fun s env h => match s with | (l16, i17) => ∃ b15, env = [(0, true, Enc.v (sizes1 : (List Int))), (1, true, Enc.v (parity2 : Int)), (2, true, Enc.v (gone3 : (List Int))), (8, true, OL (α := Tape_api) b15 l16), (9, true, Enc.v (i17 : Int))] ∧ Nd [(b15, RL (α := Tape_api) 48 l16)] ∧ HSub [(b15, RL (α := Tape_api) 48 l16)] h) hO14 ⟨b11, rfl, (Nd.pick nd (is := [0]) (by decide)), (HSub.pick nd (is := [0]) (by decide))⟩ ?_
    rintro ⟨l16, i17⟩ env h x14x ⟨b15, rfl, nd, hs⟩ hX hR14
    refine TK.subH hs ?_
    unfold X.cartridgelaw13_StripeRows_s14 at hX
    try dsimp only at hX
    refine TK.seq_k fun K88 hK88 => ?_
    refine TK.seq_k fun K89 hK89 => ?_
    refine TK.reg ?_
    refine TL.p (C := cx) (gc := true) (p_mv rfl) rfl rfl ?_
    refine TL.p (C := cx) (gc := true) (p_mv rfl) rfl rfl ?_
    refine TL.p (C := cx) (gc := true) (p_lenL (xs := sizes1) kd46 rfl) rfl rfl ?_
    refine TL.p (C := cx) (gc := true) (p_lss rfl rfl) rfl rfl ?_
    refine TL.nil ?_
    refine hK89 _ _ ?_
    refine TK.cond (b := (decide (i17 < (sizes1.length : Int)))) rfl (fun hc => ?_) (fun hc => ?_)
    · have hX := ite_t hc hX
      refine TK.skip ?_
      refine hK88 _ _ ?_
      refine TK.seq_k fun K90 hK90 => ?_
      refine TK.block ?_
      refine TK.seq_k fun K91 hK91 => ?_
      refine TK.reg ?_
      refine TL.p (C := cx) (gc := true) (p_mv rfl) rfl rfl ?_
      refine TL.p (C := cx) (gc := true) (p_add rfl rfl) rfl rfl ?_
      refine TL.p (C := cx) (gc := true) (p_bld (l := [Enc.v ((wr (i17 + (1 : Int))) : Int), Enc.v ((20 : Int) : Int), .nils, Enc.v (false : Bool)]) ty48 rfl all48 rfl (fun _ => ⟨⟨rfl, trivial, rfl⟩, ⟨rfl, trivial, rfl⟩, trivial⟩)) rfl rfl ?_
      refine TL.alO (C := cx) (l := [Enc.v ((0 : Int) : Int), Enc.v ((0 : Int) : Int), .nils, Enc.v (false : Bool)]) nd ty48 ti48_z rfl rfl fun b92 nd => ?_
      refine TL.stV (C := cx) (lu := [Enc.v ((wr (i17 + (1 : Int))) : Int), Enc.v ((20 : Int) : Int), .nils, Enc.v (false : Bool)]) nd ty48 rfl (j := 0) rfl rfl rfl (Cells_agg rfl (allA.mem ⟨trivial, trivial, trivial, trivial, trivial⟩)) rfl rfl [Enc.v ((wr (i17 + (1 : Int))) : Int), Enc.v ((20 : Int) : Int), .nils, Enc.v (false : Bool)] rfl fun nd => ?_
      refine TL.nil ?_
      refine hK91 _ _ ?_
      refine TK.ownC (α := (List UInt8)) nd (j := 0) rfl 2 23 (.inl rfl) fun b93 nd => ?_
      refine TK.seq_k fun K94 hK94 => ?_
      refine TK.seq_k fun K95 hK95 => ?_
      refine TK.reg ?_
      refine TL.p (C := cx) (gc := true) (p_mv rfl) rfl rfl ?_
      refine TL.nil ?_
      refine hK95 _ _ ?_
      refine TK.block ?_
      obtain ⟨o96, hO96, hA96⟩ := bind_some hX
      have E96 : ∀ (c107 : Int) (c108 : Int) (l110 : List (List UInt8)) (c111 : Bool) (env : Env) (h : Hp), (∃ b105 b109 b106, keepE [0, 1, 2, 8, 9, 10] env = [(0, true, Enc.v (sizes1 : (List Int))), (1, true, Enc.v (parity2 : Int)), (2, true, Enc.v (gone3 : (List Int))), (8, true, OL (α := Tape_api) b105 l16), (9, true, Enc.v (i17 : Int)), (10, true, .ref b106 0 4)] ∧ Nd [(b105, RL (α := Tape_api) 48 l16), (b109, RL (α := (List UInt8)) 23 l110), (b106, RV 48 [Enc.v (c107 : Int), Enc.v (c108 : Int), OL (α := (List UInt8)) b109 l110, Enc.v (c111 : Bool)])] ∧ HSub [(b105, RL (α := Tape_api) 48 l16), (b109, RL (α := (List UInt8)) 23 l110), (b106, RV 48 [Enc.v (c107 : Int), Enc.v (c108 : Int), OL (α := (List UInt8)) b109 l110, Enc.v (c111 : Bool)])] h) → X.cartridgelaw13_StripeRows_e96 l16 i17 c107 c108 l110 c111 = some x14x → K94 env h := by
        intro c107 c108 l110 c111 env h hE hX
        obtain ⟨b105, b109, b106, henv, nd, hs⟩ := hE
        unfold X.cartridgelaw13_StripeRows_e96 at hX
        refine hK94 _ _ (TK.keep [0, 1, 2, 8, 9, 10] ?_)
        rw [henv]
        refine TK.subH hs ?_
        refine TK.reg ?_
        refine TL.p (C := cx) (gc := true) (p_mv rfl) rfl rfl ?_
        refine TL.layR (l2' := [Enc.v (c107 : Int), Enc.v (c108 : Int), Enc.v (l110 : (List (List UInt8))), Enc.v (c111 : Bool)]) [] nd (j := 1) rfl 2 rfl rfl ⟨fix_id _, fix_id _, fix_OL nd (j := 1) rfl, fix_id _, trivial⟩ trivial fun nd => ?_
        refine TL.p (C := cx) (gc := true) (p_ldVa (l' := Enc.cl ((Tape_api.mk c107 c108 l110 c111) : Tape_api)) ty48 rfl rfl nd (j := 1) rfl rfl rfl rfl (Nat.le_of_ble_eq_true rfl)) rfl rfl ?_
        refine TL.lit (C := cx) ([(Tape_api.mk c107 c108 l110 c111)] : List Tape_api) kd35 ty48 rfl ⟨⟨rfl, rfl⟩, trivial⟩ rfl rfl rfl ?_
        obtain ⟨u112, hu112, hX⟩ := bind_some hX
        refine TL.appO (C := cx) nd kd35 bo35 ty48 rfl rfl (j := 0) rfl rfl (Src_L _) (by decide) (need_t hu112) rfl fun nd => ?_
        refine TL.p (C := cx) (gc := true) (p_mv rfl) rfl rfl ?_
        refine TL.nil ?_
        refine hK90 _ _ ?_
        refine TK.reg ?_
        refine TL.p (C := cx) (gc := true) (p_mv rfl) rfl rfl ?_
        refine TL.p (C := cx) (gc := true) (p_add rfl rfl) rfl rfl ?_
        refine TL.p (C := cx) (gc := true) (p_mv rfl) rfl rfl ?_
        refine TL.nil ?_
        exact ⟨_, (some_in hX).symm, b105, rfl, (Nd.pick nd (is := [0]) (by decide)), (HSub.pick nd (is := [0]) (by decide))⟩
      refine TK.iter [0, 1, 2, 8, 9, 10, 11] (fun s env h => match s with | (c99, c100, l102, c103, k104) => ∃ b97 b101 b98, env = [(0, true, Enc.v (sizes1 : (List Int))), (1, true, Enc.v (parity2 : Int)), (2, true, Enc.v (gone3 : (List Int))), (8, true, OL (α := Tape_api) b97 l16), (9, true, Enc.v (i17 : Int)), (10, true, .ref b98 0 4), (11, true, Enc.v (k104 : Int))] ∧ Nd [(b97, RL (α := Tape_api) 48 l16), (b101, RL (α := (List UInt8)) 23 l102), (b98, RV 48 [Enc.v (c99 : Int), Enc.v (c100 : Int), OL (α := (List UInt8)) b101 l102, Enc.v (c103 : Bool)])] ∧ HSub [(b97, RL (α := Tape_api) 48 l16), (b101, RL (α := (List UInt8)) 23 l102), (b98, RV 48 [Enc.v (c99 : Int), Enc.v (c100 : Int), OL (α := (List UInt8)) b101 l102, Enc.v (c103 : Bool)])] h) hO96 ⟨b15, b93, b92, rfl, (Nd.pick nd (is := [2, 0, 1]) (by decide)), (HSub.pick nd (is := [2, 0, 1]) (by decide))⟩ ?_
      rintro ⟨c99, c100, l102, c103, k104⟩ env h x96x ⟨b97, b101, b98, rfl, nd, hs⟩ hX hR96
      refine TK.subH hs ?_
      unfold X.cartridgelaw13_StripeRows_s96 at hX
      try dsimp only at hX
      refine TK.seq_k fun K113 hK113 => ?_
      refine TK.seq_k fun K114 hK114 => ?_
      refine TK.reg ?_
      refine TL.p (C := cx) (gc := true) (p_mv rfl) rfl rfl ?_
      refine TL.p (C := cx) (gc := true) (p_mv rfl) rfl rfl ?_
      refine TL.p (C := cx) (gc := true) (p_mv rfl) rfl rfl ?_
      obtain ⟨e115, he115, hX⟩ := bind_some hX
      refine TL.p (C := cx) (gc := true) (p_iaL (xs := sizes1) kd46 ty3 rfl rfl rfl (fun _ => he115)) rfl rfl ?_
      refine TL.p (C := cx) (gc := true) (p_ldE (xs := sizes1) (a := e115) (e115 : Int) ty3 rfl rfl (fun _ => he115) rfl rfl rfl) rfl rfl ?_
      refine TL.p (C := cx) (gc := true) (p_and64 rfl rfl) rfl rfl ?_
      refine TL.p (C := cx) (gc := true) (p_lss rfl rfl) rfl rfl ?_
      refine TL.nil ?_
      refine hK114 _ _ ?_
      refine TK.cond (b := (decide (k104 < (and64 e115 (7 : Int))))) rfl (fun hc => ?_) (fun hc => ?_)
      · have hX := ite_t hc hX
        refine TK.skip ?_
        refine hK113 _ _ ?_
        refine TK.seq_k fun K116 hK116 => ?_
        refine TK.block ?_
        refine TK.seq_k fun K117 hK117 => ?_
        refine TK.reg ?_
        obtain ⟨u118, hu118, hX⟩ := bind_some hX
        refine TL.mkO (C := cx) nd (0 : UInt8) kd23 ty5 rfl (fun j hj => by (have : j = 0 := by simpa [Enc.sz] using hj); subst this; rfl) rfl rfl (by decide) (need_t hu118) rfl fun b119 nd => ?_
        refine TL.p (C := cx) (gc := true) (p_mv rfl) rfl rfl ?_
        refine TL.nil ?_
        refine hK117 _ _ ?_
        refine TK.seq_k fun K120 hK120 => ?_
        refine TK.reg ?_
        refine TL.p (C := cx) (gc := true) (p_mv rfl) rfl rfl ?_
        refine TL.p (C := cx) (gc := true) (p_mv rfl) rfl rfl ?_
        refine TL.p (C := cx) (gc := true) (p_mv rfl) rfl rfl ?_
        refine TL.p (C := cx) (gc := true) (p_add rfl rfl) rfl rfl ?_
        refine TL.p (C := cx) (gc := true) (p_cvt src3 kd5 rfl (cv_u8 _)) rfl rfl ?_
        obtain ⟨e121, he121, hX⟩ := bind_some hX
        refine TL.p (C := cx) (gc := true) (p_iaO (xs := (List.replicate (79 : Int).toNat (0 : UInt8))) kd23 ty5 rfl rfl rfl nd (j := 0) rfl (fun _ => he121)) rfl rfl ?_
        refine TL.stW (C := cx) (xs := (List.replicate (79 : Int).toNat (0 : UInt8))) (i := k104) (lu := Enc.cl ((u8 (wr (i17 + (1 : Int)))) : UInt8)) (a' := (u8 (wr (i17 + (1 : Int))))) nd ty5 rfl (j := 0) rfl (by simp [Enc.sz]) (inb_of he121 (by simp)) rfl (Cells_v ((u8 (wr (i17 + (1 : Int)))) : UInt8)) rfl (WkL_refl _) fun nd => ?_
        refine TL.cv 12 (OL b119 ((List.replicate (79 : Int).toNat (0 : UInt8)).set k104.toNat (u8 (wr (i17 + (1 : Int)))))) rfl (Wk_eq (OL_len (by simp))) ?_
        refine TL.nil ?_
        refine hK120 _ _ ?_
        refine TK.reg ?_
        refine TL.p (C := cx) (gc := true) (p_faV fs48_2 (by decide) rfl nd (j := 3) rfl rfl) rfl rfl ?_
        refine TL.p (C := cx) (gc := true) (p_ldV (v := OL (α := (List UInt8)) b101 l102) ty22 rfl rfl nd (j := 3) rfl rfl rfl rfl rfl) rfl rfl ?_
        refine TL.p (C := cx) (gc := true) (p_mv rfl) rfl rfl ?_
        refine TL.lay [(78, L ((List.replicate (79 : Int).toNat (0 : UInt8)).set k104.toNat (u8 (wr (i17 + (1 : Int))))))] nd (j := 0) rfl ⟨⟨_, rfl, fix_OL nd (j := 0) rfl, rfl⟩, trivial⟩ fun nd => ?_
        refine TL.lit (C := cx) ([((List.replicate (79 : Int).toNat (0 : UInt8)).set k104.toNat (u8 (wr (i17 + (1 : Int)))))] : List (List UInt8)) kd22 ty23 rfl ⟨⟨rfl, rfl⟩, trivial⟩ rfl rfl rfl ?_
        obtain ⟨u122, hu122, hX⟩ := bind_some hX
        refine TL.appO (C := cx) nd kd22 bo22 ty23 rfl rfl (j := 1) rfl rfl (Src_L _) (by decide) (need_t hu122) rfl fun nd => ?_
        refine TL.p (C := cx) (gc := true) (p_faV fs48_2 (by decide) rfl nd (j := 2) rfl rfl) rfl rfl ?_
        refine TL.stV (C := cx) (lu := [OL (α := (List UInt8)) b101 (l102 ++ ([((List.replicate (79 : Int).toNat (0 : UInt8)).set k104.toNat (u8 (wr (i17 + (1 : Int)))))] : List (List UInt8)))]) nd ty22 rfl (j := 2) rfl rfl rfl (Cells_rs (refOK_of nd (j := 1) rfl rfl)) rfl rfl [Enc.v (c99 : Int), Enc.v (c100 : Int), OL (α := (List UInt8)) b101 (l102 ++ ([((List.replicate (79 : Int).toNat (0 : UInt8)).set k104.toNat (u8 (wr (i17 + (1 : Int)))))] : List (List UInt8))), Enc.v (c103 : Bool)] rfl fun nd => ?_
        refine TL.nil ?_
        refine hK116 _ _ ?_
        refine TK.reg ?_
        refine TL.p (C := cx) (gc := true) (p_mv rfl) rfl rfl ?_
        refine TL.p (C := cx) (gc := true) (p_add rfl rfl) rfl rfl ?_
        refine TL.p (C := cx) (gc := true) (p_mv rfl) rfl rfl ?_
        refine TL.nil ?_
        exact ⟨_, (some_in hX).symm, b97, b101, b98, rfl, (Nd.pick nd (is := [0, 1, 2]) (by decide)), (HSub.pick nd (is := [0, 1, 2]) (by decide))⟩
      · have hX := ite_f hc hX
        refine TK.exit ?_
        obtain rfl := hR96 _ (some_in hX).symm
        exact E96 c99 c100 l102 c103 _ _ ⟨b97, b101, b98, rfl, (Nd.pick nd (is := [0, 1, 2]) (by decide)), (HSub.pick nd (is := [0, 1, 2]) (by decide))⟩ hA96
    · have hX := ite_f hc hX
      refine TK.exit ?_
      obtain rfl := hR14 _ (some_in hX).symm
      exact E14 l16 _ _ ⟨b15, rfl, (Nd.pick nd (is := [0]) (by decide)), (HSub.pick nd (is := [0]) (by decide))⟩ hA14

end Go.Proofs.Ytgkbjnhpmlfgdaa
