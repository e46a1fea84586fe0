import Derived.Test.YtliahlgkinhjlaaDoorXFn
import Derived.Test.YtliahlgkinhjlaaDoorXS
import Derived.Test.YtliahlgkinhjlaaDoorAmK0
import Derived.Test.YtliahlgkinhjlaaDoorSh
import Derived.Test.YtliahlgkinhjlaaDoorXP0
/- That they do. -/
namespace Go.Proofs.YtliahlgkinhjlaaDoor
open Go.AM Go.AX
set_option linter.unusedVariables false
set_option maxRecDepth 20000

/-- cartridge/cartridgelaw20.alive -/
theorem ok_cartridgelaw20_alive  (r : Bool) (hX : X.cartridgelaw20_alive = some r) : Fun Tryd.prog 24 [] (· = Enc.v (r : Bool)) := by
  refine Fun.of b24 (Nat.le_of_ble_eq_true rfl) (fun x hx => by cases hx) ?_
  unfold k24
  have nd : Nd [] := Nd_nil
  unfold X.cartridgelaw20_alive at hX
  refine SR fun K1 hK1 => M rfl rfl (TL.nil (hK1 _ _ (SR fun K2 hK2 => ?_)))
  refine TLc.p (gc := true) (p_bld (l := [Enc.v ((1 : Int) : Int), Enc.v ((9 : Int) : Int), .nils, Enc.v false]) ty38 rfl all38 rfl (fun _ => ⟨⟨rfl, trivial, rfl⟩, ⟨rfl, trivial, rfl⟩, trivial⟩)) rfl rfl (TL.wk (v' := Enc.v ((Tape_api.mk (1 : Int) (9 : Int) ([] : (List (List UInt8))) false) : Tape_api)) (Wk_agg ⟨Wk.refl _, Wk.refl _, Wk_nil, Wk.refl _, trivial⟩) ?_)
  refine TLc.lit ([(Tape_api.mk (1 : Int) (9 : Int) ([] : (List (List UInt8))) false)] : List Tape_api) kd57 ty38 rfl ⟨⟨rfl, rfl⟩, trivial⟩ rfl rfl rfl ?_
  refine M rfl rfl (TL.nil (hK2 _ _ (SR fun K3 hK3 => M rfl rfl (P1 (p_bld (l := Enc.cl ((Head_api.mk (Str.mk [97]) (1 : Int) (1 : Int) (0 : Int) (0 : Int) (1 : Int) (0 : Int) false) : Head_api)) ty23 rfl all23 rfl (fun _ => ⟨⟨rfl, trivial, rfl⟩, ⟨rfl, trivial, rfl⟩, ⟨rfl, trivial, rfl⟩, ⟨rfl, trivial, rfl⟩, trivial⟩)) rfl rfl ?_))))
  refine TLc.litO nd ([(120 : UInt8)] : List UInt8) kd24 ty5 rfl ⟨⟨rfl, rfl⟩, trivial⟩ rfl rfl rfl fun b4 nd => ?_
  refine TLc.cvtF (xs := ([(120 : UInt8)] : List UInt8)) nd kd24 kd5 rfl (j := 0) rfl (by simp) rfl fun nd => ?_
  obtain ⟨r5, hr5, hX⟩ := bind_some hX
  refine TL.cvX rfl rfl rfl (fun _ => ⟨rfl, ⟨rfl, ⟨rfl, ⟨rfl, ⟨rfl, trivial⟩⟩⟩⟩⟩) (fun e => (Fun.wk (args' := [Enc.v (([(Tape_api.mk (1 : Int) (9 : Int) ([] : (List (List UInt8))) false)] : List Tape_api) : (List Tape_api)), L ([] : List Seal_api), Enc.v ((Head_api.mk (Str.mk [97]) (1 : Int) (1 : Int) (0 : Int) (0 : Int) (1 : Int) (0 : Int) false) : Head_api), Enc.v (([(120 : UInt8)] : List UInt8) : (List UInt8))]) ⟨Wk.refl _, Wk_nil, Wk.refl _, Wk.refl _, trivial⟩ (ok_write_File ([(Tape_api.mk (1 : Int) (9 : Int) ([] : (List (List UInt8))) false)] : List Tape_api) ([] : List Seal_api) (Head_api.mk (Str.mk [97]) (1 : Int) (1 : Int) (0 : Int) (0 : Int) (1 : Int) (0 : Int) false) ([(120 : UInt8)] : List UInt8) _ hr5))) ?_
  refine M rfl rfl (P1 (p_ex rfl rfl (by decide)) rfl rfl (P1 (p_ex rfl rfl (by decide)) rfl rfl (M rfl rfl (M rfl rfl (TL.nil (hK3 _ _ (SR fun K6 hK6 => M rfl rfl (M rfl rfl ?_))))))))
  obtain ⟨r7, hr7, hX⟩ := bind_some hX
  refine TL.cvX rfl rfl rfl (fun _ => ⟨rfl, ⟨rfl, ⟨rfl, ⟨rfl, ⟨rfl, trivial⟩⟩⟩⟩⟩) (fun e => ok_write_Do ([(Tape_api.mk (1 : Int) (9 : Int) ([] : (List (List UInt8))) false)] : List Tape_api) r5.1 ((-1) : Int) (0 : Int) _ hr7) ?_
  refine M rfl rfl (P1 (p_ex rfl rfl (by decide)) rfl rfl (P1 (p_ex rfl rfl (by decide)) rfl rfl (M rfl rfl (M rfl rfl (TL.nil (hK6 _ _ (SR fun K8 hK8 => ?_)))))))
  obtain ⟨r9, hr9, hX⟩ := bind_some hX
  refine TL.cvX rfl rfl rfl (fun _ => ⟨rfl, ⟨rfl, ⟨rfl, trivial⟩⟩⟩) (fun e => (Fun.wk (args' := [L ([] : List Tape_api), L ([] : List Seal_api)]) ⟨Wk_nil, Wk_nil, trivial⟩ (ok_write_Rooms ([] : List Tape_api) ([] : List Seal_api) _ hr9))) ?_
  refine P1 (p_lenL (xs := r9) kd36 rfl) rfl rfl (P1 (p_eql rfl rfl) rfl rfl (M rfl rfl ?_))
  refine TLc.p (gc := (((r9.length : Int) == (0 : Int)))) (p_mv rfl (hg := fun e => rfl)) (gcT1 rfl) rfl ?_
  obtain ⟨r10, hr10, hX⟩ := bind_some hX
  refine TL.cvX (gcT1 rfl) rfl rfl (fun e => ⟨rfl, ⟨e, trivial⟩⟩) (fun e => ok_cartridgelaw20_num r5.2 _ (optG_t hr10 e)) ?_
  refine TLc.p (gc := (((r9.length : Int) == (0 : Int)))) (p_eql rfl rfl (hg := fun e => ⟨e, rfl⟩)) (gcT1 rfl) rfl ?_
  refine P1 (p_and rfl rfl (fun e => ⟨rfl, fun h => h⟩)) rfl rfl (M rfl rfl ?_)
  refine TLc.p (gc := ((((r9.length : Int) == (0 : Int)) && (r10 == (0 : Int))))) (p_mv rfl (hg := fun e => rfl)) (gcT1 rfl) rfl ?_
  refine TLc.p (gc := ((((r9.length : Int) == (0 : Int)) && (r10 == (0 : Int))))) (p_lenL (xs := r5.1) kd117 rfl (hg := fun e => e)) (gcT1 rfl) rfl ?_
  refine TLc.p (gc := ((((r9.length : Int) == (0 : Int)) && (r10 == (0 : Int))))) (p_eql rfl rfl (hg := fun e => ⟨e, rfl⟩)) (gcT1 rfl) rfl ?_
  refine P1 (p_and rfl rfl (fun e => ⟨rfl, fun h => h⟩)) rfl rfl (M rfl rfl ?_)
  refine TLc.p (gc := (((((r9.length : Int) == (0 : Int)) && (r10 == (0 : Int))) && ((r5.1.length : Int) == (4 : Int))))) (p_mv rfl (hg := fun e => rfl)) (gcT1 rfl) rfl ?_
  refine TLc.p (gc := (((((r9.length : Int) == (0 : Int)) && (r10 == (0 : Int))) && ((r5.1.length : Int) == (4 : Int))))) (p_lenL (xs := r7.1) kd57 rfl (hg := fun e => e)) (gcT1 rfl) rfl ?_
  refine TLc.p (gc := (((((r9.length : Int) == (0 : Int)) && (r10 == (0 : Int))) && ((r5.1.length : Int) == (4 : Int))))) (p_eql rfl rfl (hg := fun e => ⟨e, rfl⟩)) (gcT1 rfl) rfl ?_
  refine P1 (p_and rfl rfl (fun e => ⟨rfl, fun h => h⟩)) rfl rfl (M rfl rfl ?_)
  refine TLc.p (gc := ((((((r9.length : Int) == (0 : Int)) && (r10 == (0 : Int))) && ((r5.1.length : Int) == (4 : Int))) && ((r7.1.length : Int) == (1 : Int))))) (p_mv rfl (hg := fun e => rfl)) (gcT1 rfl) rfl ?_
  obtain ⟨e11, he11, hX⟩ := bind_some hX
  refine TLc.p (gc := ((((((r9.length : Int) == (0 : Int)) && (r10 == (0 : Int))) && ((r5.1.length : Int) == (4 : Int))) && ((r7.1.length : Int) == (1 : Int))))) (p_iaL (xs := r7.1) kd57 ty38 rfl rfl rfl (fun e => optG_t he11 e) (hg := fun e => ⟨e, rfl⟩)) (gcT1 rfl) rfl ?_
  refine TLc.p (gc := ((((((r9.length : Int) == (0 : Int)) && (r10 == (0 : Int))) && ((r5.1.length : Int) == (4 : Int))) && ((r7.1.length : Int) == (1 : Int))))) (p_faE fs38_2 (by decide) rfl (hg := fun e => e)) (gcT1 rfl) rfl ?_
  refine TLc.p (gc := ((((((r9.length : Int) == (0 : Int)) && (r10 == (0 : Int))) && ((r5.1.length : Int) == (4 : Int))) && ((r7.1.length : Int) == (1 : Int))))) (p_ldE (xs := r7.1) (a := e11) (e11.Blocks : (List (List UInt8))) ty26 rfl rfl (fun e => optG_t he11 e) rfl rfl rfl (hg := fun e => e)) (gcT1 rfl) rfl ?_
  refine TLc.p (gc := ((((((r9.length : Int) == (0 : Int)) && (r10 == (0 : Int))) && ((r5.1.length : Int) == (4 : Int))) && ((r7.1.length : Int) == (1 : Int))))) (p_lenL (xs := e11.Blocks) kd26 rfl (hg := fun e => e)) (gcT1 rfl) rfl ?_
  refine TLc.p (gc := ((((((r9.length : Int) == (0 : Int)) && (r10 == (0 : Int))) && ((r5.1.length : Int) == (4 : Int))) && ((r7.1.length : Int) == (1 : Int))))) (p_eql rfl rfl (hg := fun e => ⟨e, rfl⟩)) (gcT1 rfl) rfl ?_
  refine P1 (p_and rfl rfl (fun e => ⟨rfl, fun h => h⟩)) rfl rfl (M rfl rfl ?_)
  refine TLc.p (gc := (((((((r9.length : Int) == (0 : Int)) && (r10 == (0 : Int))) && ((r5.1.length : Int) == (4 : Int))) && ((r7.1.length : Int) == (1 : Int))) && ((e11.Blocks.length : Int) == (4 : Int))))) (p_mv rfl (hg := fun e => rfl)) (gcT1 rfl) rfl ?_
  refine TLc.p (gc := (((((((r9.length : Int) == (0 : Int)) && (r10 == (0 : Int))) && ((r5.1.length : Int) == (4 : Int))) && ((r7.1.length : Int) == (1 : Int))) && ((e11.Blocks.length : Int) == (4 : Int))))) (p_not rfl (hg := fun e => e)) (gcT1 rfl) rfl ?_
  refine P1 (p_and rfl rfl (fun e => ⟨rfl, fun h => h⟩)) rfl rfl (M rfl rfl (TL.nil (hK8 _ _ ?_)))
  refine TK.ret ?_
  try dsimp only [thenQ]
  exact R1 rfl hX

/-- (*cartridge/cartridgeref1.Writer).Byte -/
theorem ok_cartridgeref1_Writer_Byte (c4 : UInt8) (B1 : (List UInt8)) (b2 : Nat) (b3 : Nat) (nd : Nd [(b2, RV 102 [OL (α := UInt8) b3 B1]), (b3, RL (α := UInt8) 5 B1)]) (r : (List UInt8)) (hX : X.cartridgeref1_Writer_Byte c4 B1 = some r) : TCX Tryd.prog 49 [.ref b2 0 1, Enc.v (c4 : UInt8)] [(b2, RV 102 [OL (α := UInt8) b3 B1]), (b3, RL (α := UInt8) 5 B1)] (fun rv h' => ∃ b7, rv = .tup 0 (ofL []) ∧ h' = [(b2, RV 102 [OL (α := UInt8) b7 r]), (b7, RL (α := UInt8) 5 r)]) := by
  refine TCX.of b49 (Nat.le_of_ble_eq_true rfl) ?_
  unfold k49
  unfold X.cartridgeref1_Writer_Byte at hX
  refine TK.endK fun KE hKE => ?_
  refine TK.reg ?_
  refine M rfl rfl (M rfl rfl (P1 (p_ncR rfl (fun _ => refOK_of nd (j := 0) rfl rfl)) rfl rfl (P1 (p_faV fs102_0 (by decide) rfl nd (j := 0) rfl rfl) rfl rfl (P1 (p_ldV (v := OL b3 B1) ty24 rfl rfl nd (j := 0) rfl rfl rfl rfl rfl) rfl rfl (M rfl rfl ?_)))))
  refine TLc.lit ([c4] : List UInt8) kd24 ty5 rfl ⟨⟨rfl, rfl⟩, trivial⟩ rfl rfl rfl ?_
  obtain ⟨u5, hu5, hX⟩ := bind_some hX
  refine TLc.appO nd kd24 bo24 ty5 rfl rfl (j := 1) rfl rfl (Src_L _) (by decide) (need_t hu5) rfl fun nd => ?_
  refine P1 (p_ncR rfl (fun _ => refOK_of nd (j := 0) rfl rfl)) rfl rfl (P1 (p_faV fs102_0 (by decide) rfl nd (j := 0) rfl rfl) rfl rfl ?_)
  refine TLc.stV (lu := [OL (α := UInt8) b3 (B1 ++ ([c4] : List UInt8))]) nd ty24 rfl (j := 0) rfl rfl rfl (Cells_rs (refOK_of nd (j := 1) rfl rfl)) rfl rfl [OL (α := UInt8) b3 (B1 ++ ([c4] : List UInt8))] rfl fun nd => ?_
  refine TL.nil (hKE _ _ (TL.nil ?_))
  try dsimp only [thenQ]
  refine RetQ_end ?_
  exact retX (v := .tup 0 (ofL [])) res0 (by obtain rfl := some_in hX; exact ⟨b3, rfl, rfl⟩) nd (inH_tup (l := []) trivial) ⟨rowIn_RV ⟨inH_rs nd (j := 1) rfl, trivial⟩, rowIn_RL, trivial⟩

/-- (*cartridge/cartridgeref1.Writer).Int -/
theorem ok_cartridgeref1_Writer_Int (n4 : Int) (B1 : (List UInt8)) (b2 : Nat) (b3 : Nat) (nd : Nd [(b2, RV 102 [OL (α := UInt8) b3 B1]), (b3, RL (α := UInt8) 5 B1)]) (r : (List UInt8)) (hX : X.cartridgeref1_Writer_Int n4 B1 = some r) : TCX Tryd.prog 50 [.ref b2 0 1, Enc.v (n4 : Int)] [(b2, RV 102 [OL (α := UInt8) b3 B1]), (b3, RL (α := UInt8) 5 B1)] (fun rv h' => ∃ b8, rv = .tup 0 (ofL []) ∧ h' = [(b2, RV 102 [OL (α := UInt8) b8 r]), (b8, RL (α := UInt8) 5 r)]) := by
  refine TCX.of b50 (Nat.le_of_ble_eq_true rfl) ?_
  unfold k50
  unfold X.cartridgeref1_Writer_Int at hX
  refine TK.endK fun KE hKE => ?_
  refine SR fun K5 hK5 => M rfl rfl (P1 (p_cvt src3 kd152 rfl (cv_u64 _)) rfl rfl (M rfl rfl (TL.nil (hK5 _ _ ?_))))
  refine TK.reg ?_
  refine M rfl rfl (M rfl rfl (P1 (p_ncR rfl (fun _ => refOK_of nd (j := 0) rfl rfl)) rfl rfl (P1 (p_faV fs102_0 (by decide) rfl nd (j := 0) rfl rfl) rfl rfl (P1 (p_ldV (v := OL b3 B1) ty24 rfl rfl nd (j := 0) rfl rfl rfl rfl rfl) rfl rfl (M rfl rfl (P1 (pu64_shr (a := (u64 n4)) (b := 24) rfl rfl) rfl rfl (P1 (pu64_and (a := (shru64 (u64 n4) 24)) (b := (255 : UInt64)) rfl rfl) rfl rfl ?_)))))))
  refine P1 (p_cvt src152 kd5 rfl (cv_u8 _)) rfl rfl (M rfl rfl (P1 (pu64_shr (a := (u64 n4)) (b := 16) rfl rfl) rfl rfl (P1 (pu64_and (a := (shru64 (u64 n4) 16)) (b := (255 : UInt64)) rfl rfl) rfl rfl (P1 (p_cvt src152 kd5 rfl (cv_u8 _)) rfl rfl (M rfl rfl (P1 (pu64_shr (a := (u64 n4)) (b := 8) rfl rfl) rfl rfl (P1 (pu64_and (a := (shru64 (u64 n4) 8)) (b := (255 : UInt64)) rfl rfl) rfl rfl ?_)))))))
  refine P1 (p_cvt src152 kd5 rfl (cv_u8 _)) rfl rfl (M rfl rfl (P1 (pu64_and (a := (u64 n4)) (b := (255 : UInt64)) rfl rfl) rfl rfl (P1 (p_cvt src152 kd5 rfl (cv_u8 _)) rfl rfl ?_)))
  refine TLc.lit ([(u8 (((shru64 (u64 n4) 24) &&& (255 : UInt64)).toNat : Int)), (u8 (((shru64 (u64 n4) 16) &&& (255 : UInt64)).toNat : Int)), (u8 (((shru64 (u64 n4) 8) &&& (255 : UInt64)).toNat : Int)), (u8 (((u64 n4) &&& (255 : UInt64)).toNat : Int))] : List UInt8) kd24 ty5 rfl ⟨⟨rfl, rfl⟩, ⟨rfl, rfl⟩, ⟨rfl, rfl⟩, ⟨rfl, rfl⟩, trivial⟩ rfl rfl rfl ?_
  obtain ⟨u6, hu6, hX⟩ := bind_some hX
  refine TLc.appO nd kd24 bo24 ty5 rfl rfl (j := 1) rfl rfl (Src_L _) (by decide) (need_t hu6) rfl fun nd => ?_
  refine P1 (p_ncR rfl (fun _ => refOK_of nd (j := 0) rfl rfl)) rfl rfl (P1 (p_faV fs102_0 (by decide) rfl nd (j := 0) rfl rfl) rfl rfl ?_)
  refine TLc.stV (lu := [OL (α := UInt8) b3 (B1 ++ ([(u8 (((shru64 (u64 n4) 24) &&& (255 : UInt64)).toNat : Int)), (u8 (((shru64 (u64 n4) 16) &&& (255 : UInt64)).toNat : Int)), (u8 (((shru64 (u64 n4) 8) &&& (255 : UInt64)).toNat : Int)), (u8 (((u64 n4) &&& (255 : UInt64)).toNat : Int))] : List UInt8))]) nd ty24 rfl (j := 0) rfl rfl rfl (Cells_rs (refOK_of nd (j := 1) rfl rfl)) rfl rfl [OL (α := UInt8) b3 (B1 ++ ([(u8 (((shru64 (u64 n4) 24) &&& (255 : UInt64)).toNat : Int)), (u8 (((shru64 (u64 n4) 16) &&& (255 : UInt64)).toNat : Int)), (u8 (((shru64 (u64 n4) 8) &&& (255 : UInt64)).toNat : Int)), (u8 (((u64 n4) &&& (255 : UInt64)).toNat : Int))] : List UInt8))] rfl fun nd => ?_
  refine TL.nil (hKE _ _ (TL.nil ?_))
  try dsimp only [thenQ]
  refine RetQ_end ?_
  exact retX (v := .tup 0 (ofL [])) res0 (by obtain rfl := some_in hX; exact ⟨b3, rfl, rfl⟩) nd (inH_tup (l := []) trivial) ⟨rowIn_RV ⟨inH_rs nd (j := 1) rfl, trivial⟩, rowIn_RL, trivial⟩

/-- cartridge/cartridgeref1.More -/
theorem ok_cartridgeref1_More (sum1 : UInt32) (b2 : (List UInt8)) (r : UInt32) (hX : X.cartridgeref1_More sum1 b2 = some r) : Fun Tryd.prog 88 [Enc.v (sum1 : UInt32), Enc.v (b2 : (List UInt8))] (· = Enc.v (r : UInt32)) := by
  refine Fun.of b88 (Nat.le_of_ble_eq_true rfl) (allVal.mem ⟨(by exact (v_val _)), (by exact (v_val _)), trivial⟩) ?_
  unfold k88
  have nd : Nd [] := Nd_nil
  unfold X.cartridgeref1_More at hX
  refine SR fun K3 hK3 => M rfl rfl (TL.nil (hK3 _ _ (SR fun K4 hK4 => M rfl rfl (P1 (p32_xor (a := sum1) (b := (4294967295 : UInt32)) rfl rfl) rfl rfl (M rfl rfl (TL.nil (hK4 _ _ ?_)))))))
  refine TK.seq_k fun K5 hK5 => ?_
  refine SR fun K6 hK6 => M rfl rfl (TL.nil (hK6 _ _ ?_))
  refine TK.block ?_
  obtain ⟨o7, hO7, hA7⟩ := bind_some hX
  have E7 : ∀ (c10 : UInt32) (env : Env) (h : Hp), (∃ _u : Unit, keepE [5] env = [(5, true, Enc.v c10)] ∧ Nd [] ∧ HSub [] h) → X.cartridgeref1_More_e7 c10 = some r → K5 env h := by
    intro c10 env h hE hX
    obtain ⟨_u, henv, nd, hs⟩ := hE
    unfold X.cartridgeref1_More_e7 at hX
    refine hK5 _ _ (TK.keep [5] ?_)
    rw [henv]
    refine TK.subH hs ?_
    refine SR fun K11 hK11 => M rfl rfl (P1 (p32_xor (a := c10) (b := (4294967295 : UInt32)) rfl rfl) rfl rfl (M rfl rfl (TL.nil (hK11 _ _ ?_))))
    refine TK.ret ?_
    try dsimp only [thenQ]
    exact R1 rfl hX
  refine TK.iter [1, 5, 6] (fun s env h => match s with | (c8, i9) => ∃ _u : Unit, env = [(1, true, Enc.v b2), (5, true, Enc.v c8), (6, true, Enc.v i9)] ∧ Nd [] ∧ HSub [] h) hO7 ⟨(), rfl, Nd_nil, HSub.refl _⟩ ?_
  rintro ⟨c8, i9⟩ env h x7x ⟨_u, rfl, nd, hs⟩ hX hR7
  refine TK.subH hs ?_
  unfold X.cartridgeref1_More_s7 at hX
  try dsimp only at hX
  refine TK.seq_k fun K12 hK12 => ?_
  refine SR fun K13 hK13 => M rfl rfl (M rfl rfl (P1 (p_lenL (xs := b2) kd24 rfl) rfl rfl (P1 (p_lss rfl rfl) rfl rfl (TL.nil (hK13 _ _ ?_)))))
  refine TK.cond (b := (decide (i9 < (b2.length : Int)))) rfl (fun hc => ?_) (fun hc => ?_)
  · have hX := ite_t hc hX
    refine TK.skip ?_
    refine hK12 _ _ ?_
    refine TK.seq_k fun K14 hK14 => ?_
    refine TK.block ?_
    refine SR fun K15 hK15 => M rfl rfl (M rfl rfl (M rfl rfl ?_))
    obtain ⟨e16, he16, hX⟩ := bind_some hX
    refine P1 (p_iaL (xs := b2) kd24 ty5 rfl rfl rfl (fun _ => he16)) rfl rfl (P1 (p_ldE (xs := b2) (a := e16) (e16 : UInt8) ty5 rfl rfl (fun _ => he16) rfl rfl rfl) rfl rfl (P1 (p_cvt src5 kd106 rfl (cv_u32 _)) rfl rfl (P1 (p32_xor (a := c8) (b := (u32 (e16.toNat : Int))) rfl rfl) rfl rfl (M rfl rfl (TL.nil (hK15 _ _ (SR fun K17 hK17 => M rfl rfl (TL.nil (hK17 _ _ ?_)))))))))
    refine TK.block ?_
    obtain ⟨o18, hO18, hA18⟩ := bind_some hX
    have E18 : ∀ (c21 : UInt32) (env : Env) (h : Hp), (∃ _u : Unit, keepE [1, 5, 6] env = [(1, true, Enc.v b2), (5, true, Enc.v c21), (6, true, Enc.v i9)] ∧ Nd [] ∧ HSub [] h) → X.cartridgeref1_More_e18 i9 c21 = some x7x → K14 env h := by
      intro c21 env h hE hX
      obtain ⟨_u, henv, nd, hs⟩ := hE
      unfold X.cartridgeref1_More_e18 at hX
      refine hK14 _ _ (TK.keep [1, 5, 6] ?_)
      rw [henv]
      refine TK.subH hs ?_
      refine TK.reg ?_
      refine M rfl rfl (P1 (p_add rfl rfl) rfl rfl (M rfl rfl (TL.nil ?_)))
      exact ⟨_, (some_in hX).symm, (), rfl, Nd_nil, HSub.refl _⟩
    refine TK.iter [1, 5, 6, 7] (fun s env h => match s with | (c19, k20) => ∃ _u : Unit, env = [(1, true, Enc.v b2), (5, true, Enc.v c19), (6, true, Enc.v i9), (7, true, Enc.v k20)] ∧ Nd [] ∧ HSub [] h) hO18 ⟨(), rfl, Nd_nil, HSub.refl _⟩ ?_
    rintro ⟨c19, k20⟩ env h x18x ⟨_u, rfl, nd, hs⟩ hX hR18
    refine TK.subH hs ?_
    unfold X.cartridgeref1_More_s18 at hX
    try dsimp only at hX
    refine TK.seq_k fun K22 hK22 => ?_
    refine SR fun K23 hK23 => M rfl rfl (P1 (p_lss rfl rfl) rfl rfl (TL.nil (hK23 _ _ ?_)))
    refine TK.cond (b := (decide (k20 < (8 : Int)))) rfl (fun hc => ?_) (fun hc => ?_)
    · have hX := ite_t hc hX
      refine TK.skip ?_
      refine hK22 _ _ ?_
      refine TK.seq_k fun K24 hK24 => ?_
      have J24 : ∀ (c25 : UInt32) (env : Env) (h : Hp), (∃ _u : Unit, keepE [1, 5, 6, 7] env = [(1, true, Enc.v b2), (5, true, Enc.v c25), (6, true, Enc.v i9), (7, true, Enc.v k20)] ∧ Nd [] ∧ HSub [] h) → X.cartridgeref1_More_j24 k20 c25 = some x18x → K24 env h := by
        intro c25 env h hE hX
        obtain ⟨_u, henv, nd, hs⟩ := hE
        unfold X.cartridgeref1_More_j24 at hX
        refine hK24 _ _ (TK.keep [1, 5, 6, 7] ?_)
        rw [henv]
        refine TK.subH hs ?_
        refine TK.reg ?_
        refine M rfl rfl (P1 (p_add rfl rfl) rfl rfl (M rfl rfl (TL.nil ?_)))
        exact ⟨_, (some_in hX).symm, (), rfl, Nd_nil, HSub.refl _⟩
      refine TK.block ?_
      refine SR fun K26 hK26 => M rfl rfl (P1 (p32_and (a := c19) (b := (1 : UInt32)) rfl rfl) rfl rfl (P1 (p32_eql (a := (c19 &&& (1 : UInt32))) (b := (1 : UInt32)) rfl rfl) rfl rfl (TL.nil (hK26 _ _ ?_))))
      refine TK.cond (b := ((c19 &&& (1 : UInt32)) == (1 : UInt32))) rfl (fun hc => ?_) (fun hc => ?_)
      · have hX := ite_t hc hX
        refine TK.reg ?_
        refine M rfl rfl (P1 (p32_shr (a := c19) (b := 1) rfl rfl) rfl rfl (P1 (p32_xor (a := (shr32 c19 1)) (b := (2197175160 : UInt32)) rfl rfl) rfl rfl (M rfl rfl (TL.nil ?_))))
        exact J24 ((shr32 c19 1) ^^^ (2197175160 : UInt32)) _ _ ⟨(), rfl, Nd_nil, HSub.refl _⟩ hX
      · have hX := ite_f hc hX
        refine TK.reg ?_
        refine M rfl rfl (P1 (p32_shr (a := c19) (b := 1) rfl rfl) rfl rfl (M rfl rfl (TL.nil ?_)))
        exact J24 (shr32 c19 1) _ _ ⟨(), rfl, Nd_nil, HSub.refl _⟩ hX
    · have hX := ite_f hc hX
      refine TK.exit ?_
      obtain rfl := hR18 _ (some_in hX).symm
      exact E18 c19 _ _ ⟨(), rfl, Nd_nil, HSub.refl _⟩ hA18
  · have hX := ite_f hc hX
    refine TK.exit ?_
    obtain rfl := hR7 _ (some_in hX).symm
    exact E7 c8 _ _ ⟨(), rfl, Nd_nil, HSub.refl _⟩ hA7

/-- cartridge/cartridgeref1.Crc -/
theorem ok_cartridgeref1_Crc (b1 : (List UInt8)) (r : UInt32) (hX : X.cartridgeref1_Crc b1 = some r) : Fun Tryd.prog 51 [Enc.v (b1 : (List UInt8))] (· = Enc.v (r : UInt32)) := by
  refine Fun.of b51 (Nat.le_of_ble_eq_true rfl) (allVal.mem ⟨(by exact (v_val _)), trivial⟩) ?_
  unfold k51
  have nd : Nd [] := Nd_nil
  unfold X.cartridgeref1_Crc at hX
  refine SR fun K2 hK2 => M rfl rfl (TL.nil (hK2 _ _ (SR fun K3 hK3 => M rfl rfl ?_)))
  obtain ⟨r4, hr4, hX⟩ := bind_some hX
  refine TL.cvX rfl rfl rfl (fun _ => ⟨rfl, ⟨rfl, ⟨rfl, trivial⟩⟩⟩) (fun e => ok_cartridgeref1_More (0 : UInt32) b1 _ hr4) ?_
  refine M rfl rfl (TL.nil (hK3 _ _ ?_))
  refine TK.ret ?_
  try dsimp only [thenQ]
  exact R1 rfl hX

/-- cartridge/cartridgeref1.PutFrame -/
theorem ok_cartridgeref1_PutFrame_or (u1 : Unit_api) (nd : Nd []) (r : ((List UInt8) × Int)) (hX : X.cartridgeref1_PutFrame_or u1 = some r) : TCX Tryd.prog 19 [Enc.v (u1 : Unit_api)] [] (fun rv h' => ∃ b41, rv = .tup 2 (ofL [OL (α := UInt8) b41 r.1, Enc.v (r.2 : Int)]) ∧ h' = [(b41, RL (α := UInt8) 5 r.1)]) := by
  refine TCX.of b19 (Nat.le_of_ble_eq_true rfl) ?_
  unfold k19
  unfold X.cartridgeref1_PutFrame_or at hX
  refine SR fun K2 hK2 => ?_
  refine TLc.boxV (lu := [Enc.v u1.Kind, Enc.v u1.Label, Enc.v u1.Number, Enc.v u1.Load]) nd rfl (Cells_v (u1 : Unit_api)) rfl ?_
  refine M rfl rfl (M rfl rfl (TL.nil (hK2 _ _ (SR fun K3 hK3 => M rfl rfl (TL.nil (hK3 _ _ ?_))))))
  refine TK.seq_k fun K4 hK4 => ?_
  have J4 : ∀ (most5 : Int) (env : Env) (h : Hp), (∃ _u : Unit, keepE [1, 4] env = [(1, true, .vref (ofL [Enc.v u1.Kind, Enc.v u1.Label, Enc.v u1.Number, Enc.v u1.Load]) 4 0), (4, true, Enc.v most5)] ∧ Nd [] ∧ HSub [] h) → X.cartridgeref1_PutFrame_or_j4 u1 most5 = some r → K4 env h := by
    intro most5 env h hE hX
    obtain ⟨_u, henv, nd, hs⟩ := hE
    unfold X.cartridgeref1_PutFrame_or_j4 at hX
    refine hK4 _ _ (TK.keep [1, 4] ?_)
    rw [henv]
    refine TK.subH hs ?_
    refine TK.seq_k fun K6 hK6 => ?_
    refine TK.block ?_
    refine SR fun K7 hK7 => P1 (p_faR fs42_0 (by decide) rfl) rfl rfl (P1 (p_ldR (v := Enc.v u1.Kind) ty3 rfl rfl rfl rfl rfl rfl) rfl rfl (P1 (p_lss rfl rfl) rfl rfl (M rfl rfl ?_)))
    refine TLc.p (gc := (!((decide (u1.Kind < (1 : Int)))))) (p_faR fs42_0 (by decide) rfl (hg := fun e => rfl)) (gcF1 rfl) rfl ?_
    refine TLc.p (gc := (!((decide (u1.Kind < (1 : Int)))))) (p_ldR (v := Enc.v u1.Kind) ty3 rfl rfl rfl rfl rfl rfl (hg := fun e => e)) (gcF1 rfl) rfl ?_
    refine TLc.p (gc := (!((decide (u1.Kind < (1 : Int)))))) (p_gtr rfl rfl (hg := fun e => ⟨e, rfl⟩)) (gcF1 rfl) rfl ?_
    refine P1 (p_or rfl rfl (fun e => ⟨rfl, fun h => (not_t h)⟩)) rfl rfl (M rfl rfl ?_)
    refine TLc.p (gc := (!(((decide (u1.Kind < (1 : Int))) || (decide (u1.Kind > (6 : Int))))))) (p_faR fs42_1 (by decide) rfl (hg := fun e => rfl)) (gcF1 rfl) rfl ?_
    refine TLc.p (gc := (!(((decide (u1.Kind < (1 : Int))) || (decide (u1.Kind > (6 : Int))))))) (p_ldR (v := Enc.v u1.Label) ty3 rfl rfl rfl rfl rfl rfl (hg := fun e => e)) (gcF1 rfl) rfl ?_
    refine TLc.p (gc := (!(((decide (u1.Kind < (1 : Int))) || (decide (u1.Kind > (6 : Int))))))) (p_lss rfl rfl (hg := fun e => ⟨e, rfl⟩)) (gcF1 rfl) rfl ?_
    refine P1 (p_or rfl rfl (fun e => ⟨rfl, fun h => (not_t h)⟩)) rfl rfl (M rfl rfl ?_)
    refine TLc.p (gc := (!((((decide (u1.Kind < (1 : Int))) || (decide (u1.Kind > (6 : Int)))) || (decide (u1.Label < (1 : Int))))))) (p_faR fs42_1 (by decide) rfl (hg := fun e => rfl)) (gcF1 rfl) rfl ?_
    refine TLc.p (gc := (!((((decide (u1.Kind < (1 : Int))) || (decide (u1.Kind > (6 : Int)))) || (decide (u1.Label < (1 : Int))))))) (p_ldR (v := Enc.v u1.Label) ty3 rfl rfl rfl rfl rfl rfl (hg := fun e => e)) (gcF1 rfl) rfl ?_
    refine TLc.p (gc := (!((((decide (u1.Kind < (1 : Int))) || (decide (u1.Kind > (6 : Int)))) || (decide (u1.Label < (1 : Int))))))) (p_gtr rfl rfl (hg := fun e => ⟨e, rfl⟩)) (gcF1 rfl) rfl ?_
    refine P1 (p_or rfl rfl (fun e => ⟨rfl, fun h => (not_t h)⟩)) rfl rfl (M rfl rfl ?_)
    refine TLc.p (gc := (!(((((decide (u1.Kind < (1 : Int))) || (decide (u1.Kind > (6 : Int)))) || (decide (u1.Label < (1 : Int)))) || (decide (u1.Label > (2147483647 : Int))))))) (p_faR fs42_2 (by decide) rfl (hg := fun e => rfl)) (gcF1 rfl) rfl ?_
    refine TLc.p (gc := (!(((((decide (u1.Kind < (1 : Int))) || (decide (u1.Kind > (6 : Int)))) || (decide (u1.Label < (1 : Int)))) || (decide (u1.Label > (2147483647 : Int))))))) (p_ldR (v := Enc.v u1.Number) ty3 rfl rfl rfl rfl rfl rfl (hg := fun e => e)) (gcF1 rfl) rfl ?_
    refine TLc.p (gc := (!(((((decide (u1.Kind < (1 : Int))) || (decide (u1.Kind > (6 : Int)))) || (decide (u1.Label < (1 : Int)))) || (decide (u1.Label > (2147483647 : Int))))))) (p_lss rfl rfl (hg := fun e => ⟨e, rfl⟩)) (gcF1 rfl) rfl ?_
    refine P1 (p_or rfl rfl (fun e => ⟨rfl, fun h => (not_t h)⟩)) rfl rfl (M rfl rfl ?_)
    refine TLc.p (gc := (!((((((decide (u1.Kind < (1 : Int))) || (decide (u1.Kind > (6 : Int)))) || (decide (u1.Label < (1 : Int)))) || (decide (u1.Label > (2147483647 : Int)))) || (decide (u1.Number < (0 : Int))))))) (p_faR fs42_2 (by decide) rfl (hg := fun e => rfl)) (gcF1 rfl) rfl ?_
    refine TLc.p (gc := (!((((((decide (u1.Kind < (1 : Int))) || (decide (u1.Kind > (6 : Int)))) || (decide (u1.Label < (1 : Int)))) || (decide (u1.Label > (2147483647 : Int)))) || (decide (u1.Number < (0 : Int))))))) (p_ldR (v := Enc.v u1.Number) ty3 rfl rfl rfl rfl rfl rfl (hg := fun e => e)) (gcF1 rfl) rfl ?_
    refine TLc.p (gc := (!((((((decide (u1.Kind < (1 : Int))) || (decide (u1.Kind > (6 : Int)))) || (decide (u1.Label < (1 : Int)))) || (decide (u1.Label > (2147483647 : Int)))) || (decide (u1.Number < (0 : Int))))))) (p_gtr rfl rfl (hg := fun e => ⟨e, rfl⟩)) (gcF1 rfl) rfl ?_
    refine P1 (p_or rfl rfl (fun e => ⟨rfl, fun h => (not_t h)⟩)) rfl rfl (M rfl rfl (TL.nil (hK7 _ _ ?_)))
    refine TK.cond (b := ((((((decide (u1.Kind < (1 : Int))) || (decide (u1.Kind > (6 : Int)))) || (decide (u1.Label < (1 : Int)))) || (decide (u1.Label > (2147483647 : Int)))) || (decide (u1.Number < (0 : Int)))) || (decide (u1.Number > (2147483647 : Int))))) rfl (fun hc => ?_) (fun hc => ?_)
    · have hX := ite_t hc hX
      refine SR fun K8 hK8 => M rfl rfl (M rfl rfl (TL.nil (hK8 _ _ ?_)))
      refine TK.ownL (α := UInt8) 2 5 nd rfl (.inl rfl) fun b9 nd => ?_
      refine TK.ret ?_
      try dsimp only [thenQ]
      exact retX (v := .tup 2 (ofL [OL (α := UInt8) b9 ([] : List UInt8), Enc.v ((1 : Int) : Int)])) (resN (vs := [OL (α := UInt8) b9 ([] : List UInt8), Enc.v ((1 : Int) : Int)]) ⟨rfl, rfl, trivial⟩) (by obtain rfl := some_in hX; exact ⟨b9, rfl, rfl⟩) nd (inH_tup (l := [OL (α := UInt8) b9 ([] : List UInt8), Enc.v ((1 : Int) : Int)]) ⟨inH_rs nd (j := 0) rfl, inH_val (v_val _), trivial⟩) ⟨rowIn_RL, trivial⟩
    · have hX := ite_f hc hX
      refine SR fun K10 hK10 => P1 (p_faR fs42_3 (by decide) rfl) rfl rfl (P1 (p_ldR (v := Enc.v u1.Load) ty24 rfl rfl rfl rfl rfl rfl) rfl rfl (P1 (p_lenL (xs := u1.Load) kd24 rfl) rfl rfl (M rfl rfl (P1 (p_gtr rfl rfl) rfl rfl (M rfl rfl (TL.nil (hK10 _ _ ?_)))))))
      refine TK.cond (b := (decide ((u1.Load.length : Int) > most5))) rfl (fun hc => ?_) (fun hc => ?_)
      · have hX := ite_t hc hX
        refine SR fun K11 hK11 => M rfl rfl (M rfl rfl (TL.nil (hK11 _ _ ?_)))
        refine TK.ownL (α := UInt8) 2 5 nd rfl (.inl rfl) fun b12 nd => ?_
        refine TK.ret ?_
        try dsimp only [thenQ]
        exact retX (v := .tup 2 (ofL [OL (α := UInt8) b12 ([] : List UInt8), Enc.v ((4 : Int) : Int)])) (resN (vs := [OL (α := UInt8) b12 ([] : List UInt8), Enc.v ((4 : Int) : Int)]) ⟨rfl, rfl, trivial⟩) (by obtain rfl := some_in hX; exact ⟨b12, rfl, rfl⟩) nd (inH_tup (l := [OL (α := UInt8) b12 ([] : List UInt8), Enc.v ((4 : Int) : Int)]) ⟨inH_rs nd (j := 0) rfl, inH_val (v_val _), trivial⟩) ⟨rowIn_RL, trivial⟩
      · have hX := ite_f hc hX
        refine TK.skip ?_
        refine hK6 _ _ (SR fun K13 hK13 => P1 (p_bld (l := [.nils]) ty102 rfl all102 rfl (fun _ => trivial)) rfl rfl ?_)
        refine TLc.boxO (lu := [.nils]) nd rfl (Cells_agg rfl (allA.mem ⟨trivial, trivial⟩)) rfl fun b14 nd => ?_
        refine M rfl rfl (TL.nil (hK13 _ _ ?_))
        refine TK.ownC (α := UInt8) nd (j := 0) rfl 0 5 (.inl rfl) fun b15 nd => ?_
        refine SR fun K16 hK16 => M rfl rfl (P1 (p_faR fs42_0 (by decide) rfl) rfl rfl (P1 (p_ldR (v := Enc.v u1.Kind) ty3 rfl rfl rfl rfl rfl rfl) rfl rfl (P1 (p_cvt src3 kd5 rfl (cv_u8 _)) rfl rfl ?_)))
        obtain ⟨r17, hr17, hX⟩ := bind_some hX
        refine TL.pick [1, 0] nd (by decide) fun nd => ?_
        refine TL.tcX [(b14, RV 102 [OL (α := UInt8) b15 ([] : List UInt8)]), (b15, RL (α := UInt8) 5 ([] : List UInt8))] [] rfl nd (dlt rfl) rfl ⟨rfl, ⟨rfl, ⟨rfl, trivial⟩⟩⟩ (ok_cartridgeref1_Writer_Byte (u8 u1.Kind) ([] : List UInt8) b14 b15 (Nd.take nd 2 rfl) _ hr17) ?_
        rintro _ _ hQ nd
        obtain ⟨b19, rfl, rfl⟩ := hQ
        refine TL.nil (hK16 _ _ (SR fun K20 hK20 => M rfl rfl (P1 (p_faR fs42_1 (by decide) rfl) rfl rfl (P1 (p_ldR (v := Enc.v u1.Label) ty3 rfl rfl rfl rfl rfl rfl) rfl rfl ?_))))
        obtain ⟨r21, hr21, hX⟩ := bind_some hX
        refine TL.tcX [(b14, RV 102 [OL b19 r17]), (b19, RL (α := UInt8) 5 r17)] [] rfl nd (dlt rfl) rfl ⟨rfl, ⟨rfl, ⟨rfl, trivial⟩⟩⟩ (ok_cartridgeref1_Writer_Int u1.Label r17 b14 b19 (Nd.take nd 2 rfl) _ hr21) ?_
        rintro _ _ hQ nd
        obtain ⟨b23, rfl, rfl⟩ := hQ
        refine TL.nil (hK20 _ _ (SR fun K24 hK24 => M rfl rfl (P1 (p_faR fs42_2 (by decide) rfl) rfl rfl (P1 (p_ldR (v := Enc.v u1.Number) ty3 rfl rfl rfl rfl rfl rfl) rfl rfl ?_))))
        obtain ⟨r25, hr25, hX⟩ := bind_some hX
        refine TL.tcX [(b14, RV 102 [OL b23 r21]), (b23, RL (α := UInt8) 5 r21)] [] rfl nd (dlt rfl) rfl ⟨rfl, ⟨rfl, ⟨rfl, trivial⟩⟩⟩ (ok_cartridgeref1_Writer_Int u1.Number r21 b14 b23 (Nd.take nd 2 rfl) _ hr25) ?_
        rintro _ _ hQ nd
        obtain ⟨b27, rfl, rfl⟩ := hQ
        refine TL.nil (hK24 _ _ ?_)
        refine TK.seq_k fun K28 hK28 => ?_
        have ndS : Nd [] := Nd.pick nd (is := []) (by decide)
        refine TK.drwX (h := [(b14, RV 102 [OL b27 r25]), (b27, RL (α := UInt8) 5 r25)]) (hS := []) [(0, 0), (0, 1), (1, 2), (1, 3), (1, 4), (0, 5), (0, 6), (0, 7), (0, 8), (0, 9), (0, 10), (0, 11), (0, 12), (0, 13), (0, 14), (0, 15), (2, 16), (1, 17), (1, 18), (2, 19)] mixed (by kernel_rfl) (HSub_app nd) ?_
        refine DM rfl rfl rfl ?_
        refine DM rfl rfl rfl ?_
        refine DR1 (gc := true) rfl (vok_p (C := cx) (p_ncR rfl (fun _ => refOK_of nd (j := 0) rfl rfl))) rfl rfl ?_
        refine DR1 (gc := true) rfl (vok_p (C := cx) (p_faV fs102_0 (by decide) rfl nd (j := 0) rfl rfl)) rfl rfl ?_
        refine DR1 (gc := true) rfl (vok_p (C := cx) (p_ldV (v := OL b27 r25) ty24 rfl rfl nd (j := 0) rfl rfl rfl rfl rfl)) rfl rfl ?_
        refine D0 rfl (p_faR fs42_3 (by decide) rfl) rfl rfl ?_
        refine D0 rfl (p_ldR (v := Enc.v u1.Load) ty24 rfl rfl rfl rfl rfl rfl) rfl rfl ?_
        refine D0 rfl (p_lenL (xs := u1.Load) kd24 rfl) rfl rfl ?_
        refine D0 rfl (p_shr rfl rfl (fun _ => by omega)) rfl rfl ?_
        refine D0 rfl (p_cvt src3 kd5 rfl (cv_u8 _)) rfl rfl ?_
        refine D0 rfl (p_faR fs42_3 (by decide) rfl) rfl rfl ?_
        refine D0 rfl (p_ldR (v := Enc.v u1.Load) ty24 rfl rfl rfl rfl rfl rfl) rfl rfl ?_
        refine D0 rfl (p_lenL (xs := u1.Load) kd24 rfl) rfl rfl ?_
        refine D0 rfl (p_and64 rfl rfl) rfl rfl ?_
        refine D0 rfl (p_cvt src3 kd5 rfl (cv_u8 _)) rfl rfl ?_
        refine DR0 (gc := true) rfl (vok_lit (C := cx) ([(u8 (shr64 (u1.Load.length : Int) ((8 : UInt64).toNat : Int))), (u8 (and64 (u1.Load.length : Int) (255 : Int)))] : List UInt8) kd24 ty5 rfl ⟨⟨rfl, rfl⟩, ⟨rfl, rfl⟩, trivial⟩ rfl rfl) rfl rfl ?_
        obtain ⟨u29, hu29, hX⟩ := bind_some hX
        refine DR2 rfl rfl ?_
        refine TLc.appO nd kd24 bo24 ty5 rfl rfl (j := 1) rfl rfl (Src_L _) (by decide) (need_t hu29) rfl fun nd => ?_
        refine TL.nil ⟨_, [(b14, RV 102 [OL b27 r25]), (b27, RL (α := UInt8) 5 (r25 ++ ([(u8 (shr64 (u1.Load.length : Int) ((8 : UInt64).toNat : Int))), (u8 (and64 (u1.Load.length : Int) (255 : Int)))] : List UInt8)))], rfl, rfl, HSub_app nd, ?_⟩
        refine DR1 (gc := true) rfl (vok_p (C := cx) (p_ncR rfl (fun _ => refOK_of nd (j := 0) rfl rfl))) rfl rfl ?_
        refine DR1 (gc := true) rfl (vok_p (C := cx) (p_faV fs102_0 (by decide) rfl nd (j := 0) rfl rfl)) rfl rfl ?_
        refine DR2n rfl ?_
        refine TLc.stV (lu := [OL (α := UInt8) b27 (r25 ++ ([(u8 (shr64 (u1.Load.length : Int) ((8 : UInt64).toNat : Int))), (u8 (and64 (u1.Load.length : Int) (255 : Int)))] : List UInt8))]) nd ty24 rfl (j := 0) rfl rfl rfl (Cells_rs (refOK_of nd (j := 1) rfl rfl)) rfl rfl [OL (α := UInt8) b27 (r25 ++ ([(u8 (shr64 (u1.Load.length : Int) ((8 : UInt64).toNat : Int))), (u8 (and64 (u1.Load.length : Int) (255 : Int)))] : List UInt8))] rfl fun nd => ?_
        refine TL.nil ⟨.nilp, [(b14, RV 102 [OL (α := UInt8) b27 (r25 ++ ([(u8 (shr64 (u1.Load.length : Int) ((8 : UInt64).toNat : Int))), (u8 (and64 (u1.Load.length : Int) (255 : Int)))] : List UInt8))]), (b27, RL (α := UInt8) 5 (r25 ++ ([(u8 (shr64 (u1.Load.length : Int) ((8 : UInt64).toNat : Int))), (u8 (and64 (u1.Load.length : Int) (255 : Int)))] : List UInt8)))], rfl, rfl, HSub_app nd, ?_⟩
        refine DRend ?_
        refine hK28 _ _ ?_
        refine TK.seq_k fun K30 hK30 => ?_
        have ndS : Nd [] := Nd.pick nd (is := []) (by decide)
        refine TK.drwX (h := [(b14, RV 102 [OL (α := UInt8) b27 (r25 ++ ([(u8 (shr64 (u1.Load.length : Int) ((8 : UInt64).toNat : Int))), (u8 (and64 (u1.Load.length : Int) (255 : Int)))] : List UInt8))]), (b27, RL (α := UInt8) 5 (r25 ++ ([(u8 (shr64 (u1.Load.length : Int) ((8 : UInt64).toNat : Int))), (u8 (and64 (u1.Load.length : Int) (255 : Int)))] : List UInt8)))]) (hS := []) [(0, 0), (0, 1), (1, 2), (1, 3), (1, 4), (0, 5), (0, 6), (2, 7), (1, 8), (1, 9), (2, 10)] mixed (by kernel_rfl) (HSub_app nd) ?_
        refine DM rfl rfl rfl ?_
        refine DM rfl rfl rfl ?_
        refine DR1 (gc := true) rfl (vok_p (C := cx) (p_ncR rfl (fun _ => refOK_of nd (j := 0) rfl rfl))) rfl rfl ?_
        refine DR1 (gc := true) rfl (vok_p (C := cx) (p_faV fs102_0 (by decide) rfl nd (j := 0) rfl rfl)) rfl rfl ?_
        refine DR1 (gc := true) rfl (vok_p (C := cx) (p_ldV (v := OL (α := UInt8) b27 (r25 ++ ([(u8 (shr64 (u1.Load.length : Int) ((8 : UInt64).toNat : Int))), (u8 (and64 (u1.Load.length : Int) (255 : Int)))] : List UInt8))) ty24 rfl rfl nd (j := 0) rfl rfl rfl rfl rfl)) rfl rfl ?_
        refine D0 rfl (p_faR fs42_3 (by decide) rfl) rfl rfl ?_
        refine D0 rfl (p_ldR (v := Enc.v u1.Load) ty24 rfl rfl rfl rfl rfl rfl) rfl rfl ?_
        obtain ⟨u31, hu31, hX⟩ := bind_some hX
        refine DR2 rfl rfl ?_
        refine TLc.appO nd kd24 bo24 ty5 rfl rfl (j := 1) rfl rfl (Src_L _) (by decide) (need_t hu31) rfl fun nd => ?_
        refine TL.nil ⟨_, [(b14, RV 102 [OL (α := UInt8) b27 (r25 ++ ([(u8 (shr64 (u1.Load.length : Int) ((8 : UInt64).toNat : Int))), (u8 (and64 (u1.Load.length : Int) (255 : Int)))] : List UInt8))]), (b27, RL (α := UInt8) 5 ((r25 ++ ([(u8 (shr64 (u1.Load.length : Int) ((8 : UInt64).toNat : Int))), (u8 (and64 (u1.Load.length : Int) (255 : Int)))] : List UInt8)) ++ u1.Load))], rfl, rfl, HSub_app nd, ?_⟩
        refine DR1 (gc := true) rfl (vok_p (C := cx) (p_ncR rfl (fun _ => refOK_of nd (j := 0) rfl rfl))) rfl rfl ?_
        refine DR1 (gc := true) rfl (vok_p (C := cx) (p_faV fs102_0 (by decide) rfl nd (j := 0) rfl rfl)) rfl rfl ?_
        refine DR2n rfl ?_
        refine TLc.stV (lu := [OL (α := UInt8) b27 ((r25 ++ ([(u8 (shr64 (u1.Load.length : Int) ((8 : UInt64).toNat : Int))), (u8 (and64 (u1.Load.length : Int) (255 : Int)))] : List UInt8)) ++ u1.Load)]) nd ty24 rfl (j := 0) rfl rfl rfl (Cells_rs (refOK_of nd (j := 1) rfl rfl)) rfl rfl [OL (α := UInt8) b27 ((r25 ++ ([(u8 (shr64 (u1.Load.length : Int) ((8 : UInt64).toNat : Int))), (u8 (and64 (u1.Load.length : Int) (255 : Int)))] : List UInt8)) ++ u1.Load)] rfl fun nd => ?_
        refine TL.nil ⟨.nilp, [(b14, RV 102 [OL (α := UInt8) b27 ((r25 ++ ([(u8 (shr64 (u1.Load.length : Int) ((8 : UInt64).toNat : Int))), (u8 (and64 (u1.Load.length : Int) (255 : Int)))] : List UInt8)) ++ u1.Load)]), (b27, RL (α := UInt8) 5 ((r25 ++ ([(u8 (shr64 (u1.Load.length : Int) ((8 : UInt64).toNat : Int))), (u8 (and64 (u1.Load.length : Int) (255 : Int)))] : List UInt8)) ++ u1.Load))], rfl, rfl, HSub_app nd, ?_⟩
        refine DRend ?_
        refine hK30 _ _ ?_
        refine TK.seq_k fun K32 hK32 => ?_
        have ndS : Nd [] := Nd.pick nd (is := []) (by decide)
        refine TK.drwX (h := [(b14, RV 102 [OL (α := UInt8) b27 ((r25 ++ ([(u8 (shr64 (u1.Load.length : Int) ((8 : UInt64).toNat : Int))), (u8 (and64 (u1.Load.length : Int) (255 : Int)))] : List UInt8)) ++ u1.Load)]), (b27, RL (α := UInt8) 5 ((r25 ++ ([(u8 (shr64 (u1.Load.length : Int) ((8 : UInt64).toNat : Int))), (u8 (and64 (u1.Load.length : Int) (255 : Int)))] : List UInt8)) ++ u1.Load))]) (hS := []) [(0, 0), (0, 1), (1, 2), (1, 3), (1, 4), (0, 5), (0, 6), (0, 7), (0, 8), (0, 9), (2, 10), (1, 11), (1, 12), (2, 13)] mixed (by kernel_rfl) (HSub_app nd) ?_
        refine DM rfl rfl rfl ?_
        refine DM rfl rfl rfl ?_
        refine DR1 (gc := true) rfl (vok_p (C := cx) (p_ncR rfl (fun _ => refOK_of nd (j := 0) rfl rfl))) rfl rfl ?_
        refine DR1 (gc := true) rfl (vok_p (C := cx) (p_faV fs102_0 (by decide) rfl nd (j := 0) rfl rfl)) rfl rfl ?_
        refine DR1 (gc := true) rfl (vok_p (C := cx) (p_ldV (v := OL (α := UInt8) b27 ((r25 ++ ([(u8 (shr64 (u1.Load.length : Int) ((8 : UInt64).toNat : Int))), (u8 (and64 (u1.Load.length : Int) (255 : Int)))] : List UInt8)) ++ u1.Load)) ty24 rfl rfl nd (j := 0) rfl rfl rfl rfl rfl)) rfl rfl ?_
        refine DM rfl rfl rfl ?_
        refine D0 rfl (p_faR fs42_3 (by decide) rfl) rfl rfl ?_
        refine D0 rfl (p_ldR (v := Enc.v u1.Load) ty24 rfl rfl rfl rfl rfl rfl) rfl rfl ?_
        refine D0 rfl (p_lenL (xs := u1.Load) kd24 rfl) rfl rfl ?_
        refine D0 rfl (p_sub rfl rfl) rfl rfl ?_
        obtain ⟨u33, hu33, hX⟩ := bind_some hX
        refine DR2 rfl rfl ?_
        refine TLc.appOZ nd (0 : UInt8) kd24 kd3 ty5 rfl (fun j hj => by (have : j = 0 := by simpa [Enc.sz] using hj); subst this; rfl) rfl (j := 1) rfl rfl (need_t hu33).1 (by decide) (need_t hu33).2 rfl fun nd => ?_
        refine TL.nil ⟨_, [(b14, RV 102 [OL (α := UInt8) b27 ((r25 ++ ([(u8 (shr64 (u1.Load.length : Int) ((8 : UInt64).toNat : Int))), (u8 (and64 (u1.Load.length : Int) (255 : Int)))] : List UInt8)) ++ u1.Load)]), (b27, RL (α := UInt8) 5 (((r25 ++ ([(u8 (shr64 (u1.Load.length : Int) ((8 : UInt64).toNat : Int))), (u8 (and64 (u1.Load.length : Int) (255 : Int)))] : List UInt8)) ++ u1.Load) ++ (List.replicate (wr (most5 - (u1.Load.length : Int))).toNat (0 : UInt8))))], rfl, rfl, HSub_app nd, ?_⟩
        refine DR1 (gc := true) rfl (vok_p (C := cx) (p_ncR rfl (fun _ => refOK_of nd (j := 0) rfl rfl))) rfl rfl ?_
        refine DR1 (gc := true) rfl (vok_p (C := cx) (p_faV fs102_0 (by decide) rfl nd (j := 0) rfl rfl)) rfl rfl ?_
        refine DR2n rfl ?_
        refine TLc.stV (lu := [OL (α := UInt8) b27 (((r25 ++ ([(u8 (shr64 (u1.Load.length : Int) ((8 : UInt64).toNat : Int))), (u8 (and64 (u1.Load.length : Int) (255 : Int)))] : List UInt8)) ++ u1.Load) ++ (List.replicate (wr (most5 - (u1.Load.length : Int))).toNat (0 : UInt8)))]) nd ty24 rfl (j := 0) rfl rfl rfl (Cells_rs (refOK_of nd (j := 1) rfl rfl)) rfl rfl [OL (α := UInt8) b27 (((r25 ++ ([(u8 (shr64 (u1.Load.length : Int) ((8 : UInt64).toNat : Int))), (u8 (and64 (u1.Load.length : Int) (255 : Int)))] : List UInt8)) ++ u1.Load) ++ (List.replicate (wr (most5 - (u1.Load.length : Int))).toNat (0 : UInt8)))] rfl fun nd => ?_
        refine TL.nil ⟨.nilp, [(b14, RV 102 [OL (α := UInt8) b27 (((r25 ++ ([(u8 (shr64 (u1.Load.length : Int) ((8 : UInt64).toNat : Int))), (u8 (and64 (u1.Load.length : Int) (255 : Int)))] : List UInt8)) ++ u1.Load) ++ (List.replicate (wr (most5 - (u1.Load.length : Int))).toNat (0 : UInt8)))]), (b27, RL (α := UInt8) 5 (((r25 ++ ([(u8 (shr64 (u1.Load.length : Int) ((8 : UInt64).toNat : Int))), (u8 (and64 (u1.Load.length : Int) (255 : Int)))] : List UInt8)) ++ u1.Load) ++ (List.replicate (wr (most5 - (u1.Load.length : Int))).toNat (0 : UInt8))))], rfl, rfl, HSub_app nd, ?_⟩
        refine DRend ?_
        refine hK32 _ _ (SR fun K34 hK34 => M rfl rfl (M rfl rfl (P1 (p_ncR rfl (fun _ => refOK_of nd (j := 0) rfl rfl)) rfl rfl (P1 (p_faV fs102_0 (by decide) rfl nd (j := 0) rfl rfl) rfl rfl ?_))))
        refine P1 (p_ldV (v := OL (α := UInt8) b27 (((r25 ++ ([(u8 (shr64 (u1.Load.length : Int) ((8 : UInt64).toNat : Int))), (u8 (and64 (u1.Load.length : Int) (255 : Int)))] : List UInt8)) ++ u1.Load) ++ (List.replicate (wr (most5 - (u1.Load.length : Int))).toNat (0 : UInt8)))) ty24 rfl rfl nd (j := 0) rfl rfl rfl rfl rfl) rfl rfl ?_
        obtain ⟨r35, hr35, hX⟩ := bind_some hX
        refine TL.lookX [L (((r25 ++ ([(u8 (shr64 (u1.Load.length : Int) ((8 : UInt64).toNat : Int))), (u8 (and64 (u1.Load.length : Int) (255 : Int)))] : List UInt8)) ++ u1.Load) ++ (List.replicate (wr (most5 - (u1.Load.length : Int))).toNat (0 : UInt8)))] rfl rfl rfl (fun _ => ⟨rfl, ⟨rfl, trivial⟩⟩) ⟨look_OL nd (j := 1) rfl, trivial⟩ (fun e => ok_cartridgeref1_Crc (((r25 ++ ([(u8 (shr64 (u1.Load.length : Int) ((8 : UInt64).toNat : Int))), (u8 (and64 (u1.Load.length : Int) (255 : Int)))] : List UInt8)) ++ u1.Load) ++ (List.replicate (wr (most5 - (u1.Load.length : Int))).toNat (0 : UInt8))) _ hr35) (trivial) ?_
        refine P1 (p_cvt src106 kd3 rfl (cv_32 r35)) rfl rfl ?_
        obtain ⟨r36, hr36, hX⟩ := bind_some hX
        refine TL.tcX [(b14, RV 102 [OL (α := UInt8) b27 (((r25 ++ ([(u8 (shr64 (u1.Load.length : Int) ((8 : UInt64).toNat : Int))), (u8 (and64 (u1.Load.length : Int) (255 : Int)))] : List UInt8)) ++ u1.Load) ++ (List.replicate (wr (most5 - (u1.Load.length : Int))).toNat (0 : UInt8)))]), (b27, RL (α := UInt8) 5 (((r25 ++ ([(u8 (shr64 (u1.Load.length : Int) ((8 : UInt64).toNat : Int))), (u8 (and64 (u1.Load.length : Int) (255 : Int)))] : List UInt8)) ++ u1.Load) ++ (List.replicate (wr (most5 - (u1.Load.length : Int))).toNat (0 : UInt8))))] [] rfl nd (dlt rfl) rfl ⟨rfl, ⟨rfl, ⟨rfl, trivial⟩⟩⟩ (ok_cartridgeref1_Writer_Int (r35.toNat : Int) (((r25 ++ ([(u8 (shr64 (u1.Load.length : Int) ((8 : UInt64).toNat : Int))), (u8 (and64 (u1.Load.length : Int) (255 : Int)))] : List UInt8)) ++ u1.Load) ++ (List.replicate (wr (most5 - (u1.Load.length : Int))).toNat (0 : UInt8))) b14 b27 (Nd.take nd 2 rfl) _ hr36) ?_
        rintro _ _ hQ nd
        obtain ⟨b38, rfl, rfl⟩ := hQ
        refine TL.nil (hK34 _ _ (SR fun K39 hK39 => M rfl rfl (P1 (p_ncR rfl (fun _ => refOK_of nd (j := 0) rfl rfl)) rfl rfl (P1 (p_faV fs102_0 (by decide) rfl nd (j := 0) rfl rfl) rfl rfl (P1 (p_ldV (v := OL b38 r36) ty24 rfl rfl nd (j := 0) rfl rfl rfl rfl rfl) rfl rfl (M rfl rfl (M rfl rfl (TL.nil (hK39 _ _ ?_)))))))))
        refine TK.pick [1] nd (by decide) fun nd => ?_
        refine TK.ret ?_
        try dsimp only [thenQ]
        exact retX (v := .tup 2 (ofL [OL b38 r36, Enc.v ((0 : Int) : Int)])) (resN (vs := [OL b38 r36, Enc.v ((0 : Int) : Int)]) ⟨rfl, rfl, trivial⟩) (by obtain rfl := some_in hX; exact ⟨b38, rfl, rfl⟩) nd (inH_tup (l := [OL b38 r36, Enc.v ((0 : Int) : Int)]) ⟨inH_rs nd (j := 0) rfl, inH_val (v_val _), trivial⟩) ⟨rowIn_RL, trivial⟩
  refine SR fun K40 hK40 => P1 (p_faR fs42_0 (by decide) rfl) rfl rfl (P1 (p_ldR (v := Enc.v u1.Kind) ty3 rfl rfl rfl rfl rfl rfl) rfl rfl (P1 (p_eql rfl rfl) rfl rfl (TL.nil (hK40 _ _ ?_))))
  refine TK.cond (b := (u1.Kind == (6 : Int))) rfl (fun hc => ?_) (fun hc => ?_)
  · have hX := ite_t hc hX
    refine TK.reg ?_
    refine M rfl rfl (TL.nil ?_)
    exact J4 (79 : Int) _ _ ⟨(), rfl, Nd_nil, HSub.refl _⟩ hX
  · have hX := ite_f hc hX
    refine TK.skip ?_
    exact J4 (64 : Int) _ _ ⟨(), rfl, Nd_nil, HSub.refl _⟩ hX

/-- cartridge/cartridgelaw20.WriteRooms -/
theorem ok_cartridgelaw20_WriteRooms (most1 : Int) (blocks2 : Int) (which3 : Int) (r : Bool) (hX : X.cartridgelaw20_WriteRooms most1 blocks2 which3 = some r) : Fun Tryd.prog 6 [Enc.v (most1 : Int), Enc.v (blocks2 : Int), Enc.v (which3 : Int)] (· = Enc.v (r : Bool)) := by
  refine Fun.of b6 (Nat.le_of_ble_eq_true rfl) (allVal.mem ⟨(by exact (v_val _)), (by exact (v_val _)), (by exact (v_val _)), trivial⟩) ?_
  unfold k6
  have nd : Nd [] := Nd_nil
  unfold X.cartridgelaw20_WriteRooms at hX
  refine SR fun K4 hK4 => M rfl rfl (TL.nil (hK4 _ _ (SR fun K5 hK5 => ?_)))
  obtain ⟨r6, hr6, hX⟩ := bind_some hX
  refine TL.cvX rfl rfl rfl (fun _ => ⟨rfl, trivial⟩) (fun e => ok_cartridgelaw20_alive  _ hr6) ?_
  refine M rfl rfl (TL.nil (hK5 _ _ ?_))
  refine TK.seq_k fun K7 hK7 => ?_
  refine SR fun K8 hK8 => M rfl rfl (P1 (p_not rfl) rfl rfl (M rfl rfl ?_))
  refine TLc.p (gc := (!((!r6)))) (p_mv rfl (hg := fun e => rfl)) (gcF1 rfl) rfl ?_
  refine TLc.p (gc := (!((!r6)))) (p_lss rfl rfl (hg := fun e => ⟨e, rfl⟩)) (gcF1 rfl) rfl ?_
  refine P1 (p_or rfl rfl (fun e => ⟨rfl, fun h => (not_t h)⟩)) rfl rfl (M rfl rfl ?_)
  refine TLc.p (gc := (!(((!r6) || (decide (most1 < (0 : Int))))))) (p_mv rfl (hg := fun e => rfl)) (gcF1 rfl) rfl ?_
  refine TLc.p (gc := (!(((!r6) || (decide (most1 < (0 : Int))))))) (p_gtr rfl rfl (hg := fun e => ⟨e, rfl⟩)) (gcF1 rfl) rfl ?_
  refine P1 (p_or rfl rfl (fun e => ⟨rfl, fun h => (not_t h)⟩)) rfl rfl (M rfl rfl ?_)
  refine TLc.p (gc := (!((((!r6) || (decide (most1 < (0 : Int)))) || (decide (most1 > (30 : Int))))))) (p_mv rfl (hg := fun e => rfl)) (gcF1 rfl) rfl ?_
  refine TLc.p (gc := (!((((!r6) || (decide (most1 < (0 : Int)))) || (decide (most1 > (30 : Int))))))) (p_lss rfl rfl (hg := fun e => ⟨e, rfl⟩)) (gcF1 rfl) rfl ?_
  refine P1 (p_or rfl rfl (fun e => ⟨rfl, fun h => (not_t h)⟩)) rfl rfl (M rfl rfl ?_)
  refine TLc.p (gc := (!(((((!r6) || (decide (most1 < (0 : Int)))) || (decide (most1 > (30 : Int)))) || (decide (blocks2 < (0 : Int))))))) (p_mv rfl (hg := fun e => rfl)) (gcF1 rfl) rfl ?_
  refine TLc.p (gc := (!(((((!r6) || (decide (most1 < (0 : Int)))) || (decide (most1 > (30 : Int)))) || (decide (blocks2 < (0 : Int))))))) (p_mv rfl (hg := fun e => rfl)) (gcF1 rfl) rfl ?_
  refine TLc.p (gc := (!(((((!r6) || (decide (most1 < (0 : Int)))) || (decide (most1 > (30 : Int)))) || (decide (blocks2 < (0 : Int))))))) (p_gtr rfl rfl (hg := fun e => ⟨e, e⟩)) (gcF1 rfl) rfl ?_
  refine P1 (p_or rfl rfl (fun e => ⟨rfl, fun h => (not_t h)⟩)) rfl rfl (M rfl rfl ?_)
  refine TLc.p (gc := (!((((((!r6) || (decide (most1 < (0 : Int)))) || (decide (most1 > (30 : Int)))) || (decide (blocks2 < (0 : Int)))) || (decide (blocks2 > most1)))))) (p_mv rfl (hg := fun e => rfl)) (gcF1 rfl) rfl ?_
  refine TLc.p (gc := (!((((((!r6) || (decide (most1 < (0 : Int)))) || (decide (most1 > (30 : Int)))) || (decide (blocks2 < (0 : Int)))) || (decide (blocks2 > most1)))))) (p_lss rfl rfl (hg := fun e => ⟨e, rfl⟩)) (gcF1 rfl) rfl ?_
  refine P1 (p_or rfl rfl (fun e => ⟨rfl, fun h => (not_t h)⟩)) rfl rfl (M rfl rfl ?_)
  refine TLc.p (gc := (!(((((((!r6) || (decide (most1 < (0 : Int)))) || (decide (most1 > (30 : Int)))) || (decide (blocks2 < (0 : Int)))) || (decide (blocks2 > most1))) || (decide (which3 < (0 : Int))))))) (p_mv rfl (hg := fun e => rfl)) (gcF1 rfl) rfl ?_
  refine TLc.p (gc := (!(((((((!r6) || (decide (most1 < (0 : Int)))) || (decide (most1 > (30 : Int)))) || (decide (blocks2 < (0 : Int)))) || (decide (blocks2 > most1))) || (decide (which3 < (0 : Int))))))) (p_gtr rfl rfl (hg := fun e => ⟨e, rfl⟩)) (gcF1 rfl) rfl ?_
  refine P1 (p_or rfl rfl (fun e => ⟨rfl, fun h => (not_t h)⟩)) rfl rfl (TL.nil (hK8 _ _ ?_))
  refine TK.cond (b := (((((((!r6) || (decide (most1 < (0 : Int)))) || (decide (most1 > (30 : Int)))) || (decide (blocks2 < (0 : Int)))) || (decide (blocks2 > most1))) || (decide (which3 < (0 : Int)))) || (decide (which3 > (3 : Int))))) rfl (fun hc => ?_) (fun hc => ?_)
  · have hX := ite_t hc hX
    refine SR fun K9 hK9 => M rfl rfl (M rfl rfl (TL.nil (hK9 _ _ ?_)))
    refine TK.ret ?_
    try dsimp only [thenQ]
    exact R1 rfl hX
  · have hX := ite_f hc hX
    refine TK.skip ?_
    refine hK7 _ _ (SR fun K10 hK10 => M rfl rfl (P1 (p_bld (l := [Enc.v ((3 : Int) : Int), Enc.v most1, .nils, Enc.v false]) ty38 rfl all38 rfl (fun _ => ⟨⟨rfl, trivial, rfl⟩, ⟨rfl, trivial, rfl⟩, trivial⟩)) rfl rfl ?_))
    refine TLc.alO (l := [Enc.v ((0 : Int) : Int), Enc.v ((0 : Int) : Int), .nils, Enc.v false]) nd ty38 ti38_z rfl rfl fun b11 nd => ?_
    refine TLc.stV (lu := [Enc.v ((3 : Int) : Int), Enc.v most1, .nils, Enc.v false]) nd ty38 rfl (j := 0) rfl rfl rfl (Cells_agg rfl (allA.mem ⟨trivial, trivial, trivial, trivial, trivial⟩)) rfl rfl [Enc.v ((3 : Int) : Int), Enc.v most1, .nils, Enc.v false] rfl fun nd => ?_
    refine TL.nil (hK10 _ _ ?_)
    refine TK.ownC (α := (List UInt8)) nd (j := 0) rfl 2 24 (.inl rfl) fun b12 nd => ?_
    refine TK.toD (β := UInt8) 5 nd (j := 0) rfl fun nd => ?_
    refine TK.seq_k fun K13 hK13 => ?_
    refine SR fun K14 hK14 => M rfl rfl (TL.nil (hK14 _ _ ?_))
    refine TK.block ?_
    obtain ⟨o15, hO15, hA15⟩ := bind_some hX
    have E15 : ∀ (c24 : Int) (c25 : Int) (l27 : List (List UInt8)) (c28 : Bool) (env : Env) (h : Hp), (∃ b26 b23, keepE [0, 1, 2, 8] env = [(0, true, Enc.v most1), (1, true, Enc.v blocks2), (2, true, Enc.v which3), (8, true, .ref b23 0 4)] ∧ Nd [(b26, RD (β := UInt8) 24 5 b26 l27), (b23, RV 38 [Enc.v c24, Enc.v c25, OL b26 l27, Enc.v c28])] ∧ HSub [(b26, RD (β := UInt8) 24 5 b26 l27), (b23, RV 38 [Enc.v c24, Enc.v c25, OL b26 l27, Enc.v c28])] h) → X.cartridgelaw20_WriteRooms_e15 blocks2 most1 which3 c24 c25 l27 c28 = some r → K13 env h := by
      intro c24 c25 l27 c28 env h hE hX
      obtain ⟨b26, b23, henv, nd, hs⟩ := hE
      unfold X.cartridgelaw20_WriteRooms_e15 at hX
      refine hK13 _ _ (TK.keep [0, 1, 2, 8] ?_)
      rw [henv]
      refine TK.subH hs ?_
      refine SR fun K29 hK29 => M rfl rfl (M rfl rfl (P1 (p_sub rfl rfl) rfl rfl (M rfl rfl (TL.nil (hK29 _ _ ?_)))))
      refine TK.seq_k fun K30 hK30 => ?_
      have J30 : ∀ (want33 : Int) (env : Env) (h : Hp), (∃ b32 b31, keepE [1, 2, 8, 12] env = [(1, true, Enc.v blocks2), (2, true, Enc.v which3), (8, true, .ref b31 0 4), (12, true, Enc.v want33)] ∧ Nd [(b32, RD (β := UInt8) 24 5 b32 l27), (b31, RV 38 [Enc.v c24, Enc.v c25, OL b32 l27, Enc.v c28])] ∧ HSub [(b32, RD (β := UInt8) 24 5 b32 l27), (b31, RV 38 [Enc.v c24, Enc.v c25, OL b32 l27, Enc.v c28])] h) → X.cartridgelaw20_WriteRooms_j30 which3 c24 c25 l27 c28 blocks2 want33 = some r → K30 env h := by
        intro want33 env h hE hX
        obtain ⟨b32, b31, henv, nd, hs⟩ := hE
        unfold X.cartridgelaw20_WriteRooms_j30 at hX
        refine hK30 _ _ (TK.keep [1, 2, 8, 12] ?_)
        rw [henv]
        refine TK.subH hs ?_
        refine SR fun K34 hK34 => M rfl rfl (TL.nil (hK34 _ _ ?_))
        refine TK.seq_k fun K35 hK35 => ?_
        have J35 : ∀ (l38 : List (List UInt8)) (c39 : Bool) (want40 : Int) (s41 : (List Seal_api)) (env : Env) (h : Hp), (∃ b37 b36, keepE [8, 12, 13] env = [(8, true, .ref b36 0 4), (12, true, Enc.v want40), (13, true, Enc.v s41)] ∧ Nd [(b37, RD (β := UInt8) 24 5 b37 l38), (b36, RV 38 [Enc.v c24, Enc.v c25, OL b37 l38, Enc.v c39])] ∧ HSub [(b37, RD (β := UInt8) 24 5 b37 l38), (b36, RV 38 [Enc.v c24, Enc.v c25, OL b37 l38, Enc.v c39])] h) → X.cartridgelaw20_WriteRooms_j35 c24 c25 l38 c39 want40 s41 = some r → K35 env h := by
          intro l38 c39 want40 s41 env h hE hX
          obtain ⟨b37, b36, henv, nd, hs⟩ := hE
          unfold X.cartridgelaw20_WriteRooms_j35 at hX
          refine hK35 _ _ (TK.keep [8, 12, 13] ?_)
          rw [henv]
          refine TK.subH hs ?_
          refine TK.seq_k fun K42 hK42 => ?_
          refine TK.layRD (h := [(b37, RD (β := UInt8) 24 5 b37 l38), (b36, RV 38 [Enc.v c24, Enc.v c25, OL b37 l38, Enc.v c39])]) [] nd (j := 0) rfl trivial 1 2 rfl rfl rfl fun nd => ?_
          refine TK.reg ?_
          refine P1 (p_ldVa (l' := Enc.cl ((Tape_api.mk c24 c25 l38 c39) : Tape_api)) ty38 rfl rfl nd (j := 0) rfl rfl rfl rfl (Nat.le_of_ble_eq_true rfl)) rfl rfl ?_
          refine TLc.lit ([(Tape_api.mk c24 c25 l38 c39)] : List Tape_api) kd57 ty38 rfl ⟨⟨rfl, rfl⟩, trivial⟩ rfl rfl rfl ?_
          refine M rfl rfl ?_
          obtain ⟨r43, hr43, hX⟩ := bind_some hX
          refine TL.cvX rfl rfl rfl (fun _ => ⟨rfl, ⟨rfl, ⟨rfl, trivial⟩⟩⟩) (fun e => ok_write_Rooms ([(Tape_api.mk c24 c25 l38 c39)] : List Tape_api) s41 _ hr43) ?_
          refine M rfl rfl (TL.nil (hK42 _ _ (SR fun K44 hK44 => M rfl rfl (P1 (p_lenL (xs := r43) kd36 rfl) rfl rfl (P1 (p_eql rfl rfl) rfl rfl (M rfl rfl ?_))))))
          refine TLc.p (gc := (((r43.length : Int) == (1 : Int)))) (p_mv rfl (hg := fun e => rfl)) (gcT1 rfl) rfl ?_
          obtain ⟨e45, he45, hX⟩ := bind_some hX
          refine TLc.p (gc := (((r43.length : Int) == (1 : Int)))) (p_iaL (xs := r43) kd36 ty3 rfl rfl rfl (fun e => optG_t he45 e) (hg := fun e => ⟨e, rfl⟩)) (gcT1 rfl) rfl ?_
          refine TLc.p (gc := (((r43.length : Int) == (1 : Int)))) (p_ldE (xs := r43) (a := e45) (e45 : Int) ty3 rfl rfl (fun e => optG_t he45 e) rfl rfl rfl (hg := fun e => e)) (gcT1 rfl) rfl ?_
          refine TLc.p (gc := (((r43.length : Int) == (1 : Int)))) (p_mv rfl (hg := fun e => rfl)) (gcT1 rfl) rfl ?_
          refine TLc.p (gc := (((r43.length : Int) == (1 : Int)))) (p_eql rfl rfl (hg := fun e => ⟨e, e⟩)) (gcT1 rfl) rfl ?_
          refine P1 (p_and rfl rfl (fun e => ⟨rfl, fun h => h⟩)) rfl rfl (M rfl rfl (TL.nil (hK44 _ _ ?_)))
          refine TK.ret ?_
          try dsimp only [thenQ]
          exact R1 rfl hX
        refine SR fun K46 hK46 => M rfl rfl (TL.nil (hK46 _ _ ?_))
        refine TK.block ?_
        refine SR fun K47 hK47 => P1 (p_eql rfl rfl) rfl rfl (M rfl rfl (TL.nil (hK47 _ _ ?_)))
        refine TK.cond (b := (which3 == (1 : Int))) rfl (fun hc => ?_) (fun hc => ?_)
        · have hX := ite_t hc hX
          refine SR fun K48 hK48 => P1 (p_faV fs38_3 (by decide) rfl nd (j := 1) rfl rfl) rfl rfl ?_
          refine TLc.stV (lu := Enc.cl (true : Bool)) nd ty4 rfl (j := 1) rfl rfl rfl (Cells_v (true : Bool)) rfl rfl [Enc.v c24, Enc.v c25, OL b32 l27, Enc.v true] rfl fun nd => ?_
          refine TL.nil (hK48 _ _ ?_)
          refine TK.reg ?_
          refine M rfl rfl ?_
          refine TL.cv 13 (L ([] : List Seal_api)) rfl Wk_nil ?_
          refine TL.nil ?_
          exact J35 l27 true (0 : Int) ([] : List Seal_api) _ _ ⟨b32, b31, rfl, (Nd.pick nd (is := [0, 1]) (by decide)), (HSub.pick nd (is := [0, 1]) (by decide))⟩ hX
        · have hX := ite_f hc hX
          refine SR fun K49 hK49 => P1 (p_eql rfl rfl) rfl rfl (M rfl rfl (TL.nil (hK49 _ _ ?_)))
          refine TK.cond (b := (which3 == (2 : Int))) rfl (fun hc => ?_) (fun hc => ?_)
          · have hX := ite_t hc hX
            refine SR fun K50 hK50 => ?_
            refine TLc.lit ([(3 : Int), (4 : Int)] : List Int) kd36 ty3 rfl ⟨⟨rfl, rfl⟩, ⟨rfl, rfl⟩, trivial⟩ rfl rfl rfl ?_
            refine P1 (p_bld (l := Enc.cl ((Seal_api.mk (1 : Int) (0 : Int) (1 : Int) (1 : Int) ([(3 : Int), (4 : Int)] : List Int)) : Seal_api)) ty55 rfl all55 rfl (fun _ => ⟨⟨rfl, trivial, rfl⟩, ⟨rfl, trivial, rfl⟩, ⟨rfl, trivial, rfl⟩, ⟨rfl, trivial, rfl⟩, trivial⟩)) rfl rfl ?_
            refine TLc.lit ([(Seal_api.mk (1 : Int) (0 : Int) (1 : Int) (1 : Int) ([(3 : Int), (4 : Int)] : List Int))] : List Seal_api) kd53 ty55 rfl ⟨⟨rfl, rfl⟩, trivial⟩ rfl rfl rfl ?_
            refine M rfl rfl (TL.nil (hK50 _ _ ?_))
            refine TK.reg ?_
            refine M rfl rfl (TL.nil ?_)
            exact J35 l27 c28 (0 : Int) ([(Seal_api.mk (1 : Int) (0 : Int) (1 : Int) (1 : Int) ([(3 : Int), (4 : Int)] : List Int))] : List Seal_api) _ _ ⟨b32, b31, rfl, (Nd.pick nd (is := [0, 1]) (by decide)), (HSub.pick nd (is := [0, 1]) (by decide))⟩ hX
          · have hX := ite_f hc hX
            refine SR fun K51 hK51 => P1 (p_eql rfl rfl) rfl rfl (M rfl rfl (TL.nil (hK51 _ _ ?_)))
            refine TK.cond (b := (which3 == (3 : Int))) rfl (fun hc => ?_) (fun hc => ?_)
            · have hX := ite_t hc hX
              refine SR fun K52 hK52 => M rfl rfl (P1 (p_gtr rfl rfl) rfl rfl (TL.nil (hK52 _ _ ?_)))
              refine TK.cond (b := (decide (blocks2 > (0 : Int)))) rfl (fun hc => ?_) (fun hc => ?_)
              · have hX := ite_t hc hX
                refine TK.seq_k fun K53 hK53 => ?_
                obtain ⟨e54, he54, hX⟩ := bind_some hX
                refine TK.pullD (h := [(b32, RD (β := UInt8) 24 5 b32 l27), (b31, RV 38 [Enc.v c24, Enc.v c25, OL b32 l27, Enc.v c28])]) nd (wr (blocks2 - (1 : Int))).toNat (j := 0) rfl (getI_in he54).2.2 fun b55 nd => ?_
                refine TK.reg ?_
                refine P1 (p_faV fs38_2 (by decide) rfl nd (j := 2) rfl rfl) rfl rfl (P1 (p_ldV (v := OL b32 l27) ty26 rfl rfl nd (j := 2) rfl rfl rfl rfl rfl) rfl rfl (M rfl rfl (P1 (p_sub rfl rfl) rfl rfl ?_)))
                obtain ⟨e56, he56, hX⟩ := bind_some hX
                refine P1 (p_iaD (xs := l27) kd26 ty24 rfl rfl rfl nd (j := 1) rfl rfl (fun _ => he56)) rfl rfl (P1 (p_ldC (xs := l27) (i := (wr (blocks2 - (1 : Int)))) ty24 rfl rfl nd (j := 1) rfl rfl (fun _ => he56) rfl rfl) rfl rfl ?_)
                obtain ⟨e57, he57, hX⟩ := bind_some hX
                refine P1 (p_iaO (xs := e54) kd24 ty5 rfl rfl rfl nd (j := 0) rfl (fun _ => he57)) rfl rfl ?_
                refine TLc.stW (xs := e54) (i := (7 : Int)) (lu := Enc.cl ((5 : UInt8) : UInt8)) (a' := (5 : UInt8)) nd ty5 rfl (j := 0) rfl (by simp [Enc.sz]) (inb_of he57 (by simp)) rfl (Cells_v ((5 : UInt8) : UInt8)) rfl (WkL_refl _) fun nd => ?_
                refine TL.nil (hK53 _ _ ?_)
                refine TK.pushD (h := [(b55, RL (α := UInt8) 5 (e54.set (7 : Int).toNat (5 : UInt8))), (b32, rowC (RD (β := UInt8) 24 5 b32 l27) ((wr (blocks2 - (1 : Int))).toNat) (OL b55 e54)), (b31, RV 38 [Enc.v c24, Enc.v c25, OL b32 l27, Enc.v c28])]) nd ((wr (blocks2 - (1 : Int))).toNat) (j := 1) rfl (j2 := 0) rfl rfl (by simp) (by have := getI_in he54; omega) fun nd => ?_
                refine TK.cv 88 (OL b32 (l27.set ((wr (blocks2 - (1 : Int))).toNat) (e54.set (7 : Int).toNat (5 : UInt8)))) rfl (Wk_eq (OL_len (by simp))) ?_
                refine TK.cvR nd (j := 1) rfl (l' := [Enc.v c24, Enc.v c25, OL (α := (List UInt8)) b32 (l27.set ((wr (blocks2 - (1 : Int))).toNat) (e54.set (7 : Int).toNat (5 : UInt8))), Enc.v c28]) ⟨Wk.refl _, Wk.refl _, Wk_eq (OL_len (by simp)), Wk.refl _, trivial⟩ fun nd => ?_
                refine TK.reg ?_
                refine M rfl rfl ?_
                refine TL.cv 13 (L ([] : List Seal_api)) rfl Wk_nil ?_
                refine TL.nil ?_
                exact J35 (l27.set ((wr (blocks2 - (1 : Int))).toNat) (e54.set (7 : Int).toNat (5 : UInt8))) c28 (0 : Int) ([] : List Seal_api) _ _ ⟨b32, b31, rfl, (Nd.pick nd (is := [0, 1]) (by decide)), (HSub.pick nd (is := [0, 1]) (by decide))⟩ hX
              · have hX := ite_f hc hX
                refine TK.wk 13 (L ([] : List Seal_api)) rfl Wk_nil ?_
                refine TK.skip ?_
                exact J35 l27 c28 want33 ([] : List Seal_api) _ _ ⟨b32, b31, rfl, (Nd.pick nd (is := [0, 1]) (by decide)), (HSub.pick nd (is := [0, 1]) (by decide))⟩ hX
            · have hX := ite_f hc hX
              refine TK.wk 13 (L ([] : List Seal_api)) rfl Wk_nil ?_
              refine TK.skip ?_
              exact J35 l27 c28 want33 ([] : List Seal_api) _ _ ⟨b32, b31, rfl, (Nd.pick nd (is := [0, 1]) (by decide)), (HSub.pick nd (is := [0, 1]) (by decide))⟩ hX
      refine SR fun K58 hK58 => M rfl rfl (P1 (p_eql rfl rfl) rfl rfl (M rfl rfl ?_))
      refine TLc.p (gc := ((blocks2 == (0 : Int)))) (p_mv rfl (hg := fun e => rfl)) (gcT1 rfl) rfl ?_
      refine TLc.p (gc := ((blocks2 == (0 : Int)))) (p_gtr rfl rfl (hg := fun e => ⟨e, rfl⟩)) (gcT1 rfl) rfl ?_
      refine P1 (p_and rfl rfl (fun e => ⟨rfl, fun h => h⟩)) rfl rfl (TL.nil (hK58 _ _ ?_))
      refine TK.cond (b := ((blocks2 == (0 : Int)) && (decide ((wr (most1 - blocks2)) > (0 : Int))))) rfl (fun hc => ?_) (fun hc => ?_)
      · have hX := ite_t hc hX
        refine TK.reg ?_
        refine M rfl rfl (P1 (p_sub rfl rfl) rfl rfl (M rfl rfl (TL.nil ?_)))
        exact J30 (wr ((wr (most1 - blocks2)) - (1 : Int))) _ _ ⟨b26, b23, rfl, (Nd.pick nd (is := [0, 1]) (by decide)), (HSub.pick nd (is := [0, 1]) (by decide))⟩ hX
      · have hX := ite_f hc hX
        refine TK.skip ?_
        exact J30 (wr (most1 - blocks2)) _ _ ⟨b26, b23, rfl, (Nd.pick nd (is := [0, 1]) (by decide)), (HSub.pick nd (is := [0, 1]) (by decide))⟩ hX
    refine TK.iter [0, 1, 2, 8, 9] (fun s env h => match s with | (c17, c18, l20, c21, i22) => ∃ b19 b16, env = [(0, true, Enc.v most1), (1, true, Enc.v blocks2), (2, true, Enc.v which3), (8, true, .ref b16 0 4), (9, true, Enc.v i22)] ∧ Nd [(b19, RD (β := UInt8) 24 5 b19 l20), (b16, RV 38 [Enc.v c17, Enc.v c18, OL b19 l20, Enc.v c21])] ∧ HSub [(b19, RD (β := UInt8) 24 5 b19 l20), (b16, RV 38 [Enc.v c17, Enc.v c18, OL b19 l20, Enc.v c21])] h) hO15 ⟨b12, b11, rfl, (Nd.pick nd (is := [0, 1]) (by decide)), (HSub.pick nd (is := [0, 1]) (by decide))⟩ ?_
    rintro ⟨c17, c18, l20, c21, i22⟩ env h x15x ⟨b19, b16, rfl, nd, hs⟩ hX hR15
    refine TK.subH hs ?_
    unfold X.cartridgelaw20_WriteRooms_s15 at hX
    try dsimp only at hX
    refine TK.seq_k fun K59 hK59 => ?_
    refine SR fun K60 hK60 => M rfl rfl (M rfl rfl (P1 (p_lss rfl rfl) rfl rfl (TL.nil (hK60 _ _ ?_))))
    refine TK.cond (b := (decide (i22 < blocks2))) rfl (fun hc => ?_) (fun hc => ?_)
    · have hX := ite_t hc hX
      refine TK.skip ?_
      refine hK59 _ _ ?_
      refine TK.seq_k fun K61 hK61 => ?_
      refine TK.block ?_
      refine SR fun K62 hK62 => M rfl rfl ?_
      refine TLc.p (gc := true) (p_bld (l := [Enc.v ((4 : Int) : Int), Enc.v ((3 : Int) : Int), Enc.v i22, .nils]) ty42 rfl all42 rfl (fun _ => ⟨⟨rfl, trivial, rfl⟩, ⟨rfl, trivial, rfl⟩, ⟨rfl, trivial, rfl⟩, trivial⟩)) rfl rfl (TL.wk (v' := Enc.v ((Unit_api.mk (4 : Int) (3 : Int) i22 ([] : (List UInt8))) : Unit_api)) (Wk_agg ⟨Wk.refl _, Wk.refl _, Wk.refl _, Wk_nil, trivial⟩) ?_)
      obtain ⟨r63, hr63, hX⟩ := bind_some hX
      refine TL.tcX [] [(b19, RD (β := UInt8) 24 5 b19 l20), (b16, RV 38 [Enc.v c17, Enc.v c18, OL b19 l20, Enc.v c21])] rfl nd (dlt rfl) rfl ⟨rfl, ⟨rfl, trivial⟩⟩ (ok_cartridgeref1_PutFrame_or (Unit_api.mk (4 : Int) (3 : Int) i22 ([] : (List UInt8))) (Nd.take nd 0 rfl) _ hr63) ?_
      rintro _ _ hQ nd
      obtain ⟨b64, rfl, rfl⟩ := hQ
      refine M rfl rfl (P1 (p_ex rfl rfl (by decide)) rfl rfl (P1 (p_ex rfl rfl (by decide)) rfl rfl (M rfl rfl (M rfl rfl (TL.nil (hK62 _ _ ?_))))))
      refine TK.reg ?_
      refine P1 (p_faV fs38_2 (by decide) rfl nd (j := 2) rfl rfl) rfl rfl (P1 (p_ldV (v := OL b19 l20) ty26 rfl rfl nd (j := 2) rfl rfl rfl rfl rfl) rfl rfl (M rfl rfl ?_))
      refine TLc.litP nd kd26 ty24 rfl rfl (j := 0) rfl rfl ?_
      obtain ⟨u65, hu65, hX⟩ := bind_some hX
      refine TLc.appD nd kd26 bo26 ty24 rfl rfl (j := 1) rfl (j2 := 0) rfl rfl (by decide) (need_t hu65) rfl fun nd => ?_
      refine P1 (p_faV fs38_2 (by decide) rfl nd (j := 2) rfl rfl) rfl rfl ?_
      refine TLc.stV (lu := [OL (α := (List UInt8)) b19 (l20 ++ ([r63.1] : List (List UInt8)))]) nd ty26 rfl (j := 2) rfl rfl rfl (Cells_rs (refOK_of nd (j := 1) rfl rfl)) rfl rfl [Enc.v c17, Enc.v c18, OL (α := (List UInt8)) b19 (l20 ++ ([r63.1] : List (List UInt8))), Enc.v c21] rfl fun nd => ?_
      refine TL.nil (hK61 _ _ ?_)
      refine TK.pushA (h := [(b64, RL (α := UInt8) 5 r63.1), (b19, rowC (RD (β := UInt8) 24 5 b19 (l20 ++ ([r63.1] : List (List UInt8)))) l20.length (OL b64 r63.1)), (b16, RV 38 [Enc.v c17, Enc.v c18, OL (α := (List UInt8)) b19 (l20 ++ ([r63.1] : List (List UInt8))), Enc.v c21])]) nd (j := 1) rfl (j2 := 0) rfl rfl fun nd => ?_
      refine TK.reg ?_
      refine M rfl rfl (P1 (p_add rfl rfl) rfl rfl (M rfl rfl (TL.nil ?_)))
      exact ⟨_, (some_in hX).symm, b19, b16, rfl, (Nd.pick nd (is := [0, 1]) (by decide)), (HSub.pick nd (is := [0, 1]) (by decide))⟩
    · have hX := ite_f hc hX
      refine TK.exit ?_
      obtain rfl := hR15 _ (some_in hX).symm
      exact E15 c17 c18 l20 c21 _ _ ⟨b19, b16, rfl, (Nd.pick nd (is := [0, 1]) (by decide)), (HSub.pick nd (is := [0, 1]) (by decide))⟩ hA15

end Go.Proofs.YtliahlgkinhjlaaDoor
