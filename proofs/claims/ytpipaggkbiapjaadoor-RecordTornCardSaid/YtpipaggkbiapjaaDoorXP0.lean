import Derived.Test.YtpipaggkbiapjaaDoorXFn
import Derived.Test.YtpipaggkbiapjaaDoorXS
import Derived.Test.YtpipaggkbiapjaaDoorAmK0
import Derived.Test.YtpipaggkbiapjaaDoorSh
/- That they do. -/
namespace Go.Proofs.YtpipaggkbiapjaaDoor
open Go.AM Go.AX
set_option linter.unusedVariables false
set_option maxRecDepth 20000

/-- slices.Clone[[]byte,byte] -/
theorem ok_slices_Clone_Lbyte_byte (s1 : (List UInt8)) (r : (List UInt8)) (hX : X.slices_Clone_Lbyte_byte s1 = some r) : Fun Tryd.prog 63 [Enc.v (s1 : (List UInt8))] (· = Enc.v (r : (List UInt8))) := by
  refine Fun.of b63 (Nat.le_of_ble_eq_true rfl) (allVal.mem ⟨(by exact (v_val _)), trivial⟩) ?_
  unfold k63
  have nd : Nd [] := Nd_nil
  unfold X.slices_Clone_Lbyte_byte at hX
  refine TK.seq_k fun K2 hK2 => ?_
  refine TK.reg ?_
  refine TL.p (C := cx) (gc := true) (p_mv rfl) rfl rfl ?_
  refine TL.nil ?_
  refine hK2 _ _ ?_
  refine TK.seq_k fun K3 hK3 => ?_
  refine TK.seq_k fun K4 hK4 => ?_
  refine TK.reg ?_
  refine TL.p (C := cx) (gc := true) (p_mv rfl) rfl rfl ?_
  refine TL.eqNilU (C := cx) (xs := s1) kd32 rfl rfl rfl fun z5 hbz5 => ?_
  replace hX := nilU_t hX hbz5
  refine TL.nil ?_
  refine hK4 _ _ ?_
  refine TK.cond (b := z5) rfl (fun hc => ?_) (fun hc => ?_)
  · have hX := ite_t hc hX
    refine TK.seq_k fun K6 hK6 => ?_
    refine TK.reg ?_
    refine TL.p (C := cx) (gc := true) (p_mv rfl) rfl rfl ?_
    refine TL.nil ?_
    refine hK6 _ _ ?_
    refine TK.wk 2 (L ([] : (List UInt8))) rfl Wk_nil ?_
    refine TK.ret ?_
    try dsimp only [thenQ]
    exact ret1 (v := Enc.v (([] : (List UInt8)) : (List UInt8))) rfl (by obtain rfl := some_in hX; rfl) (v_val _)
  · have hX := ite_f hc hX
    refine TK.skip ?_
    refine hK3 _ _ ?_
    refine TK.seq_k fun K7 hK7 => ?_
    refine TK.reg ?_
    refine TL.litZ (C := cx) kd32 ty5 rfl ?_
    refine TL.p (C := cx) (gc := true) (p_mv rfl) rfl rfl ?_
    obtain ⟨u9, hu9, hX⟩ := bind_some hX
    refine TL.appN (C := cx) nd kd32 bo32 ty5 rfl rfl (.inr rfl) rfl (Src_L _) (by decide) (need_t hu9) rfl fun b10 nd => ?_
    refine TL.p (C := cx) (gc := true) (p_mv rfl) rfl rfl ?_
    refine TL.nil ?_
    refine hK7 _ _ ?_
    refine TK.lay [(2, L s1)] nd (j := 0) rfl ⟨⟨_, rfl, fix_OL nd (j := 0) rfl, rfl⟩, trivial⟩ fun nd => ?_
    refine TK.ret ?_
    try dsimp only [thenQ]
    exact ret1 (v := Enc.v (s1 : (List UInt8))) rfl (by obtain rfl := some_in hX; rfl) (v_val _)

/-- cartridge/code.NewReader -/
theorem ok_code_NewReader (b1 : (List UInt8)) (nd : Nd []) (r : ((List UInt8) × Bool)) (hX : X.code_NewReader b1 = some r) : TCX Tryd.prog 41 [Enc.v (b1 : (List UInt8))] [] (fun rv h' => ∃ b6, rv = .ref b6 0 2 ∧ h' = [(b6, RV 87 [Enc.v (r.1 : (List UInt8)), Enc.v (r.2 : Bool)])]) := by
  refine TCX.of b41 (Nat.le_of_ble_eq_true rfl) ?_
  unfold k41
  unfold X.code_NewReader at hX
  refine TK.seq_k fun K2 hK2 => ?_
  refine TK.reg ?_
  refine TL.p (C := cx) (gc := true) (p_mv rfl) rfl rfl ?_
  refine TL.nil ?_
  refine hK2 _ _ ?_
  refine TK.seq_k fun K3 hK3 => ?_
  refine TK.reg ?_
  refine TL.p (C := cx) (gc := true) (p_mv rfl) rfl rfl ?_
  obtain ⟨r4, hr4, hX⟩ := bind_some hX
  refine TL.cvX rfl rfl rfl (fun _ => ⟨rfl, ⟨rfl, trivial⟩⟩) (fun e => ok_slices_Clone_Lbyte_byte b1 _ hr4) ?_
  refine TL.p (C := cx) (gc := true) (p_bld (l := Enc.cl ((Reader_code.mk r4 false) : Reader_code)) ty87 rfl all87 rfl (fun _ => ⟨⟨rfl, trivial, rfl⟩, trivial⟩)) rfl rfl ?_
  refine TL.boxO (C := cx) (lu := [Enc.v ((Reader_code.mk r4 false).b_ : (List UInt8)), Enc.v ((Reader_code.mk r4 false).bad_ : Bool)]) nd rfl (Cells_v ((Reader_code.mk r4 false) : Reader_code)) rfl fun b5 nd => ?_
  refine TL.p (C := cx) (gc := true) (p_mv rfl) rfl rfl ?_
  refine TL.nil ?_
  refine hK3 _ _ ?_
  refine TK.ret ?_
  try dsimp only [thenQ]
  exact retX (v := .ref b5 0 2) (res1 rfl) (by obtain rfl := some_in hX; exact ⟨b5, rfl, rfl⟩) nd (inH_ref nd (j := 0) rfl) ⟨rowIn_RV ⟨inH_val (v_val _), inH_val (v_val _), trivial⟩, trivial⟩

/-- (*cartridge/code.Reader).take -/
theorem ok_code_Reader_take (n4 : Int) (b1 : (List UInt8)) (bad2 : Bool) (b3 : Nat) (nd : Nd [(b3, RV 87 [Enc.v (b1 : (List UInt8)), Enc.v (bad2 : Bool)])]) (r : ((List UInt8) × ((List UInt8) × Bool))) (hX : X.code_Reader_take n4 b1 bad2 = some r) : TCX Tryd.prog 64 [.ref b3 0 2, Enc.v (n4 : Int)] [(b3, RV 87 [Enc.v (b1 : (List UInt8)), Enc.v (bad2 : Bool)])] (fun rv h' => rv = Enc.v (r.1 : (List UInt8)) ∧ h' = [(b3, RV 87 [Enc.v (r.2.1 : (List UInt8)), Enc.v (r.2.2 : Bool)])]) := by
  refine TCX.of b64 (Nat.le_of_ble_eq_true rfl) ?_
  unfold k64
  unfold X.code_Reader_take at hX
  refine TK.seq_k fun K5 hK5 => ?_
  refine TK.reg ?_
  refine TL.p (C := cx) (gc := true) (p_mv rfl) rfl rfl ?_
  refine TL.nil ?_
  refine hK5 _ _ ?_
  refine TK.seq_k fun K6 hK6 => ?_
  refine TK.seq_k fun K7 hK7 => ?_
  refine TK.reg ?_
  refine TL.p (C := cx) (gc := true) (p_mv rfl) rfl rfl ?_
  refine TL.p (C := cx) (gc := true) (p_eqP kd64 rfl rfl (fun _ => refOK_of nd (j := 0) rfl rfl)) rfl rfl ?_
  refine TL.p (C := cx) (gc := true) (p_mv rfl) rfl rfl ?_
  refine TL.guardT rfl ?_
  refine TL.p (C := cx) (gc := true) (p_mv rfl) rfl rfl ?_
  refine TL.guardT rfl ?_
  refine TL.p (C := cx) (gc := true) (p_ncR rfl (fun _ => refOK_of nd (j := 0) rfl rfl)) rfl rfl ?_
  refine TL.guardT rfl ?_
  refine TL.p (C := cx) (gc := true) (p_faV fs87_1 (by decide) rfl nd (j := 0) rfl rfl) rfl rfl ?_
  refine TL.guardT rfl ?_
  refine TL.p (C := cx) (gc := true) (p_ldV (v := Enc.v (bad2 : Bool)) ty4 rfl rfl nd (j := 0) rfl rfl rfl rfl rfl) rfl rfl ?_
  refine TL.p (C := cx) (gc := true) (p_or rfl rfl (fun e => ⟨rfl, fun h => rfl⟩)) rfl rfl ?_
  refine TL.nil ?_
  refine hK7 _ _ ?_
  refine TK.cond (b := bad2) rfl (fun hc => ?_) (fun hc => ?_)
  · have hX := ite_t hc hX
    refine TK.seq_k fun K8 hK8 => ?_
    refine TK.reg ?_
    refine TL.p (C := cx) (gc := true) (p_mv rfl) rfl rfl ?_
    refine TL.nil ?_
    refine hK8 _ _ ?_
    refine TK.wk 4 (L ([] : (List UInt8))) rfl Wk_nil ?_
    refine TK.ret ?_
    try dsimp only [thenQ]
    exact retX (v := Enc.v (([] : (List UInt8)) : (List UInt8))) (res1 rfl) (by obtain rfl := some_in hX; exact ⟨rfl, rfl⟩) nd (inH_val (v_val _)) ⟨rowIn_RV ⟨inH_val (v_val _), inH_val (v_val _), trivial⟩, trivial⟩
  · have hX := ite_f hc hX
    refine TK.skip ?_
    refine hK6 _ _ ?_
    refine TK.seq_k fun K9 hK9 => ?_
    refine TK.seq_k fun K10 hK10 => ?_
    refine TK.reg ?_
    refine TL.p (C := cx) (gc := true) (p_mv rfl) rfl rfl ?_
    refine TL.p (C := cx) (gc := true) (p_mv rfl) rfl rfl ?_
    refine TL.p (C := cx) (gc := true) (p_ncR rfl (fun _ => refOK_of nd (j := 0) rfl rfl)) rfl rfl ?_
    refine TL.p (C := cx) (gc := true) (p_faV fs87_0 (by decide) rfl nd (j := 0) rfl rfl) rfl rfl ?_
    refine TL.p (C := cx) (gc := true) (p_ldV (v := Enc.v (b1 : (List UInt8))) ty32 rfl rfl nd (j := 0) rfl rfl rfl rfl rfl) rfl rfl ?_
    refine TL.p (C := cx) (gc := true) (p_lenL (xs := b1) kd32 rfl) rfl rfl ?_
    refine TL.p (C := cx) (gc := true) (p_gtr rfl rfl) rfl rfl ?_
    refine TL.nil ?_
    refine hK10 _ _ ?_
    refine TK.cond (b := (decide (n4 > (b1.length : Int)))) rfl (fun hc => ?_) (fun hc => ?_)
    · have hX := ite_t hc hX
      refine TK.seq_k fun K11 hK11 => ?_
      refine TK.reg ?_
      refine TL.p (C := cx) (gc := true) (p_mv rfl) rfl rfl ?_
      refine TL.p (C := cx) (gc := true) (p_mv rfl) rfl rfl ?_
      refine TL.p (C := cx) (gc := true) (p_ncR rfl (fun _ => refOK_of nd (j := 0) rfl rfl)) rfl rfl ?_
      refine TL.p (C := cx) (gc := true) (p_faV fs87_0 (by decide) rfl nd (j := 0) rfl rfl) rfl rfl ?_
      refine TL.stV (C := cx) (lu := [.nils]) nd ty32 rfl (j := 0) rfl rfl rfl (Cells_one trivial) rfl rfl [.nils, Enc.v (bad2 : Bool)] rfl fun nd => ?_
      refine TL.p (C := cx) (gc := true) (p_ncR rfl (fun _ => refOK_of nd (j := 0) rfl rfl)) rfl rfl ?_
      refine TL.p (C := cx) (gc := true) (p_faV fs87_1 (by decide) rfl nd (j := 0) rfl rfl) rfl rfl ?_
      refine TL.stV (C := cx) (lu := Enc.cl (true : Bool)) nd ty4 rfl (j := 0) rfl rfl rfl (Cells_v (true : Bool)) rfl rfl [.nils, Enc.v (true : Bool)] rfl fun nd => ?_
      refine TL.nil ?_
      refine hK11 _ _ ?_
      refine TK.cvR nd (j := 0) rfl (l' := [Enc.v (([] : (List UInt8)) : (List UInt8)), Enc.v (true : Bool)]) ⟨Wk_nil, Wk.refl _, trivial⟩ fun nd => ?_
      refine TK.seq_k fun K12 hK12 => ?_
      refine TK.reg ?_
      refine TL.p (C := cx) (gc := true) (p_mv rfl) rfl rfl ?_
      refine TL.nil ?_
      refine hK12 _ _ ?_
      refine TK.wk 4 (L ([] : (List UInt8))) rfl Wk_nil ?_
      refine TK.ret ?_
      try dsimp only [thenQ]
      exact retX (v := Enc.v (([] : (List UInt8)) : (List UInt8))) (res1 rfl) (by obtain rfl := some_in hX; exact ⟨rfl, rfl⟩) nd (inH_val (v_val _)) ⟨rowIn_RV ⟨inH_val (v_val _), inH_val (v_val _), trivial⟩, trivial⟩
    · have hX := ite_f hc hX
      refine TK.skip ?_
      refine hK9 _ _ ?_
      refine TK.seq_k fun K13 hK13 => ?_
      refine TK.reg ?_
      refine TL.p (C := cx) (gc := true) (p_mv rfl) rfl rfl ?_
      refine TL.p (C := cx) (gc := true) (p_ncR rfl (fun _ => refOK_of nd (j := 0) rfl rfl)) rfl rfl ?_
      refine TL.p (C := cx) (gc := true) (p_faV fs87_0 (by decide) rfl nd (j := 0) rfl rfl) rfl rfl ?_
      refine TL.p (C := cx) (gc := true) (p_ldV (v := Enc.v (b1 : (List UInt8))) ty32 rfl rfl nd (j := 0) rfl rfl rfl rfl rfl) rfl rfl ?_
      refine TL.p (C := cx) (gc := true) (p_mv rfl) rfl rfl ?_
      obtain ⟨u14, hu14, hX⟩ := bind_some hX
      refine TL.p (C := cx) (gc := true) (p_sliL (xs := b1) (l := (0 : Int)) (k := n4) kd32 ty5 rfl rfl rfl rfl (fun e => need_t hu14)) rfl rfl ?_
      refine TL.p (C := cx) (gc := true) (p_mv rfl) rfl rfl ?_
      refine TL.nil ?_
      refine hK13 _ _ ?_
      refine TK.seq_k fun K15 hK15 => ?_
      refine TK.reg ?_
      refine TL.p (C := cx) (gc := true) (p_mv rfl) rfl rfl ?_
      refine TL.p (C := cx) (gc := true) (p_mv rfl) rfl rfl ?_
      refine TL.p (C := cx) (gc := true) (p_ncR rfl (fun _ => refOK_of nd (j := 0) rfl rfl)) rfl rfl ?_
      refine TL.p (C := cx) (gc := true) (p_faV fs87_0 (by decide) rfl nd (j := 0) rfl rfl) rfl rfl ?_
      refine TL.p (C := cx) (gc := true) (p_ldV (v := Enc.v (b1 : (List UInt8))) ty32 rfl rfl nd (j := 0) rfl rfl rfl rfl rfl) rfl rfl ?_
      refine TL.p (C := cx) (gc := true) (p_mv rfl) rfl rfl ?_
      obtain ⟨u16, hu16, hX⟩ := bind_some hX
      refine TL.p (C := cx) (gc := true) (p_sliL (xs := b1) (l := n4) (k := (b1.length : Int)) kd32 ty5 rfl rfl rfl rfl (fun e => need_t hu16)) rfl rfl ?_
      refine TL.p (C := cx) (gc := true) (p_ncR rfl (fun _ => refOK_of nd (j := 0) rfl rfl)) rfl rfl ?_
      refine TL.p (C := cx) (gc := true) (p_faV fs87_0 (by decide) rfl nd (j := 0) rfl rfl) rfl rfl ?_
      refine TL.stV (C := cx) (lu := Enc.cl ((slc b1 n4 (b1.length : Int)) : (List UInt8))) nd ty32 rfl (j := 0) rfl rfl rfl (Cells_v ((slc b1 n4 (b1.length : Int)) : (List UInt8))) rfl rfl [Enc.v ((slc b1 n4 (b1.length : Int)) : (List UInt8)), Enc.v (bad2 : Bool)] rfl fun nd => ?_
      refine TL.nil ?_
      refine hK15 _ _ ?_
      refine TK.seq_k fun K17 hK17 => ?_
      refine TK.reg ?_
      refine TL.p (C := cx) (gc := true) (p_mv rfl) rfl rfl ?_
      refine TL.p (C := cx) (gc := true) (p_mv rfl) rfl rfl ?_
      refine TL.nil ?_
      refine hK17 _ _ ?_
      refine TK.ret ?_
      try dsimp only [thenQ]
      exact retX (v := Enc.v ((slc b1 (0 : Int) n4) : (List UInt8))) (res1 rfl) (by obtain rfl := some_in hX; exact ⟨rfl, rfl⟩) nd (inH_val (v_val _)) ⟨rowIn_RV ⟨inH_val (v_val _), inH_val (v_val _), trivial⟩, trivial⟩

/-- (*cartridge/code.Reader).Byte -/
theorem ok_code_Reader_Byte (b1 : (List UInt8)) (bad2 : Bool) (b3 : Nat) (nd : Nd [(b3, RV 87 [Enc.v (b1 : (List UInt8)), Enc.v (bad2 : Bool)])]) (r : (UInt8 × ((List UInt8) × Bool))) (hX : X.code_Reader_Byte b1 bad2 = some r) : TCX Tryd.prog 44 [.ref b3 0 2] [(b3, RV 87 [Enc.v (b1 : (List UInt8)), Enc.v (bad2 : Bool)])] (fun rv h' => rv = Enc.v (r.1 : UInt8) ∧ h' = [(b3, RV 87 [Enc.v (r.2.1 : (List UInt8)), Enc.v (r.2.2 : Bool)])]) := by
  refine TCX.of b44 (Nat.le_of_ble_eq_true rfl) ?_
  unfold k44
  unfold X.code_Reader_Byte at hX
  refine TK.seq_k fun K4 hK4 => ?_
  refine TK.reg ?_
  refine TL.p (C := cx) (gc := true) (p_mv rfl) rfl rfl ?_
  refine TL.nil ?_
  refine hK4 _ _ ?_
  refine TK.seq_k fun K5 hK5 => ?_
  refine TK.reg ?_
  refine TL.p (C := cx) (gc := true) (p_mv rfl) rfl rfl ?_
  obtain ⟨r6, hr6, hX⟩ := bind_some hX
  refine TL.tcX [(b3, RV 87 [Enc.v (b1 : (List UInt8)), Enc.v (bad2 : Bool)])] [] rfl nd (dlt rfl) rfl ⟨rfl, ⟨rfl, ⟨rfl, trivial⟩⟩⟩ (ok_code_Reader_take (1 : Int) b1 bad2 b3 (Nd.take nd 1 rfl) _ hr6) ?_
  rintro _ _ hQ nd
  obtain ⟨rfl, rfl⟩ := hQ
  refine TL.p (C := cx) (gc := true) (p_mv rfl) rfl rfl ?_
  refine TL.nil ?_
  refine hK5 _ _ ?_
  refine TK.seq_k fun K8 hK8 => ?_
  refine TK.seq_k fun K9 hK9 => ?_
  refine TK.reg ?_
  refine TL.p (C := cx) (gc := true) (p_mv rfl) rfl rfl ?_
  refine TL.p (C := cx) (gc := true) (p_lenL (xs := r6.1) kd32 rfl) rfl rfl ?_
  refine TL.p (C := cx) (gc := true) (p_eql rfl rfl) rfl rfl ?_
  refine TL.nil ?_
  refine hK9 _ _ ?_
  refine TK.cond (b := ((r6.1.length : Int) == (0 : Int))) rfl (fun hc => ?_) (fun hc => ?_)
  · have hX := ite_t hc hX
    refine TK.seq_k fun K10 hK10 => ?_
    refine TK.reg ?_
    refine TL.p (C := cx) (gc := true) (p_mv rfl) rfl rfl ?_
    refine TL.nil ?_
    refine hK10 _ _ ?_
    refine TK.ret ?_
    try dsimp only [thenQ]
    exact retX (v := Enc.v ((0 : UInt8) : UInt8)) (res1 rfl) (by obtain rfl := some_in hX; exact ⟨rfl, rfl⟩) nd (inH_val (v_val _)) ⟨rowIn_RV ⟨inH_val (v_val _), inH_val (v_val _), trivial⟩, trivial⟩
  · have hX := ite_f hc hX
    refine TK.skip ?_
    refine hK8 _ _ ?_
    refine TK.seq_k fun K11 hK11 => ?_
    refine TK.reg ?_
    refine TL.p (C := cx) (gc := true) (p_mv rfl) rfl rfl ?_
    obtain ⟨e12, he12, hX⟩ := bind_some hX
    refine TL.p (C := cx) (gc := true) (p_iaL (xs := r6.1) kd32 ty5 rfl rfl rfl (fun _ => he12)) rfl rfl ?_
    refine TL.p (C := cx) (gc := true) (p_ldE (xs := r6.1) (a := e12) (e12 : UInt8) ty5 rfl rfl (fun _ => he12) rfl rfl rfl) rfl rfl ?_
    refine TL.p (C := cx) (gc := true) (p_mv rfl) rfl rfl ?_
    refine TL.nil ?_
    refine hK11 _ _ ?_
    refine TK.ret ?_
    try dsimp only [thenQ]
    exact retX (v := Enc.v (e12 : UInt8)) (res1 rfl) (by obtain rfl := some_in hX; exact ⟨rfl, rfl⟩) nd (inH_val (v_val _)) ⟨rowIn_RV ⟨inH_val (v_val _), inH_val (v_val _), trivial⟩, trivial⟩

/-- (*cartridge/code.Reader).Text -/
theorem ok_code_Reader_Text (b1 : (List UInt8)) (bad2 : Bool) (b3 : Nat) (nd : Nd [(b3, RV 87 [Enc.v (b1 : (List UInt8)), Enc.v (bad2 : Bool)])]) (r : (Str × ((List UInt8) × Bool))) (hX : X.code_Reader_Text b1 bad2 = some r) : TCX Tryd.prog 42 [.ref b3 0 2] [(b3, RV 87 [Enc.v (b1 : (List UInt8)), Enc.v (bad2 : Bool)])] (fun rv h' => rv = Enc.v (r.1 : Str) ∧ h' = [(b3, RV 87 [Enc.v (r.2.1 : (List UInt8)), Enc.v (r.2.2 : Bool)])]) := by
  refine TCX.of b42 (Nat.le_of_ble_eq_true rfl) ?_
  unfold k42
  unfold X.code_Reader_Text at hX
  refine TK.seq_k fun K4 hK4 => ?_
  refine TK.reg ?_
  refine TL.p (C := cx) (gc := true) (p_mv rfl) rfl rfl ?_
  refine TL.nil ?_
  refine hK4 _ _ ?_
  refine TK.seq_k fun K5 hK5 => ?_
  refine TK.reg ?_
  refine TL.p (C := cx) (gc := true) (p_mv rfl) rfl rfl ?_
  refine TL.p (C := cx) (gc := true) (p_mv rfl) rfl rfl ?_
  obtain ⟨r6, hr6, hX⟩ := bind_some hX
  refine TL.tcX [(b3, RV 87 [Enc.v (b1 : (List UInt8)), Enc.v (bad2 : Bool)])] [] rfl nd (dlt rfl) rfl ⟨rfl, ⟨rfl, trivial⟩⟩ (ok_code_Reader_Byte b1 bad2 b3 (Nd.take nd 1 rfl) _ hr6) ?_
  rintro _ _ hQ nd
  obtain ⟨rfl, rfl⟩ := hQ
  refine TL.p (C := cx) (gc := true) (p_cvt src5 kd3 rfl (cv_8 r6.1)) rfl rfl ?_
  obtain ⟨r8, hr8, hX⟩ := bind_some hX
  refine TL.tcX [(b3, RV 87 [Enc.v (r6.2.1 : (List UInt8)), Enc.v (r6.2.2 : Bool)])] [] rfl nd (dlt rfl) rfl ⟨rfl, ⟨rfl, ⟨rfl, trivial⟩⟩⟩ (ok_code_Reader_take (r6.1.toNat : Int) r6.2.1 r6.2.2 b3 (Nd.take nd 1 rfl) _ hr8) ?_
  rintro _ _ hQ nd
  obtain ⟨rfl, rfl⟩ := hQ
  refine TL.ofV (gc := true) (vok_cvtBS (C := cx) (gc := true) (xs := r8.1) kd32 kd5 kd9 rfl (look_v (v := Enc.v (r8.1 : (List UInt8))) (v_val _))) rfl rfl ?_
  refine TL.p (C := cx) (gc := true) (p_mv rfl) rfl rfl ?_
  refine TL.nil ?_
  refine hK5 _ _ ?_
  refine TK.ret ?_
  try dsimp only [thenQ]
  exact retX (v := Enc.v ((Str.mk r8.1) : Str)) (res1 rfl) (by obtain rfl := some_in hX; exact ⟨rfl, rfl⟩) nd (inH_val (v_val _)) ⟨rowIn_RV ⟨inH_val (v_val _), inH_val (v_val _), trivial⟩, trivial⟩

/-- (*cartridge/code.Reader).Int -/
theorem ok_code_Reader_Int (b1 : (List UInt8)) (bad2 : Bool) (b3 : Nat) (nd : Nd [(b3, RV 87 [Enc.v (b1 : (List UInt8)), Enc.v (bad2 : Bool)])]) (r : (Int × ((List UInt8) × Bool))) (hX : X.code_Reader_Int b1 bad2 = some r) : TCX Tryd.prog 43 [.ref b3 0 2] [(b3, RV 87 [Enc.v (b1 : (List UInt8)), Enc.v (bad2 : Bool)])] (fun rv h' => rv = Enc.v (r.1 : Int) ∧ h' = [(b3, RV 87 [Enc.v (r.2.1 : (List UInt8)), Enc.v (r.2.2 : Bool)])]) := by
  refine TCX.of b43 (Nat.le_of_ble_eq_true rfl) ?_
  unfold k43
  unfold X.code_Reader_Int at hX
  refine TK.seq_k fun K4 hK4 => ?_
  refine TK.reg ?_
  refine TL.p (C := cx) (gc := true) (p_mv rfl) rfl rfl ?_
  refine TL.nil ?_
  refine hK4 _ _ ?_
  refine TK.seq_k fun K5 hK5 => ?_
  refine TK.reg ?_
  refine TL.p (C := cx) (gc := true) (p_mv rfl) rfl rfl ?_
  refine TL.nil ?_
  refine hK5 _ _ ?_
  refine TK.seq_k fun K6 hK6 => ?_
  refine TK.seq_k fun K7 hK7 => ?_
  refine TK.reg ?_
  refine TL.p (C := cx) (gc := true) (p_mv rfl) rfl rfl ?_
  obtain ⟨r8, hr8, hX⟩ := bind_some hX
  refine TL.tcX [(b3, RV 87 [Enc.v (b1 : (List UInt8)), Enc.v (bad2 : Bool)])] [] rfl nd (dlt rfl) rfl ⟨rfl, ⟨rfl, ⟨rfl, trivial⟩⟩⟩ (ok_code_Reader_take (4 : Int) b1 bad2 b3 (Nd.take nd 1 rfl) _ hr8) ?_
  rintro _ _ hQ nd
  obtain ⟨rfl, rfl⟩ := hQ
  refine TL.p (C := cx) (gc := true) (p_lenL (xs := r8.1) kd32 rfl) rfl rfl ?_
  refine TL.p (C := cx) (gc := true) (p_mv rfl) rfl rfl ?_
  refine TL.nil ?_
  refine hK7 _ _ ?_
  refine TK.block ?_
  obtain ⟨o10, hO10, hA10⟩ := bind_some hX
  have E10 : ∀ (n15 : UInt32) (env : Env) (h : Hp), (∃ _u : Unit, keepE [0, 3] env = [(0, true, .ref b3 0 2), (3, true, Enc.v (n15 : UInt32))] ∧ Nd [(b3, RV 87 [Enc.v (r8.2.1 : (List UInt8)), Enc.v (r8.2.2 : Bool)])] ∧ HSub [(b3, RV 87 [Enc.v (r8.2.1 : (List UInt8)), Enc.v (r8.2.2 : Bool)])] h) → X.code_Reader_Int_e10 r8 n15 = some r → K6 env h := by
    intro n15 env h hE hX
    obtain ⟨_u, henv, nd, hs⟩ := hE
    unfold X.code_Reader_Int_e10 at hX
    refine hK6 _ _ (TK.keep [0, 3] ?_)
    rw [henv]
    refine TK.subH hs ?_
    refine TK.seq_k fun K16 hK16 => ?_
    refine TK.reg ?_
    refine TL.p (C := cx) (gc := true) (p_mv rfl) rfl rfl ?_
    refine TL.p (C := cx) (gc := true) (p_cvt src83 kd3 rfl (cv_32 n15)) rfl rfl ?_
    refine TL.p (C := cx) (gc := true) (p_mv rfl) rfl rfl ?_
    refine TL.nil ?_
    refine hK16 _ _ ?_
    refine TK.ret ?_
    try dsimp only [thenQ]
    exact retX (v := Enc.v ((n15.toNat : Int) : Int)) (res1 rfl) (by obtain rfl := some_in hX; exact ⟨rfl, rfl⟩) nd (inH_val (v_val _)) ⟨rowIn_RV ⟨inH_val (v_val _), inH_val (v_val _), trivial⟩, trivial⟩
  refine TK.iter [0, 3, 7, 8, 9] (fun s env h => match s with | (n12, x13) => ∃ _u : Unit, env = [(0, true, .ref b3 0 2), (3, true, Enc.v (n12 : UInt32)), (7, true, Enc.v (r8.1 : (List UInt8))), (8, true, Enc.v ((r8.1.length : Int) : Int)), (9, true, Enc.v (x13 : Int))] ∧ Nd [(b3, RV 87 [Enc.v (r8.2.1 : (List UInt8)), Enc.v (r8.2.2 : Bool)])] ∧ HSub [(b3, RV 87 [Enc.v (r8.2.1 : (List UInt8)), Enc.v (r8.2.2 : Bool)])] h) hO10 ⟨(), rfl, (Nd.pick nd (is := [0]) (by decide)), (HSub.pick nd (is := [0]) (by decide))⟩ ?_
  rintro ⟨n12, x13⟩ env h x10x ⟨_u, rfl, nd, hs⟩ hX hR10
  refine TK.subH hs ?_
  unfold X.code_Reader_Int_s10 at hX
  try dsimp only at hX
  refine TK.seq_k fun K17 hK17 => ?_
  refine TK.reg ?_
  refine TL.p (C := cx) (gc := true) (p_lss rfl rfl) rfl rfl ?_
  refine TL.nil ?_
  refine hK17 _ _ ?_
  refine TK.seq_k fun K18 hK18 => ?_
  refine TK.cond (b := (decide (x13 < (r8.1.length : Int)))) rfl (fun hc => ?_) (fun hc => ?_)
  · have hX := ite_t hc hX
    refine TK.skip ?_
    refine hK18 _ _ ?_
    refine TK.seq_k fun K19 hK19 => ?_
    refine TK.block ?_
    refine TK.seq_k fun K20 hK20 => ?_
    refine TK.reg ?_
    obtain ⟨e21, he21, hX⟩ := bind_some hX
    refine TL.p (C := cx) (gc := true) (p_iaL (xs := r8.1) kd32 ty5 rfl rfl rfl (fun _ => he21)) rfl rfl ?_
    refine TL.p (C := cx) (gc := true) (p_ldE (xs := r8.1) (a := e21) (e21 : UInt8) ty5 rfl rfl (fun _ => he21) rfl rfl rfl) rfl rfl ?_
    refine TL.p (C := cx) (gc := true) (p_mv rfl) rfl rfl ?_
    refine TL.nil ?_
    refine hK20 _ _ ?_
    refine TK.reg ?_
    refine TL.p (C := cx) (gc := true) (p_mv rfl) rfl rfl ?_
    refine TL.p (C := cx) (gc := true) (p32_shl (a := n12) (b := 8) rfl rfl) rfl rfl ?_
    refine TL.p (C := cx) (gc := true) (p_mv rfl) rfl rfl ?_
    refine TL.p (C := cx) (gc := true) (p_cvt src5 kd83 rfl (cv_u32 _)) rfl rfl ?_
    refine TL.p (C := cx) (gc := true) (p32_or (a := (shl32 n12 8)) (b := (u32 (e21.toNat : Int))) rfl rfl) rfl rfl ?_
    refine TL.p (C := cx) (gc := true) (p_mv rfl) rfl rfl ?_
    refine TL.nil ?_
    refine hK19 _ _ ?_
    refine TK.reg ?_
    refine TL.p (C := cx) (gc := true) (p_add rfl rfl) rfl rfl ?_
    refine TL.p (C := cx) (gc := true) (p_mv rfl) rfl rfl ?_
    refine TL.nil ?_
    exact ⟨_, (some_in hX).symm, (), rfl, (Nd.pick nd (is := [0]) (by decide)), (HSub.pick nd (is := [0]) (by decide))⟩
  · have hX := ite_f hc hX
    refine TK.exit ?_
    obtain rfl := hR10 _ (some_in hX).symm
    exact E10 n12 _ _ ⟨(), rfl, (Nd.pick nd (is := [0]) (by decide)), (HSub.pick nd (is := [0]) (by decide))⟩ hA10

/-- (*cartridge/code.Reader).Bad -/
theorem ok_code_Reader_Bad (b1 : (List UInt8)) (bad2 : Bool) (r : Bool) (hX : X.code_Reader_Bad b1 bad2 = some r) : Fun Tryd.prog 45 [.vref (ofL [Enc.v (b1 : (List UInt8)), Enc.v (bad2 : Bool)]) 2 0] (· = Enc.v (r : Bool)) := by
  refine Fun.of b45 (Nat.le_of_ble_eq_true rfl) (allVal.mem ⟨(by exact (vref_val (l := [Enc.v (b1 : (List UInt8)), Enc.v (bad2 : Bool)]) rfl ⟨(v_val _), (v_val _), trivial⟩)), trivial⟩) ?_
  unfold k45
  have nd : Nd [] := Nd_nil
  unfold X.code_Reader_Bad at hX
  refine TK.seq_k fun K3 hK3 => ?_
  refine TK.reg ?_
  refine TL.p (C := cx) (gc := true) (p_mv rfl) rfl rfl ?_
  refine TL.nil ?_
  refine hK3 _ _ ?_
  refine TK.seq_k fun K4 hK4 => ?_
  refine TK.reg ?_
  refine TL.p (C := cx) (gc := true) (p_mv rfl) rfl rfl ?_
  refine TL.p (C := cx) (gc := true) (p_neV kd64 rfl rfl) rfl rfl ?_
  refine TL.p (C := cx) (gc := true) (p_mv rfl) rfl rfl ?_
  refine TL.guardT rfl ?_
  refine TL.p (C := cx) (gc := true) (p_mv rfl) rfl rfl ?_
  refine TL.guardT rfl ?_
  refine TL.p (C := cx) (gc := true) (p_ncV rfl) rfl rfl ?_
  refine TL.guardT rfl ?_
  refine TL.p (C := cx) (gc := true) (p_faR fs87_1 (by decide) rfl) rfl rfl ?_
  refine TL.guardT rfl ?_
  refine TL.p (C := cx) (gc := true) (p_ldR (v := Enc.v (bad2 : Bool)) ty4 rfl rfl rfl rfl rfl rfl) rfl rfl ?_
  refine TL.p (C := cx) (gc := true) (p_and rfl rfl (fun e => ⟨rfl, fun h => rfl⟩)) rfl rfl ?_
  refine TL.p (C := cx) (gc := true) (p_mv rfl) rfl rfl ?_
  refine TL.nil ?_
  refine hK4 _ _ ?_
  refine TK.ret ?_
  try dsimp only [thenQ]
  exact ret1 (v := Enc.v (bad2 : Bool)) rfl (by obtain rfl := some_in hX; rfl) (v_val _)

/-- strings.Count -/
theorem ok_strings_Count_k47 (s1 : Str) (r : Int) (hX : X.strings_Count_k47 s1 = some r) : Fun Tryd.prog 68 [Enc.v (s1 : Str), Enc.v ((Str.mk [47]) : Str)] (· = Enc.v (r : Int)) := by
  refine Fun.of b68 (Nat.le_of_ble_eq_true rfl) (allVal.mem ⟨(by exact (v_val _)), (by exact (v_val _)), trivial⟩) ?_
  unfold k68
  have nd : Nd [] := Nd_nil
  unfold X.strings_Count_k47 at hX
  refine TK.seq_k fun K2 hK2 => ?_
  refine TK.reg ?_
  refine TL.p (C := cx) (gc := true) (p_mv rfl) rfl rfl ?_
  refine TL.nil ?_
  refine hK2 _ _ ?_
  refine TK.seq_k fun K3 hK3 => ?_
  refine TK.seq_k fun K4 hK4 => ?_
  refine TK.reg ?_
  refine TL.p (C := cx) (gc := true) (p_mv rfl) rfl rfl ?_
  refine TL.p (C := cx) (gc := true) (p_lenS (s := (Str.mk [47])) kd9 rfl) rfl rfl ?_
  refine TL.p (C := cx) (gc := true) (p_eql rfl rfl) rfl rfl ?_
  refine TL.nil ?_
  refine hK4 _ _ ?_
  refine TK.cond (b := false) rfl (fun hc => by simp at hc) (fun _ => ?_)
  refine TK.skip ?_
  refine hK3 _ _ ?_
  refine TK.seq_k fun K5 hK5 => ?_
  refine TK.seq_k fun K6 hK6 => ?_
  refine TK.reg ?_
  refine TL.p (C := cx) (gc := true) (p_mv rfl) rfl rfl ?_
  refine TL.p (C := cx) (gc := true) (p_lenS (s := (Str.mk [47])) kd9 rfl) rfl rfl ?_
  refine TL.p (C := cx) (gc := true) (p_eql rfl rfl) rfl rfl ?_
  refine TL.nil ?_
  refine hK6 _ _ ?_
  refine TK.cond (b := true) rfl (fun _ => ?_) (fun hc => by simp at hc)
  refine TK.seq_k fun K7 hK7 => ?_
  refine TK.reg ?_
  refine TL.p (C := cx) (gc := true) (p_mv rfl) rfl rfl ?_
  refine TL.p (C := cx) (gc := true) (p_mv rfl) rfl rfl ?_
  obtain ⟨x8, hx8, hX⟩ := bind_some hX
  refine TL.p (C := cx) (gc := true) (p_ix kd9 rfl rfl (fun _ => hx8)) rfl rfl ?_
  refine TL.ofV (gc := true) (vok_countS (C := cx) ex73 rfl (fun _ => ⟨rfl, ⟨rfl, ⟨rfl, trivial⟩⟩⟩)) rfl rfl ?_
  refine TL.p (C := cx) (gc := true) (p_mv rfl) rfl rfl ?_
  refine TL.nil ?_
  refine hK7 _ _ ?_
  refine TK.ret ?_
  try dsimp only [thenQ]
  exact ret1 (v := Enc.v (((s1.l.count x8 : Nat) : Int) : Int)) rfl (by obtain rfl := some_in hX; rfl) (v_val _)

/-- internal/stringslite.IndexByte -/
theorem ok_stringslite_IndexByte (s1 : Str) (c2 : UInt8) (r : Int) (hX : X.stringslite_IndexByte s1 c2 = some r) : Fun Tryd.prog 77 [Enc.v (s1 : Str), Enc.v (c2 : UInt8)] (· = Enc.v (r : Int)) := by
  refine Fun.of b77 (Nat.le_of_ble_eq_true rfl) (allVal.mem ⟨(by exact (v_val _)), (by exact (v_val _)), trivial⟩) ?_
  unfold k77
  have nd : Nd [] := Nd_nil
  unfold X.stringslite_IndexByte at hX
  refine TK.seq_k fun K3 hK3 => ?_
  refine TK.reg ?_
  refine TL.p (C := cx) (gc := true) (p_mv rfl) rfl rfl ?_
  refine TL.nil ?_
  refine hK3 _ _ ?_
  refine TK.seq_k fun K4 hK4 => ?_
  refine TK.reg ?_
  refine TL.p (C := cx) (gc := true) (p_mv rfl) rfl rfl ?_
  refine TL.p (C := cx) (gc := true) (p_mv rfl) rfl rfl ?_
  refine TL.ofV (gc := true) (vok_indexS (C := cx) ex81 rfl (fun _ => ⟨rfl, ⟨rfl, ⟨rfl, trivial⟩⟩⟩)) rfl rfl ?_
  refine TL.p (C := cx) (gc := true) (p_mv rfl) rfl rfl ?_
  refine TL.nil ?_
  refine hK4 _ _ ?_
  refine TK.ret ?_
  try dsimp only [thenQ]
  exact ret1 (v := Enc.v ((Lib.indexByte s1.l c2) : Int)) rfl (by obtain rfl := some_in hX; rfl) (v_val _)

/-- internal/stringslite.Index -/
theorem ok_stringslite_Index_k47 (s1 : Str) (r : Int) (hX : X.stringslite_Index_k47 s1 = some r) : Fun Tryd.prog 74 [Enc.v (s1 : Str), Enc.v ((Str.mk [47]) : Str)] (· = Enc.v (r : Int)) := by
  refine Fun.of b74 (Nat.le_of_ble_eq_true rfl) (allVal.mem ⟨(by exact (v_val _)), (by exact (v_val _)), trivial⟩) ?_
  unfold k74
  have nd : Nd [] := Nd_nil
  unfold X.stringslite_Index_k47 at hX
  refine TK.seq_k fun K2 hK2 => ?_
  refine TK.reg ?_
  refine TL.p (C := cx) (gc := true) (p_mv rfl) rfl rfl ?_
  refine TL.nil ?_
  refine hK2 _ _ ?_
  refine TK.seq_k fun K3 hK3 => ?_
  refine TK.reg ?_
  refine TL.p (C := cx) (gc := true) (p_mv rfl) rfl rfl ?_
  refine TL.p (C := cx) (gc := true) (p_lenS (s := (Str.mk [47])) kd9 rfl) rfl rfl ?_
  refine TL.p (C := cx) (gc := true) (p_mv rfl) rfl rfl ?_
  refine TL.nil ?_
  refine hK3 _ _ ?_
  refine TK.seq_k fun K4 hK4 => ?_
  refine TK.block ?_
  refine TK.seq_k fun K5 hK5 => ?_
  refine TK.reg ?_
  refine TL.p (C := cx) (gc := true) (p_mv rfl) rfl rfl ?_
  refine TL.p (C := cx) (gc := true) (p_eql rfl rfl) rfl rfl ?_
  refine TL.p (C := cx) (gc := true) (p_mv rfl) rfl rfl ?_
  refine TL.guardT rfl ?_
  refine TL.p (C := cx) (gc := true) (p_mv rfl) rfl rfl ?_
  refine TL.guardT rfl ?_
  refine TL.p (C := cx) (gc := true) (p_mv rfl) rfl rfl ?_
  refine TL.guardT rfl ?_
  refine TL.p (C := cx) (gc := true) (ps_eql (s := (Str.mk [47])) (r := s1) rfl rfl) rfl rfl ?_
  refine TL.p (C := cx) (gc := true) (p_or rfl rfl (fun e => ⟨rfl, fun h => rfl⟩)) rfl rfl ?_
  refine TL.p (C := cx) (gc := true) (p_mv rfl) rfl rfl ?_
  refine TL.nil ?_
  refine hK5 _ _ ?_
  refine TK.cond (b := ((Str.mk [47]).l == s1.l)) rfl (fun hc => ?_) (fun hc => ?_)
  · have hX := ite_t hc hX
    refine TK.seq_k fun K6 hK6 => ?_
    refine TK.reg ?_
    refine TL.p (C := cx) (gc := true) (p_mv rfl) rfl rfl ?_
    refine TL.nil ?_
    refine hK6 _ _ ?_
    refine TK.ret ?_
    try dsimp only [thenQ]
    exact ret1 (v := Enc.v ((0 : Int) : Int)) rfl (by obtain rfl := some_in hX; rfl) (v_val _)
  · have hX := ite_f hc hX
    refine TK.seq_k fun K7 hK7 => ?_
    refine TK.reg ?_
    refine TL.p (C := cx) (gc := true) (p_mv rfl) rfl rfl ?_
    refine TL.p (C := cx) (gc := true) (p_eql rfl rfl) rfl rfl ?_
    refine TL.p (C := cx) (gc := true) (p_mv rfl) rfl rfl ?_
    refine TL.nil ?_
    refine hK7 _ _ ?_
    refine TK.cond (b := true) rfl (fun _ => ?_) (fun hc => by simp at hc)
    refine TK.seq_k fun K8 hK8 => ?_
    refine TK.reg ?_
    refine TL.p (C := cx) (gc := true) (p_mv rfl) rfl rfl ?_
    refine TL.p (C := cx) (gc := true) (p_mv rfl) rfl rfl ?_
    obtain ⟨x9, hx9, hX⟩ := bind_some hX
    refine TL.p (C := cx) (gc := true) (p_ix kd9 rfl rfl (fun _ => hx9)) rfl rfl ?_
    obtain ⟨r10, hr10, hX⟩ := bind_some hX
    refine TL.cvX rfl rfl rfl (fun _ => ⟨rfl, ⟨rfl, ⟨rfl, trivial⟩⟩⟩) (fun e => ok_stringslite_IndexByte s1 x9 _ hr10) ?_
    refine TL.p (C := cx) (gc := true) (p_mv rfl) rfl rfl ?_
    refine TL.nil ?_
    refine hK8 _ _ ?_
    refine TK.ret ?_
    try dsimp only [thenQ]
    exact ret1 (v := Enc.v (r10 : Int)) rfl (by obtain rfl := some_in hX; rfl) (v_val _)

/-- strings.Index -/
theorem ok_strings_Index_k47 (s1 : Str) (r : Int) (hX : X.strings_Index_k47 s1 = some r) : Fun Tryd.prog 69 [Enc.v (s1 : Str), Enc.v ((Str.mk [47]) : Str)] (· = Enc.v (r : Int)) := by
  refine Fun.of b69 (Nat.le_of_ble_eq_true rfl) (allVal.mem ⟨(by exact (v_val _)), (by exact (v_val _)), trivial⟩) ?_
  unfold k69
  have nd : Nd [] := Nd_nil
  unfold X.strings_Index_k47 at hX
  refine TK.seq_k fun K2 hK2 => ?_
  refine TK.reg ?_
  refine TL.p (C := cx) (gc := true) (p_mv rfl) rfl rfl ?_
  refine TL.nil ?_
  refine hK2 _ _ ?_
  refine TK.seq_k fun K3 hK3 => ?_
  refine TK.reg ?_
  refine TL.p (C := cx) (gc := true) (p_mv rfl) rfl rfl ?_
  refine TL.p (C := cx) (gc := true) (p_mv rfl) rfl rfl ?_
  obtain ⟨r4, hr4, hX⟩ := bind_some hX
  refine TL.cvX rfl rfl rfl (fun _ => ⟨rfl, ⟨rfl, ⟨rfl, trivial⟩⟩⟩) (fun e => ok_stringslite_Index_k47 s1 _ hr4) ?_
  refine TL.p (C := cx) (gc := true) (p_mv rfl) rfl rfl ?_
  refine TL.nil ?_
  refine hK3 _ _ ?_
  refine TK.ret ?_
  try dsimp only [thenQ]
  exact ret1 (v := Enc.v (r4 : Int)) rfl (by obtain rfl := some_in hX; rfl) (v_val _)

/-- strings.genSplit -/
theorem ok_strings_genSplit_k47_0_1 (s1 : Str) (r : (List Str)) (hX : X.strings_genSplit_k47_0_1 s1 = some r) : Fun Tryd.prog 59 [Enc.v (s1 : Str), Enc.v ((Str.mk [47]) : Str), Enc.v ((0 : Int) : Int), Enc.v (((-1) : Int) : Int)] (· = Enc.v (r : (List Str))) := by
  refine Fun.of b59 (Nat.le_of_ble_eq_true rfl) (allVal.mem ⟨(by exact (v_val _)), (by exact (v_val _)), (by exact (v_val _)), (by exact (v_val _)), trivial⟩) ?_
  unfold k59
  have nd : Nd [] := Nd_nil
  unfold X.strings_genSplit_k47_0_1 at hX
  refine TK.seq_k fun K2 hK2 => ?_
  refine TK.reg ?_
  refine TL.p (C := cx) (gc := true) (p_mv rfl) rfl rfl ?_
  refine TL.nil ?_
  refine hK2 _ _ ?_
  refine TK.seq_k fun K3 hK3 => ?_
  refine TK.seq_k fun K4 hK4 => ?_
  refine TK.reg ?_
  refine TL.p (C := cx) (gc := true) (p_mv rfl) rfl rfl ?_
  refine TL.p (C := cx) (gc := true) (p_eql rfl rfl) rfl rfl ?_
  refine TL.nil ?_
  refine hK4 _ _ ?_
  refine TK.cond (b := false) rfl (fun hc => by simp at hc) (fun _ => ?_)
  refine TK.skip ?_
  refine hK3 _ _ ?_
  refine TK.seq_k fun K5 hK5 => ?_
  refine TK.seq_k fun K6 hK6 => ?_
  refine TK.reg ?_
  refine TL.p (C := cx) (gc := true) (p_mv rfl) rfl rfl ?_
  refine TL.p (C := cx) (gc := true) (ps_eql (s := (Str.mk [47])) (r := (Str.mk [])) rfl rfl) rfl rfl ?_
  refine TL.nil ?_
  refine hK6 _ _ ?_
  refine TK.cond (b := false) rfl (fun hc => by simp at hc) (fun _ => ?_)
  refine TK.skip ?_
  refine hK5 _ _ ?_
  refine TK.seq_k fun K7 hK7 => ?_
  refine TK.seq_k fun K8 hK8 => ?_
  refine TK.reg ?_
  refine TL.p (C := cx) (gc := true) (p_mv rfl) rfl rfl ?_
  refine TL.p (C := cx) (gc := true) (p_lss rfl rfl) rfl rfl ?_
  refine TL.nil ?_
  refine hK8 _ _ ?_
  refine TK.cond (b := true) rfl (fun _ => ?_) (fun hc => by simp at hc)
  refine TK.reg ?_
  refine TL.p (C := cx) (gc := true) (p_mv rfl) rfl rfl ?_
  refine TL.p (C := cx) (gc := true) (p_mv rfl) rfl rfl ?_
  obtain ⟨r9, hr9, hX⟩ := bind_some hX
  refine TL.cvX rfl rfl rfl (fun _ => ⟨rfl, ⟨rfl, ⟨rfl, trivial⟩⟩⟩) (fun e => ok_strings_Count_k47 s1 _ hr9) ?_
  refine TL.p (C := cx) (gc := true) (p_add rfl rfl) rfl rfl ?_
  refine TL.p (C := cx) (gc := true) (p_mv rfl) rfl rfl ?_
  refine TL.nil ?_
  refine hK7 _ _ ?_
  refine TK.seq_k fun K10 hK10 => ?_
  refine TK.reg ?_
  refine TL.p (C := cx) (gc := true) (p_mv rfl) rfl rfl ?_
  refine TL.p (C := cx) (gc := true) (p_mv rfl) rfl rfl ?_
  refine TL.p (C := cx) (gc := true) (p_lenS (s := s1) kd9 rfl) rfl rfl ?_
  refine TL.p (C := cx) (gc := true) (p_add rfl rfl) rfl rfl ?_
  refine TL.p (C := cx) (gc := true) (p_min rfl rfl) rfl rfl ?_
  refine TL.p (C := cx) (gc := true) (p_mv rfl) rfl rfl ?_
  refine TL.nil ?_
  refine hK10 _ _ ?_
  refine TK.seq_k fun K11 hK11 => ?_
  refine TK.reg ?_
  refine TL.p (C := cx) (gc := true) (p_mv rfl) rfl rfl ?_
  obtain ⟨u12, hu12, hX⟩ := bind_some hX
  refine TL.mkO (C := cx) nd (Str.mk []) kd25 ty9 rfl (fun j hj => by (have : j = 0 := by simpa [Enc.sz] using hj); subst this; rfl) rfl rfl (by decide) (need_t hu12) rfl fun b13 nd => ?_
  refine TL.p (C := cx) (gc := true) (p_mv rfl) rfl rfl ?_
  refine TL.nil ?_
  refine hK11 _ _ ?_
  refine TK.seq_k fun K14 hK14 => ?_
  refine TK.reg ?_
  refine TL.p (C := cx) (gc := true) (p_mv rfl) rfl rfl ?_
  refine TL.p (C := cx) (gc := true) (p_sub rfl rfl) rfl rfl ?_
  refine TL.p (C := cx) (gc := true) (p_mv rfl) rfl rfl ?_
  refine TL.nil ?_
  refine hK14 _ _ ?_
  refine TK.seq_k fun K15 hK15 => ?_
  refine TK.reg ?_
  refine TL.p (C := cx) (gc := true) (p_mv rfl) rfl rfl ?_
  refine TL.nil ?_
  refine hK15 _ _ ?_
  refine TK.seq_k fun K16 hK16 => ?_
  refine TK.block ?_
  obtain ⟨o17, hO17, hA17⟩ := bind_some hX
  have E17 : ∀ (s22 : Str) (l24 : List Str) (i25 : Int) (env : Env) (h : Hp), (∃ b23, keepE [0, 9, 10] env = [(0, true, Enc.v (s22 : Str)), (9, true, OL (α := Str) b23 l24), (10, true, Enc.v (i25 : Int))] ∧ Nd [(b23, RL (α := Str) 9 l24)] ∧ HSub [(b23, RL (α := Str) 9 l24)] h) → X.strings_genSplit_k47_0_1_e17 s22 l24 i25 = some r → K16 env h := by
    intro s22 l24 i25 env h hE hX
    obtain ⟨b23, henv, nd, hs⟩ := hE
    unfold X.strings_genSplit_k47_0_1_e17 at hX
    refine hK16 _ _ (TK.keep [0, 9, 10] ?_)
    rw [henv]
    refine TK.subH hs ?_
    refine TK.seq_k fun K26 hK26 => ?_
    refine TK.reg ?_
    refine TL.p (C := cx) (gc := true) (p_mv rfl) rfl rfl ?_
    refine TL.p (C := cx) (gc := true) (p_mv rfl) rfl rfl ?_
    refine TL.p (C := cx) (gc := true) (p_mv rfl) rfl rfl ?_
    obtain ⟨e27, he27, hX⟩ := bind_some hX
    refine TL.p (C := cx) (gc := true) (p_iaO (xs := l24) kd25 ty9 rfl rfl rfl nd (j := 0) rfl (fun _ => he27)) rfl rfl ?_
    refine TL.stW (C := cx) (xs := l24) (i := i25) (lu := Enc.cl (s22 : Str)) (a' := s22) nd ty9 rfl (j := 0) rfl (by simp [Enc.sz]) (inb_of he27 (by simp)) rfl (Cells_v (s22 : Str)) rfl (WkL_refl _) fun nd => ?_
    refine TL.cv 9 (OL b23 (l24.set i25.toNat s22)) rfl (Wk_eq (OL_len (by simp))) ?_
    refine TL.nil ?_
    refine hK26 _ _ ?_
    refine TK.seq_k fun K28 hK28 => ?_
    refine TK.reg ?_
    refine TL.p (C := cx) (gc := true) (p_mv rfl) rfl rfl ?_
    refine TL.p (C := cx) (gc := true) (p_mv rfl) rfl rfl ?_
    refine TL.p (C := cx) (gc := true) (p_add rfl rfl) rfl rfl ?_
    obtain ⟨u29, hu29, hX⟩ := bind_some hX
    refine TL.p (C := cx) (gc := true) (p_sliO (xs := (l24.set i25.toNat s22)) (l := (0 : Int)) (k := (wr (i25 + (1 : Int)))) kd25 ty9 rfl rfl nd (j := 0) rfl rfl rfl (fun e => need_t hu29)) rfl rfl ?_
    refine TL.p (C := cx) (gc := true) (p_mv rfl) rfl rfl ?_
    refine TL.nil ?_
    refine hK28 _ _ ?_
    refine TK.lay [(8, L (slc (l24.set i25.toNat s22) (0 : Int) (wr (i25 + (1 : Int)))))] nd (j := 0) rfl ⟨⟨_, rfl, fix_OS nd (j := 0) rfl (need_t hu29).1, rfl⟩, trivial⟩ fun nd => ?_
    refine TK.ret ?_
    try dsimp only [thenQ]
    exact ret1 (v := Enc.v ((slc (l24.set i25.toNat s22) (0 : Int) (wr (i25 + (1 : Int)))) : (List Str))) rfl (by obtain rfl := some_in hX; rfl) (v_val _)
  refine TK.iter [0, 1, 2, 3, 9, 10] (fun s env h => match s with | (s18, a20, i21) => ∃ b19, env = [(0, true, Enc.v (s18 : Str)), (1, true, Enc.v ((Str.mk [47]) : Str)), (2, true, Enc.v ((0 : Int) : Int)), (3, true, Enc.v ((wr ((min (wr (r9 + (1 : Int))) (wr ((s1.l.length : Int) + (1 : Int)))) - (1 : Int))) : Int)), (9, true, OL (α := Str) b19 a20), (10, true, Enc.v (i21 : Int))] ∧ Nd [(b19, RL (α := Str) 9 a20)] ∧ HSub [(b19, RL (α := Str) 9 a20)] h) hO17 ⟨b13, rfl, (Nd.pick nd (is := [0]) (by decide)), (HSub.pick nd (is := [0]) (by decide))⟩ ?_
  rintro ⟨s18, a20, i21⟩ env h x17x ⟨b19, rfl, nd, hs⟩ hX hR17
  refine TK.subH hs ?_
  unfold X.strings_genSplit_k47_0_1_s17 at hX
  try dsimp only at hX
  refine TK.seq_k fun K30 hK30 => ?_
  refine TK.seq_k fun K31 hK31 => ?_
  refine TK.reg ?_
  refine TL.p (C := cx) (gc := true) (p_mv rfl) rfl rfl ?_
  refine TL.p (C := cx) (gc := true) (p_mv rfl) rfl rfl ?_
  refine TL.p (C := cx) (gc := true) (p_lss rfl rfl) rfl rfl ?_
  refine TL.nil ?_
  refine hK31 _ _ ?_
  refine TK.cond (b := (decide (i21 < (wr ((min (wr (r9 + (1 : Int))) (wr ((s1.l.length : Int) + (1 : Int)))) - (1 : Int)))))) rfl (fun hc => ?_) (fun hc => ?_)
  · have hX := ite_t hc hX
    refine TK.skip ?_
    refine hK30 _ _ ?_
    refine TK.block ?_
    refine TK.seq_k fun K32 hK32 => ?_
    refine TK.reg ?_
    refine TL.p (C := cx) (gc := true) (p_mv rfl) rfl rfl ?_
    refine TL.p (C := cx) (gc := true) (p_mv rfl) rfl rfl ?_
    obtain ⟨r33, hr33, hX⟩ := bind_some hX
    refine TL.cvX rfl rfl rfl (fun _ => ⟨rfl, ⟨rfl, ⟨rfl, trivial⟩⟩⟩) (fun e => ok_strings_Index_k47 s18 _ hr33) ?_
    refine TL.p (C := cx) (gc := true) (p_mv rfl) rfl rfl ?_
    refine TL.nil ?_
    refine hK32 _ _ ?_
    refine TK.seq_k fun K34 hK34 => ?_
    refine TK.seq_k fun K35 hK35 => ?_
    refine TK.reg ?_
    refine TL.p (C := cx) (gc := true) (p_mv rfl) rfl rfl ?_
    refine TL.p (C := cx) (gc := true) (p_lss rfl rfl) rfl rfl ?_
    refine TL.nil ?_
    refine hK35 _ _ ?_
    refine TK.cond (b := (decide (r33 < (0 : Int)))) rfl (fun hc => ?_) (fun hc => ?_)
    · have hX := ite_t hc hX
      refine TK.exit ?_
      obtain rfl := hR17 _ (some_in hX).symm
      exact E17 s18 a20 i21 _ _ ⟨b19, rfl, (Nd.pick nd (is := [0]) (by decide)), (HSub.pick nd (is := [0]) (by decide))⟩ hA17
    · have hX := ite_f hc hX
      refine TK.skip ?_
      refine hK34 _ _ ?_
      refine TK.seq_k fun K36 hK36 => ?_
      refine TK.reg ?_
      refine TL.p (C := cx) (gc := true) (p_mv rfl) rfl rfl ?_
      refine TL.p (C := cx) (gc := true) (p_mv rfl) rfl rfl ?_
      refine TL.p (C := cx) (gc := true) (p_mv rfl) rfl rfl ?_
      refine TL.p (C := cx) (gc := true) (p_mv rfl) rfl rfl ?_
      refine TL.p (C := cx) (gc := true) (p_mv rfl) rfl rfl ?_
      refine TL.p (C := cx) (gc := true) (p_add rfl rfl) rfl rfl ?_
      obtain ⟨u37, hu37, hX⟩ := bind_some hX
      refine TL.p (C := cx) (gc := true) (p_sliS (s := s18) (l := (0 : Int)) (k := (wr (r33 + (0 : Int)))) kd9 rfl rfl (fun n hn => rfl) (fun e => need_t hu37)) rfl rfl ?_
      obtain ⟨e38, he38, hX⟩ := bind_some hX
      refine TL.p (C := cx) (gc := true) (p_iaO (xs := a20) kd25 ty9 rfl rfl rfl nd (j := 0) rfl (fun _ => he38)) rfl rfl ?_
      refine TL.stW (C := cx) (xs := a20) (i := i21) (lu := Enc.cl ((Str.mk (slc s18.l (0 : Int) (wr (r33 + (0 : Int))))) : Str)) (a' := (Str.mk (slc s18.l (0 : Int) (wr (r33 + (0 : Int)))))) nd ty9 rfl (j := 0) rfl (by simp [Enc.sz]) (inb_of he38 (by simp)) rfl (Cells_v ((Str.mk (slc s18.l (0 : Int) (wr (r33 + (0 : Int))))) : Str)) rfl (WkL_refl _) fun nd => ?_
      refine TL.cv 9 (OL b19 (a20.set i21.toNat (Str.mk (slc s18.l (0 : Int) (wr (r33 + (0 : Int))))))) rfl (Wk_eq (OL_len (by simp))) ?_
      refine TL.nil ?_
      refine hK36 _ _ ?_
      refine TK.seq_k fun K39 hK39 => ?_
      refine TK.reg ?_
      refine TL.p (C := cx) (gc := true) (p_mv rfl) rfl rfl ?_
      refine TL.p (C := cx) (gc := true) (p_mv rfl) rfl rfl ?_
      refine TL.p (C := cx) (gc := true) (p_mv rfl) rfl rfl ?_
      refine TL.p (C := cx) (gc := true) (p_lenS (s := (Str.mk [47])) kd9 rfl) rfl rfl ?_
      refine TL.p (C := cx) (gc := true) (p_add rfl rfl) rfl rfl ?_
      obtain ⟨u40, hu40, hX⟩ := bind_some hX
      refine TL.p (C := cx) (gc := true) (p_sliS (s := s18) (l := (wr (r33 + (1 : Int)))) (k := (s18.l.length : Int)) kd9 rfl rfl (fun n hn => by subst hn; rfl) (fun e => need_t hu40)) rfl rfl ?_
      refine TL.p (C := cx) (gc := true) (p_mv rfl) rfl rfl ?_
      refine TL.nil ?_
      refine hK39 _ _ ?_
      refine TK.reg ?_
      refine TL.p (C := cx) (gc := true) (p_mv rfl) rfl rfl ?_
      refine TL.p (C := cx) (gc := true) (p_add rfl rfl) rfl rfl ?_
      refine TL.p (C := cx) (gc := true) (p_mv rfl) rfl rfl ?_
      refine TL.nil ?_
      exact ⟨_, (some_in hX).symm, b19, rfl, (Nd.pick nd (is := [0]) (by decide)), (HSub.pick nd (is := [0]) (by decide))⟩
  · have hX := ite_f hc hX
    refine TK.exit ?_
    obtain rfl := hR17 _ (some_in hX).symm
    exact E17 s18 a20 i21 _ _ ⟨b19, rfl, (Nd.pick nd (is := [0]) (by decide)), (HSub.pick nd (is := [0]) (by decide))⟩ hA17

/-- strings.Split -/
theorem ok_strings_Split_k47 (s1 : Str) (r : (List Str)) (hX : X.strings_Split_k47 s1 = some r) : Fun Tryd.prog 34 [Enc.v (s1 : Str), Enc.v ((Str.mk [47]) : Str)] (· = Enc.v (r : (List Str))) := by
  refine Fun.of b34 (Nat.le_of_ble_eq_true rfl) (allVal.mem ⟨(by exact (v_val _)), (by exact (v_val _)), trivial⟩) ?_
  unfold k34
  have nd : Nd [] := Nd_nil
  unfold X.strings_Split_k47 at hX
  refine TK.seq_k fun K2 hK2 => ?_
  refine TK.reg ?_
  refine TL.p (C := cx) (gc := true) (p_mv rfl) rfl rfl ?_
  refine TL.nil ?_
  refine hK2 _ _ ?_
  refine TK.seq_k fun K3 hK3 => ?_
  refine TK.reg ?_
  refine TL.p (C := cx) (gc := true) (p_mv rfl) rfl rfl ?_
  refine TL.p (C := cx) (gc := true) (p_mv rfl) rfl rfl ?_
  obtain ⟨r4, hr4, hX⟩ := bind_some hX
  refine TL.cvX rfl rfl rfl (fun _ => ⟨rfl, ⟨rfl, ⟨rfl, ⟨rfl, ⟨rfl, trivial⟩⟩⟩⟩⟩) (fun e => ok_strings_genSplit_k47_0_1 s1 _ hr4) ?_
  refine TL.p (C := cx) (gc := true) (p_mv rfl) rfl rfl ?_
  refine TL.nil ?_
  refine hK3 _ _ ?_
  refine TK.ret ?_
  try dsimp only [thenQ]
  exact ret1 (v := Enc.v (r4 : (List Str))) rfl (by obtain rfl := some_in hX; rfl) (v_val _)

/-- slices.IndexFunc[[]string,string] -/
theorem ok_slices_IndexFunc_Lstring_string (s1 : (List Str)) (g2 : Str → Option Bool) (r : Int) (hX : X.slices_IndexFunc_Lstring_string s1 g2 = some r) {g2V : AV} (hg2V : ∃ f m c, g2V = .fn f m c ∧ (∀ i, i < m → (c i).val) ∧ ∀ (a0 : Str) r, g2 a0 = some r → Fun Tryd.prog f ([Enc.v a0] ++ (List.range m).map c) (· = Enc.v r)) : Fun Tryd.prog 58 [Enc.v (s1 : (List Str)), g2V] (· = Enc.v (r : Int)) := by
  obtain ⟨g2f, g2m, g2c, rfl, hg2v, hg2⟩ := hg2V
  refine Fun.of b58 (Nat.le_of_ble_eq_true rfl) (allVal.mem ⟨(by exact (v_val _)), hg2v, trivial⟩) ?_
  unfold k58
  have nd : Nd [] := Nd_nil
  unfold X.slices_IndexFunc_Lstring_string at hX
  refine TK.seq_k fun K3 hK3 => ?_
  refine TK.reg ?_
  refine TL.p (C := cx) (gc := true) (p_mv rfl) rfl rfl ?_
  refine TL.nil ?_
  refine hK3 _ _ ?_
  refine TK.seq_k fun K4 hK4 => ?_
  refine TK.seq_k fun K5 hK5 => ?_
  refine TK.reg ?_
  refine TL.p (C := cx) (gc := true) (p_mv rfl) rfl rfl ?_
  refine TL.p (C := cx) (gc := true) (p_lenL (xs := s1) kd25 rfl) rfl rfl ?_
  refine TL.p (C := cx) (gc := true) (p_mv rfl) rfl rfl ?_
  refine TL.nil ?_
  refine hK5 _ _ ?_
  refine TK.block ?_
  obtain ⟨o6, hO6, hA6⟩ := bind_some hX
  have E6 : ∀ (env : Env) (h : Hp), (∃ _u : Unit, keepE [] env = [] ∧ Nd [] ∧ HSub [] h) → X.slices_IndexFunc_Lstring_string_e6 = some r → K4 env h := by
    intro  env h hE hX
    obtain ⟨_u, henv, nd, hs⟩ := hE
    unfold X.slices_IndexFunc_Lstring_string_e6 at hX
    refine hK4 _ _ (TK.keep [] ?_)
    rw [henv]
    refine TK.subH hs ?_
    refine TK.seq_k fun K8 hK8 => ?_
    refine TK.reg ?_
    refine TL.p (C := cx) (gc := true) (p_mv rfl) rfl rfl ?_
    refine TL.nil ?_
    refine hK8 _ _ ?_
    refine TK.ret ?_
    try dsimp only [thenQ]
    exact ret1 (v := Enc.v (((-1) : Int) : Int)) rfl (by obtain rfl := some_in hX; rfl) (v_val _)
  refine TK.iter [0, 1, 7, 8] (fun s env h => match s with | x7 => ∃ _u : Unit, env = [(0, true, Enc.v (s1 : (List Str))), (1, true, .fn g2f g2m g2c), (7, true, Enc.v ((s1.length : Int) : Int)), (8, true, Enc.v (x7 : Int))] ∧ Nd [] ∧ HSub [] h) hO6 ⟨(), rfl, Nd_nil, HSub.refl _⟩ ?_
  rintro x7 env h x6x ⟨_u, rfl, nd, hs⟩ hX hR6
  refine TK.subH hs ?_
  unfold X.slices_IndexFunc_Lstring_string_s6 at hX
  try dsimp only at hX
  refine TK.seq_k fun K9 hK9 => ?_
  refine TK.reg ?_
  refine TL.p (C := cx) (gc := true) (p_lss rfl rfl) rfl rfl ?_
  refine TL.nil ?_
  refine hK9 _ _ ?_
  refine TK.seq_k fun K10 hK10 => ?_
  refine TK.cond (b := (decide (x7 < (s1.length : Int)))) rfl (fun hc => ?_) (fun hc => ?_)
  · have hX := ite_t hc hX
    refine TK.skip ?_
    refine hK10 _ _ ?_
    refine TK.seq_k fun K11 hK11 => ?_
    refine TK.block ?_
    refine TK.seq_k fun K12 hK12 => ?_
    refine TK.reg ?_
    refine TL.p (C := cx) (gc := true) (p_mv rfl) rfl rfl ?_
    refine TL.p (C := cx) (gc := true) (p_mv rfl) rfl rfl ?_
    refine TL.nil ?_
    refine hK12 _ _ ?_
    refine TK.seq_k fun K13 hK13 => ?_
    refine TK.reg ?_
    refine TL.p (C := cx) (gc := true) (p_mv rfl) rfl rfl ?_
    refine TL.p (C := cx) (gc := true) (p_mv rfl) rfl rfl ?_
    refine TL.p (C := cx) (gc := true) (p_mv rfl) rfl rfl ?_
    obtain ⟨e14, he14, hX⟩ := bind_some hX
    refine TL.p (C := cx) (gc := true) (p_iaL (xs := s1) kd25 ty9 rfl rfl rfl (fun _ => he14)) rfl rfl ?_
    refine TL.p (C := cx) (gc := true) (p_ldE (xs := s1) (a := e14) (e14 : Str) ty9 rfl rfl (fun _ => he14) rfl rfl rfl) rfl rfl ?_
    obtain ⟨r15, hr15, hX⟩ := bind_some hX
    refine TL.cvX rfl rfl rfl (fun _ => ⟨rfl, ⟨rfl, trivial⟩⟩) (fun e => hg2 e14 _ hr15) ?_
    refine TL.nil ?_
    refine hK13 _ _ ?_
    refine TK.cond (b := r15) rfl (fun hc => ?_) (fun hc => ?_)
    · have hX := ite_t hc hX
      refine TK.seq_k fun K16 hK16 => ?_
      refine TK.reg ?_
      refine TL.p (C := cx) (gc := true) (p_mv rfl) rfl rfl ?_
      refine TL.p (C := cx) (gc := true) (p_mv rfl) rfl rfl ?_
      refine TL.nil ?_
      refine hK16 _ _ ?_
      refine TK.ret ?_
      obtain rfl := hR6 _ (some_in hX).symm
      replace hX := hA6
      try dsimp only [thenQ]
      exact ret1 (v := Enc.v (x7 : Int)) rfl (by obtain rfl := some_in hX; rfl) (v_val _)
    · have hX := ite_f hc hX
      refine TK.skip ?_
      refine hK11 _ _ ?_
      refine TK.reg ?_
      refine TL.p (C := cx) (gc := true) (p_add rfl rfl) rfl rfl ?_
      refine TL.p (C := cx) (gc := true) (p_mv rfl) rfl rfl ?_
      refine TL.nil ?_
      exact ⟨_, (some_in hX).symm, (), rfl, Nd_nil, HSub.refl _⟩
  · have hX := ite_f hc hX
    refine TK.exit ?_
    obtain rfl := hR6 _ (some_in hX).symm
    exact E6 _ _ ⟨(), rfl, Nd_nil, HSub.refl _⟩ hA6

/-- slices.ContainsFunc[[]string,string] -/
theorem ok_slices_ContainsFunc_Lstring_string (s1 : (List Str)) (g2 : Str → Option Bool) (r : Bool) (hX : X.slices_ContainsFunc_Lstring_string s1 g2 = some r) {g2V : AV} (hg2V : ∃ f m c, g2V = .fn f m c ∧ (∀ i, i < m → (c i).val) ∧ ∀ (a0 : Str) r, g2 a0 = some r → Fun Tryd.prog f ([Enc.v a0] ++ (List.range m).map c) (· = Enc.v r)) : Fun Tryd.prog 33 [Enc.v (s1 : (List Str)), g2V] (· = Enc.v (r : Bool)) := by
  obtain ⟨g2f, g2m, g2c, rfl, hg2v, hg2⟩ := hg2V
  refine Fun.of b33 (Nat.le_of_ble_eq_true rfl) (allVal.mem ⟨(by exact (v_val _)), hg2v, trivial⟩) ?_
  unfold k33
  have nd : Nd [] := Nd_nil
  unfold X.slices_ContainsFunc_Lstring_string at hX
  refine TK.seq_k fun K3 hK3 => ?_
  refine TK.reg ?_
  refine TL.p (C := cx) (gc := true) (p_mv rfl) rfl rfl ?_
  refine TL.nil ?_
  refine hK3 _ _ ?_
  refine TK.seq_k fun K4 hK4 => ?_
  refine TK.reg ?_
  refine TL.p (C := cx) (gc := true) (p_mv rfl) rfl rfl ?_
  refine TL.p (C := cx) (gc := true) (p_mv rfl) rfl rfl ?_
  obtain ⟨r5, hr5, hX⟩ := bind_some hX
  refine TL.cvX rfl rfl rfl (fun _ => ⟨rfl, ⟨rfl, ⟨rfl, trivial⟩⟩⟩) (fun e => ok_slices_IndexFunc_Lstring_string s1 g2 _ hr5 ⟨_, _, _, rfl, hg2v, hg2⟩) ?_
  refine TL.p (C := cx) (gc := true) (p_geq rfl rfl) rfl rfl ?_
  refine TL.p (C := cx) (gc := true) (p_mv rfl) rfl rfl ?_
  refine TL.nil ?_
  refine hK4 _ _ ?_
  refine TK.ret ?_
  try dsimp only [thenQ]
  exact ret1 (v := Enc.v ((decide (r5 ≥ (0 : Int))) : Bool)) rfl (by obtain rfl := some_in hX; rfl) (v_val _)

/-- strings.indexFunc -/
theorem ok_strings_indexFunc (s1 : Str) (g2 : I32 → Option Bool) (truth3 : Bool) (r : Int) (hX : X.strings_indexFunc s1 g2 truth3 = some r) {g2V : AV} (hg2V : ∃ f m c, g2V = .fn f m c ∧ (∀ i, i < m → (c i).val) ∧ ∀ (a0 : I32) r, g2 a0 = some r → Fun Tryd.prog f ([Enc.v a0] ++ (List.range m).map c) (· = Enc.v r)) : Fun Tryd.prog 75 [Enc.v s1, g2V, Enc.v truth3] (· = Enc.v r) := by
  unfold X.strings_indexFunc at hX
  split at hX
  · rename_i ht
    injection hX with hX
    subst hX
    exact fun_indexFunc (Enters.of Tryd.func75 (by kernel_rfl) (by kernel_rfl)) (fun g lb eg p truth s w hp => Go.Proofs.Tryd.strings_indexFunc_grows g lb eg p truth s w hp) hg2V ht
  · cases hX

/-- strings.IndexFunc -/
theorem ok_strings_IndexFunc (s1 : Str) (g2 : I32 → Option Bool) (r : Int) (hX : X.strings_IndexFunc s1 g2 = some r) {g2V : AV} (hg2V : ∃ f m c, g2V = .fn f m c ∧ (∀ i, i < m → (c i).val) ∧ ∀ (a0 : I32) r, g2 a0 = some r → Fun Tryd.prog f ([Enc.v a0] ++ (List.range m).map c) (· = Enc.v r)) : Fun Tryd.prog 70 [Enc.v (s1 : Str), g2V] (· = Enc.v (r : Int)) := by
  obtain ⟨g2f, g2m, g2c, rfl, hg2v, hg2⟩ := hg2V
  refine Fun.of b70 (Nat.le_of_ble_eq_true rfl) (allVal.mem ⟨(by exact (v_val _)), hg2v, trivial⟩) ?_
  unfold k70
  have nd : Nd [] := Nd_nil
  unfold X.strings_IndexFunc at hX
  refine TK.seq_k fun K3 hK3 => ?_
  refine TK.reg ?_
  refine TL.p (C := cx) (gc := true) (p_mv rfl) rfl rfl ?_
  refine TL.nil ?_
  refine hK3 _ _ ?_
  refine TK.seq_k fun K4 hK4 => ?_
  refine TK.reg ?_
  refine TL.p (C := cx) (gc := true) (p_mv rfl) rfl rfl ?_
  refine TL.p (C := cx) (gc := true) (p_mv rfl) rfl rfl ?_
  obtain ⟨r5, hr5, hX⟩ := bind_some hX
  refine TL.cvX rfl rfl rfl (fun _ => ⟨rfl, ⟨rfl, ⟨rfl, ⟨rfl, trivial⟩⟩⟩⟩) (fun e => ok_strings_indexFunc s1 g2 true _ hr5 ⟨_, _, _, rfl, hg2v, hg2⟩) ?_
  refine TL.p (C := cx) (gc := true) (p_mv rfl) rfl rfl ?_
  refine TL.nil ?_
  refine hK4 _ _ ?_
  refine TK.ret ?_
  try dsimp only [thenQ]
  exact ret1 (v := Enc.v (r5 : Int)) rfl (by obtain rfl := some_in hX; rfl) (v_val _)

/-- strings.ContainsFunc -/
theorem ok_strings_ContainsFunc (s1 : Str) (g2 : I32 → Option Bool) (r : Bool) (hX : X.strings_ContainsFunc s1 g2 = some r) {g2V : AV} (hg2V : ∃ f m c, g2V = .fn f m c ∧ (∀ i, i < m → (c i).val) ∧ ∀ (a0 : I32) r, g2 a0 = some r → Fun Tryd.prog f ([Enc.v a0] ++ (List.range m).map c) (· = Enc.v r)) : Fun Tryd.prog 60 [Enc.v (s1 : Str), g2V] (· = Enc.v (r : Bool)) := by
  obtain ⟨g2f, g2m, g2c, rfl, hg2v, hg2⟩ := hg2V
  refine Fun.of b60 (Nat.le_of_ble_eq_true rfl) (allVal.mem ⟨(by exact (v_val _)), hg2v, trivial⟩) ?_
  unfold k60
  have nd : Nd [] := Nd_nil
  unfold X.strings_ContainsFunc at hX
  refine TK.seq_k fun K3 hK3 => ?_
  refine TK.reg ?_
  refine TL.p (C := cx) (gc := true) (p_mv rfl) rfl rfl ?_
  refine TL.nil ?_
  refine hK3 _ _ ?_
  refine TK.seq_k fun K4 hK4 => ?_
  refine TK.reg ?_
  refine TL.p (C := cx) (gc := true) (p_mv rfl) rfl rfl ?_
  refine TL.p (C := cx) (gc := true) (p_mv rfl) rfl rfl ?_
  obtain ⟨r5, hr5, hX⟩ := bind_some hX
  refine TL.cvX rfl rfl rfl (fun _ => ⟨rfl, ⟨rfl, ⟨rfl, trivial⟩⟩⟩) (fun e => ok_strings_IndexFunc s1 g2 _ hr5 ⟨_, _, _, rfl, hg2v, hg2⟩) ?_
  refine TL.p (C := cx) (gc := true) (p_geq rfl rfl) rfl rfl ?_
  refine TL.p (C := cx) (gc := true) (p_mv rfl) rfl rfl ?_
  refine TL.nil ?_
  refine hK4 _ _ ?_
  refine TK.ret ?_
  try dsimp only [thenQ]
  exact ret1 (v := Enc.v ((decide (r5 ≥ (0 : Int))) : Bool)) rfl (by obtain rfl := some_in hX; rfl) (v_val _)

/-- cartridge/path.other -/
theorem ok_path_other (c1 : I32) (r : Bool) (hX : X.path_other c1 = some r) : Fun Tryd.prog 61 [Enc.v (c1 : I32)] (· = Enc.v (r : Bool)) := by
  refine Fun.of b61 (Nat.le_of_ble_eq_true rfl) (allVal.mem ⟨(by exact (v_val _)), trivial⟩) ?_
  unfold k61
  have nd : Nd [] := Nd_nil
  unfold X.path_other at hX
  refine TK.seq_k fun K2 hK2 => ?_
  refine TK.reg ?_
  refine TL.p (C := cx) (gc := true) (p_mv rfl) rfl rfl ?_
  refine TL.nil ?_
  refine hK2 _ _ ?_
  refine TK.seq_k fun K3 hK3 => ?_
  refine TK.reg ?_
  refine TL.p (C := cx) (gc := true) (p_mv rfl) rfl rfl ?_
  refine TL.p (C := cx) (gc := true) (p_lss (a := c1.n) (b := (I32.mk (97)).n) rfl rfl) rfl rfl ?_
  refine TL.p (C := cx) (gc := true) (p_mv rfl) rfl rfl ?_
  refine TL.p (C := cx) (gc := (!((decide (c1.n < (I32.mk (97)).n))))) (p_mv rfl (hg := fun e => rfl)) (gcF1 rfl) rfl ?_
  refine TL.p (C := cx) (gc := (!((decide (c1.n < (I32.mk (97)).n))))) (p_gtr (a := c1.n) (b := (I32.mk (122)).n) rfl rfl (hg := fun e => ⟨e, rfl⟩)) (gcF1 rfl) rfl ?_
  refine TL.p (C := cx) (gc := true) (p_or rfl rfl (fun e => ⟨rfl, fun h => (not_t h)⟩)) rfl rfl ?_
  refine TL.p (C := cx) (gc := true) (p_mv rfl) rfl rfl ?_
  refine TL.p (C := cx) (gc := (((decide (c1.n < (I32.mk (97)).n)) || (decide (c1.n > (I32.mk (122)).n))))) (p_mv rfl (hg := fun e => rfl)) (gcT1 rfl) rfl ?_
  refine TL.p (C := cx) (gc := (((decide (c1.n < (I32.mk (97)).n)) || (decide (c1.n > (I32.mk (122)).n))))) (p_lss (a := c1.n) (b := (I32.mk (48)).n) rfl rfl (hg := fun e => ⟨e, rfl⟩)) (gcT1 rfl) rfl ?_
  refine TL.p (C := cx) (gc := (((decide (c1.n < (I32.mk (97)).n)) || (decide (c1.n > (I32.mk (122)).n))))) (p_mv rfl (hg := fun e => e)) (gcT1 rfl) rfl ?_
  refine TL.p (C := cx) (gc := ((((decide (c1.n < (I32.mk (97)).n)) || (decide (c1.n > (I32.mk (122)).n)))) && (!((decide (c1.n < (I32.mk (48)).n)))))) (p_mv rfl (hg := fun e => rfl)) (gcF rfl) rfl ?_
  refine TL.p (C := cx) (gc := ((((decide (c1.n < (I32.mk (97)).n)) || (decide (c1.n > (I32.mk (122)).n)))) && (!((decide (c1.n < (I32.mk (48)).n)))))) (p_gtr (a := c1.n) (b := (I32.mk (57)).n) rfl rfl (hg := fun e => ⟨e, rfl⟩)) (gcF rfl) rfl ?_
  refine TL.p (C := cx) (gc := (((decide (c1.n < (I32.mk (97)).n)) || (decide (c1.n > (I32.mk (122)).n))))) (p_or rfl rfl (fun e => ⟨e, fun h => (and_i e (not_t h))⟩)) (gcT1 rfl) rfl ?_
  refine TL.p (C := cx) (gc := true) (p_and rfl rfl (fun e => ⟨rfl, fun h => h⟩)) rfl rfl ?_
  refine TL.p (C := cx) (gc := true) (p_mv rfl) rfl rfl ?_
  refine TL.p (C := cx) (gc := ((((decide (c1.n < (I32.mk (97)).n)) || (decide (c1.n > (I32.mk (122)).n))) && ((decide (c1.n < (I32.mk (48)).n)) || (decide (c1.n > (I32.mk (57)).n)))))) (p_mv rfl (hg := fun e => rfl)) (gcT1 rfl) rfl ?_
  refine TL.p (C := cx) (gc := ((((decide (c1.n < (I32.mk (97)).n)) || (decide (c1.n > (I32.mk (122)).n))) && ((decide (c1.n < (I32.mk (48)).n)) || (decide (c1.n > (I32.mk (57)).n)))))) (p_neq (a := c1.n) (b := (I32.mk (46)).n) rfl rfl (hg := fun e => ⟨e, rfl⟩)) (gcT1 rfl) rfl ?_
  refine TL.p (C := cx) (gc := true) (p_and rfl rfl (fun e => ⟨rfl, fun h => h⟩)) rfl rfl ?_
  refine TL.p (C := cx) (gc := true) (p_mv rfl) rfl rfl ?_
  refine TL.p (C := cx) (gc := (((((decide (c1.n < (I32.mk (97)).n)) || (decide (c1.n > (I32.mk (122)).n))) && ((decide (c1.n < (I32.mk (48)).n)) || (decide (c1.n > (I32.mk (57)).n)))) && (c1.n != (I32.mk (46)).n)))) (p_mv rfl (hg := fun e => rfl)) (gcT1 rfl) rfl ?_
  refine TL.p (C := cx) (gc := (((((decide (c1.n < (I32.mk (97)).n)) || (decide (c1.n > (I32.mk (122)).n))) && ((decide (c1.n < (I32.mk (48)).n)) || (decide (c1.n > (I32.mk (57)).n)))) && (c1.n != (I32.mk (46)).n)))) (p_neq (a := c1.n) (b := (I32.mk (45)).n) rfl rfl (hg := fun e => ⟨e, rfl⟩)) (gcT1 rfl) rfl ?_
  refine TL.p (C := cx) (gc := true) (p_and rfl rfl (fun e => ⟨rfl, fun h => h⟩)) rfl rfl ?_
  refine TL.p (C := cx) (gc := true) (p_mv rfl) rfl rfl ?_
  refine TL.p (C := cx) (gc := ((((((decide (c1.n < (I32.mk (97)).n)) || (decide (c1.n > (I32.mk (122)).n))) && ((decide (c1.n < (I32.mk (48)).n)) || (decide (c1.n > (I32.mk (57)).n)))) && (c1.n != (I32.mk (46)).n)) && (c1.n != (I32.mk (45)).n)))) (p_mv rfl (hg := fun e => rfl)) (gcT1 rfl) rfl ?_
  refine TL.p (C := cx) (gc := ((((((decide (c1.n < (I32.mk (97)).n)) || (decide (c1.n > (I32.mk (122)).n))) && ((decide (c1.n < (I32.mk (48)).n)) || (decide (c1.n > (I32.mk (57)).n)))) && (c1.n != (I32.mk (46)).n)) && (c1.n != (I32.mk (45)).n)))) (p_neq (a := c1.n) (b := (I32.mk (95)).n) rfl rfl (hg := fun e => ⟨e, rfl⟩)) (gcT1 rfl) rfl ?_
  refine TL.p (C := cx) (gc := true) (p_and rfl rfl (fun e => ⟨rfl, fun h => h⟩)) rfl rfl ?_
  refine TL.p (C := cx) (gc := true) (p_mv rfl) rfl rfl ?_
  refine TL.nil ?_
  refine hK3 _ _ ?_
  refine TK.ret ?_
  try dsimp only [thenQ]
  exact ret1 (v := Enc.v (((((((decide (c1.n < (I32.mk (97)).n)) || (decide (c1.n > (I32.mk (122)).n))) && ((decide (c1.n < (I32.mk (48)).n)) || (decide (c1.n > (I32.mk (57)).n)))) && (c1.n != (I32.mk (46)).n)) && (c1.n != (I32.mk (45)).n)) && (c1.n != (I32.mk (95)).n)) : Bool)) rfl (by obtain rfl := some_in hX; rfl) (v_val _)

/-- cartridge/path.wrong -/
theorem ok_path_wrong (s1 : Str) (r : Bool) (hX : X.path_wrong s1 = some r) : Fun Tryd.prog 35 [Enc.v (s1 : Str)] (· = Enc.v (r : Bool)) := by
  refine Fun.of b35 (Nat.le_of_ble_eq_true rfl) (allVal.mem ⟨(by exact (v_val _)), trivial⟩) ?_
  unfold k35
  have nd : Nd [] := Nd_nil
  unfold X.path_wrong at hX
  refine TK.seq_k fun K2 hK2 => ?_
  refine TK.reg ?_
  refine TL.p (C := cx) (gc := true) (p_mv rfl) rfl rfl ?_
  refine TL.nil ?_
  refine hK2 _ _ ?_
  refine TK.seq_k fun K3 hK3 => ?_
  refine TK.reg ?_
  refine TL.p (C := cx) (gc := true) (p_mv rfl) rfl rfl ?_
  refine TL.p (C := cx) (gc := true) (ps_eql (s := s1) (r := (Str.mk [])) rfl rfl) rfl rfl ?_
  refine TL.p (C := cx) (gc := true) (p_mv rfl) rfl rfl ?_
  refine TL.p (C := cx) (gc := (!((s1.l == (Str.mk []).l)))) (p_mv rfl (hg := fun e => rfl)) (gcF1 rfl) rfl ?_
  refine TL.p (C := cx) (gc := (!((s1.l == (Str.mk []).l)))) (ps_eql (s := s1) (r := (Str.mk [46])) rfl rfl (hg := fun e => ⟨e, rfl⟩)) (gcF1 rfl) rfl ?_
  refine TL.p (C := cx) (gc := true) (p_or rfl rfl (fun e => ⟨rfl, fun h => (not_t h)⟩)) rfl rfl ?_
  refine TL.p (C := cx) (gc := true) (p_mv rfl) rfl rfl ?_
  refine TL.p (C := cx) (gc := (!(((s1.l == (Str.mk []).l) || (s1.l == (Str.mk [46]).l))))) (p_mv rfl (hg := fun e => rfl)) (gcF1 rfl) rfl ?_
  refine TL.p (C := cx) (gc := (!(((s1.l == (Str.mk []).l) || (s1.l == (Str.mk [46]).l))))) (ps_eql (s := s1) (r := (Str.mk [46, 46])) rfl rfl (hg := fun e => ⟨e, rfl⟩)) (gcF1 rfl) rfl ?_
  refine TL.p (C := cx) (gc := true) (p_or rfl rfl (fun e => ⟨rfl, fun h => (not_t h)⟩)) rfl rfl ?_
  refine TL.p (C := cx) (gc := true) (p_mv rfl) rfl rfl ?_
  refine TL.p (C := cx) (gc := (!((((s1.l == (Str.mk []).l) || (s1.l == (Str.mk [46]).l)) || (s1.l == (Str.mk [46, 46]).l))))) (p_mv rfl (hg := fun e => rfl)) (gcF1 rfl) rfl ?_
  obtain ⟨r4, hr4, hX⟩ := bind_some hX
  refine TL.cvX (gcF1 rfl) rfl rfl (fun e => ⟨rfl, ⟨e, ⟨rfl, trivial⟩⟩⟩) (fun e => ok_strings_ContainsFunc s1 (fun a1 => X.path_other a1) _ (optG_t hr4 e) ⟨61, 0, ofL [], rfl, (fun i hi => by cases hi), fun a1 r hr => ok_path_other a1 r hr⟩) ?_
  refine TL.p (C := cx) (gc := true) (p_or rfl rfl (fun e => ⟨rfl, fun h => (not_t h)⟩)) rfl rfl ?_
  refine TL.p (C := cx) (gc := true) (p_mv rfl) rfl rfl ?_
  refine TL.nil ?_
  refine hK3 _ _ ?_
  refine TK.ret ?_
  try dsimp only [thenQ]
  exact ret1 (v := Enc.v (((((s1.l == (Str.mk []).l) || (s1.l == (Str.mk [46]).l)) || (s1.l == (Str.mk [46, 46]).l)) || r4) : Bool)) rfl (by obtain rfl := some_in hX; rfl) (v_val _)

/-- cartridge/path.Right -/
theorem ok_path_Right (s1 : Str) (r : Bool) (hX : X.path_Right s1 = some r) : Fun Tryd.prog 11 [Enc.v (s1 : Str)] (· = Enc.v (r : Bool)) := by
  refine Fun.of b11 (Nat.le_of_ble_eq_true rfl) (allVal.mem ⟨(by exact (v_val _)), trivial⟩) ?_
  unfold k11
  have nd : Nd [] := Nd_nil
  unfold X.path_Right at hX
  refine TK.seq_k fun K2 hK2 => ?_
  refine TK.reg ?_
  refine TL.p (C := cx) (gc := true) (p_mv rfl) rfl rfl ?_
  refine TL.nil ?_
  refine hK2 _ _ ?_
  refine TK.seq_k fun K3 hK3 => ?_
  refine TK.reg ?_
  refine TL.p (C := cx) (gc := true) (p_mv rfl) rfl rfl ?_
  refine TL.p (C := cx) (gc := true) (p_lenS (s := s1) kd9 rfl) rfl rfl ?_
  refine TL.p (C := cx) (gc := true) (p_leq rfl rfl) rfl rfl ?_
  refine TL.p (C := cx) (gc := true) (p_mv rfl) rfl rfl ?_
  refine TL.p (C := cx) (gc := ((decide ((s1.l.length : Int) ≤ (24 : Int))))) (p_mv rfl (hg := fun e => rfl)) (gcT1 rfl) rfl ?_
  obtain ⟨r4, hr4, hX⟩ := bind_some hX
  refine TL.cvX (gcT1 rfl) rfl rfl (fun e => ⟨rfl, ⟨e, ⟨rfl, trivial⟩⟩⟩) (fun e => ok_strings_Split_k47 s1 _ (optG_t hr4 e)) ?_
  obtain ⟨r5, hr5, hX⟩ := bind_some hX
  refine TL.cvX (gcT1 rfl) rfl rfl (fun e => ⟨rfl, ⟨e, ⟨rfl, trivial⟩⟩⟩) (fun e => ok_slices_ContainsFunc_Lstring_string r4 (fun a1 => X.path_wrong a1) _ (optG_t hr5 e) ⟨35, 0, ofL [], rfl, (fun i hi => by cases hi), fun a1 r hr => ok_path_wrong a1 r hr⟩) ?_
  refine TL.p (C := cx) (gc := ((decide ((s1.l.length : Int) ≤ (24 : Int))))) (p_not rfl (hg := fun e => e)) (gcT1 rfl) rfl ?_
  refine TL.p (C := cx) (gc := true) (p_and rfl rfl (fun e => ⟨rfl, fun h => h⟩)) rfl rfl ?_
  refine TL.p (C := cx) (gc := true) (p_mv rfl) rfl rfl ?_
  refine TL.nil ?_
  refine hK3 _ _ ?_
  refine TK.ret ?_
  try dsimp only [thenQ]
  exact ret1 (v := Enc.v (((decide ((s1.l.length : Int) ≤ (24 : Int))) && (!r5)) : Bool)) rfl (by obtain rfl := some_in hX; rfl) (v_val _)

/-- cartridge/record.within -/
theorem ok_record_within (n1 : Int) (low2 : Int) (high3 : Int) (r : Bool) (hX : X.record_within n1 low2 high3 = some r) : Fun Tryd.prog 51 [Enc.v (n1 : Int), Enc.v (low2 : Int), Enc.v (high3 : Int)] (· = Enc.v (r : Bool)) := by
  refine Fun.of b51 (Nat.le_of_ble_eq_true rfl) (allVal.mem ⟨(by exact (v_val _)), (by exact (v_val _)), (by exact (v_val _)), trivial⟩) ?_
  unfold k51
  have nd : Nd [] := Nd_nil
  unfold X.record_within at hX
  refine TK.seq_k fun K4 hK4 => ?_
  refine TK.reg ?_
  refine TL.p (C := cx) (gc := true) (p_mv rfl) rfl rfl ?_
  refine TL.nil ?_
  refine hK4 _ _ ?_
  refine TK.seq_k fun K5 hK5 => ?_
  refine TK.reg ?_
  refine TL.p (C := cx) (gc := true) (p_mv rfl) rfl rfl ?_
  refine TL.p (C := cx) (gc := true) (p_mv rfl) rfl rfl ?_
  refine TL.p (C := cx) (gc := true) (p_geq rfl rfl) rfl rfl ?_
  refine TL.p (C := cx) (gc := true) (p_mv rfl) rfl rfl ?_
  refine TL.p (C := cx) (gc := ((decide (n1 ≥ low2)))) (p_mv rfl (hg := fun e => rfl)) (gcT1 rfl) rfl ?_
  refine TL.p (C := cx) (gc := ((decide (n1 ≥ low2)))) (p_mv rfl (hg := fun e => rfl)) (gcT1 rfl) rfl ?_
  refine TL.p (C := cx) (gc := ((decide (n1 ≥ low2)))) (p_leq rfl rfl (hg := fun e => ⟨e, e⟩)) (gcT1 rfl) rfl ?_
  refine TL.p (C := cx) (gc := true) (p_and rfl rfl (fun e => ⟨rfl, fun h => h⟩)) rfl rfl ?_
  refine TL.p (C := cx) (gc := true) (p_mv rfl) rfl rfl ?_
  refine TL.nil ?_
  refine hK5 _ _ ?_
  refine TK.ret ?_
  try dsimp only [thenQ]
  exact ret1 (v := Enc.v (((decide (n1 ≥ low2)) && (decide (n1 ≤ high3))) : Bool)) rfl (by obtain rfl := some_in hX; rfl) (v_val _)

/-- cartridge/record.RightHead -/
theorem ok_record_RightHead (h1 : Head_api) (r : Bool) (hX : X.record_RightHead h1 = some r) : Fun Tryd.prog 23 [Enc.v (h1 : Head_api)] (· = Enc.v (r : Bool)) := by
  refine Fun.of b23 (Nat.le_of_ble_eq_true rfl) (allVal.mem ⟨(by exact (v_val _)), trivial⟩) ?_
  unfold k23
  have nd : Nd [] := Nd_nil
  unfold X.record_RightHead at hX
  refine TK.seq_k fun K2 hK2 => ?_
  refine TK.reg ?_
  refine TL.boxV (C := cx) (lu := [Enc.v (h1.Path : Str), Enc.v (h1.Version : Int), Enc.v (h1.Size : Int), Enc.v (h1.From : Int), Enc.v (h1.Len : Int), Enc.v (h1.Serial : Int), Enc.v (h1.Sum : Int), Enc.v (h1.Gone : Bool)]) nd rfl (Cells_v (h1 : Head_api)) rfl ?_
  refine TL.p (C := cx) (gc := true) (p_mv rfl) rfl rfl ?_
  refine TL.nil ?_
  refine hK2 _ _ ?_
  refine TK.seq_k fun K3 hK3 => ?_
  refine TK.seq_k fun K4 hK4 => ?_
  refine TK.reg ?_
  refine TL.p (C := cx) (gc := true) (p_faR fs31_0 (by decide) rfl) rfl rfl ?_
  refine TL.p (C := cx) (gc := true) (p_ldR (v := Enc.v (h1.Path : Str)) ty9 rfl rfl rfl rfl rfl rfl) rfl rfl ?_
  obtain ⟨r5, hr5, hX⟩ := bind_some hX
  refine TL.cvX rfl rfl rfl (fun _ => ⟨rfl, ⟨rfl, trivial⟩⟩) (fun e => ok_path_Right h1.Path _ hr5) ?_
  refine TL.p (C := cx) (gc := true) (p_not rfl) rfl rfl ?_
  refine TL.p (C := cx) (gc := true) (p_mv rfl) rfl rfl ?_
  refine TL.p (C := cx) (gc := (!((!r5)))) (p_faR fs31_1 (by decide) rfl (hg := fun e => rfl)) (gcF1 rfl) rfl ?_
  refine TL.p (C := cx) (gc := (!((!r5)))) (p_ldR (v := Enc.v (h1.Version : Int)) ty3 rfl rfl rfl rfl rfl rfl (hg := fun e => e)) (gcF1 rfl) rfl ?_
  obtain ⟨r6, hr6, hX⟩ := bind_some hX
  refine TL.cvX (gcF1 rfl) rfl rfl (fun e => ⟨rfl, ⟨e, ⟨rfl, ⟨rfl, trivial⟩⟩⟩⟩) (fun e => ok_record_within h1.Version (1 : Int) (1073741824 : Int) _ (optG_t hr6 e)) ?_
  refine TL.p (C := cx) (gc := (!((!r5)))) (p_not rfl (hg := fun e => e)) (gcF1 rfl) rfl ?_
  refine TL.p (C := cx) (gc := true) (p_or rfl rfl (fun e => ⟨rfl, fun h => (not_t h)⟩)) rfl rfl ?_
  refine TL.p (C := cx) (gc := true) (p_mv rfl) rfl rfl ?_
  refine TL.p (C := cx) (gc := (!(((!r5) || (!r6))))) (p_faR fs31_5 (by decide) rfl (hg := fun e => rfl)) (gcF1 rfl) rfl ?_
  refine TL.p (C := cx) (gc := (!(((!r5) || (!r6))))) (p_ldR (v := Enc.v (h1.Serial : Int)) ty3 rfl rfl rfl rfl rfl rfl (hg := fun e => e)) (gcF1 rfl) rfl ?_
  obtain ⟨r7, hr7, hX⟩ := bind_some hX
  refine TL.cvX (gcF1 rfl) rfl rfl (fun e => ⟨rfl, ⟨e, ⟨rfl, ⟨rfl, trivial⟩⟩⟩⟩) (fun e => ok_record_within h1.Serial (1 : Int) (1073741824 : Int) _ (optG_t hr7 e)) ?_
  refine TL.p (C := cx) (gc := (!(((!r5) || (!r6))))) (p_not rfl (hg := fun e => e)) (gcF1 rfl) rfl ?_
  refine TL.p (C := cx) (gc := true) (p_or rfl rfl (fun e => ⟨rfl, fun h => (not_t h)⟩)) rfl rfl ?_
  refine TL.p (C := cx) (gc := true) (p_mv rfl) rfl rfl ?_
  refine TL.p (C := cx) (gc := (!((((!r5) || (!r6)) || (!r7))))) (p_faR fs31_2 (by decide) rfl (hg := fun e => rfl)) (gcF1 rfl) rfl ?_
  refine TL.p (C := cx) (gc := (!((((!r5) || (!r6)) || (!r7))))) (p_ldR (v := Enc.v (h1.Size : Int)) ty3 rfl rfl rfl rfl rfl rfl (hg := fun e => e)) (gcF1 rfl) rfl ?_
  obtain ⟨r8, hr8, hX⟩ := bind_some hX
  refine TL.cvX (gcF1 rfl) rfl rfl (fun e => ⟨rfl, ⟨e, ⟨rfl, ⟨rfl, trivial⟩⟩⟩⟩) (fun e => ok_record_within h1.Size (0 : Int) (4000 : Int) _ (optG_t hr8 e)) ?_
  refine TL.p (C := cx) (gc := (!((((!r5) || (!r6)) || (!r7))))) (p_not rfl (hg := fun e => e)) (gcF1 rfl) rfl ?_
  refine TL.p (C := cx) (gc := true) (p_or rfl rfl (fun e => ⟨rfl, fun h => (not_t h)⟩)) rfl rfl ?_
  refine TL.p (C := cx) (gc := true) (p_mv rfl) rfl rfl ?_
  refine TL.p (C := cx) (gc := (!(((((!r5) || (!r6)) || (!r7)) || (!r8))))) (p_faR fs31_6 (by decide) rfl (hg := fun e => rfl)) (gcF1 rfl) rfl ?_
  refine TL.p (C := cx) (gc := (!(((((!r5) || (!r6)) || (!r7)) || (!r8))))) (p_ldR (v := Enc.v (h1.Sum : Int)) ty3 rfl rfl rfl rfl rfl rfl (hg := fun e => e)) (gcF1 rfl) rfl ?_
  obtain ⟨r9, hr9, hX⟩ := bind_some hX
  refine TL.cvX (gcF1 rfl) rfl rfl (fun e => ⟨rfl, ⟨e, ⟨rfl, ⟨rfl, trivial⟩⟩⟩⟩) (fun e => ok_record_within h1.Sum (0 : Int) (4294967295 : Int) _ (optG_t hr9 e)) ?_
  refine TL.p (C := cx) (gc := (!(((((!r5) || (!r6)) || (!r7)) || (!r8))))) (p_not rfl (hg := fun e => e)) (gcF1 rfl) rfl ?_
  refine TL.p (C := cx) (gc := true) (p_or rfl rfl (fun e => ⟨rfl, fun h => (not_t h)⟩)) rfl rfl ?_
  refine TL.nil ?_
  refine hK4 _ _ ?_
  refine TK.cond (b := (((((!r5) || (!r6)) || (!r7)) || (!r8)) || (!r9))) rfl (fun hc => ?_) (fun hc => ?_)
  · have hX := ite_t hc hX
    refine TK.seq_k fun K10 hK10 => ?_
    refine TK.reg ?_
    refine TL.p (C := cx) (gc := true) (p_mv rfl) rfl rfl ?_
    refine TL.nil ?_
    refine hK10 _ _ ?_
    refine TK.ret ?_
    try dsimp only [thenQ]
    exact ret1 (v := Enc.v (false : Bool)) rfl (by obtain rfl := some_in hX; rfl) (v_val _)
  · have hX := ite_f hc hX
    refine TK.skip ?_
    refine hK3 _ _ ?_
    refine TK.seq_k fun K11 hK11 => ?_
    refine TK.seq_k fun K12 hK12 => ?_
    refine TK.reg ?_
    refine TL.p (C := cx) (gc := true) (p_faR fs31_3 (by decide) rfl) rfl rfl ?_
    refine TL.p (C := cx) (gc := true) (p_ldR (v := Enc.v (h1.From : Int)) ty3 rfl rfl rfl rfl rfl rfl) rfl rfl ?_
    refine TL.p (C := cx) (gc := true) (p_faR fs31_2 (by decide) rfl) rfl rfl ?_
    refine TL.p (C := cx) (gc := true) (p_ldR (v := Enc.v (h1.Size : Int)) ty3 rfl rfl rfl rfl rfl rfl) rfl rfl ?_
    obtain ⟨r13, hr13, hX⟩ := bind_some hX
    refine TL.cvX rfl rfl rfl (fun _ => ⟨rfl, ⟨rfl, ⟨rfl, ⟨rfl, trivial⟩⟩⟩⟩) (fun e => ok_record_within h1.From (0 : Int) h1.Size _ hr13) ?_
    refine TL.p (C := cx) (gc := true) (p_not rfl) rfl rfl ?_
    refine TL.p (C := cx) (gc := true) (p_mv rfl) rfl rfl ?_
    refine TL.p (C := cx) (gc := (!((!r13)))) (p_faR fs31_4 (by decide) rfl (hg := fun e => rfl)) (gcF1 rfl) rfl ?_
    refine TL.p (C := cx) (gc := (!((!r13)))) (p_ldR (v := Enc.v (h1.Len : Int)) ty3 rfl rfl rfl rfl rfl rfl (hg := fun e => e)) (gcF1 rfl) rfl ?_
    refine TL.p (C := cx) (gc := (!((!r13)))) (p_faR fs31_2 (by decide) rfl (hg := fun e => rfl)) (gcF1 rfl) rfl ?_
    refine TL.p (C := cx) (gc := (!((!r13)))) (p_ldR (v := Enc.v (h1.Size : Int)) ty3 rfl rfl rfl rfl rfl rfl (hg := fun e => e)) (gcF1 rfl) rfl ?_
    refine TL.p (C := cx) (gc := (!((!r13)))) (p_faR fs31_3 (by decide) rfl (hg := fun e => rfl)) (gcF1 rfl) rfl ?_
    refine TL.p (C := cx) (gc := (!((!r13)))) (p_ldR (v := Enc.v (h1.From : Int)) ty3 rfl rfl rfl rfl rfl rfl (hg := fun e => e)) (gcF1 rfl) rfl ?_
    refine TL.p (C := cx) (gc := (!((!r13)))) (p_sub rfl rfl (hg := fun e => ⟨e, e⟩)) (gcF1 rfl) rfl ?_
    obtain ⟨r14, hr14, hX⟩ := bind_some hX
    refine TL.cvX (gcF1 rfl) rfl rfl (fun e => ⟨rfl, ⟨e, ⟨rfl, ⟨e, trivial⟩⟩⟩⟩) (fun e => ok_record_within h1.Len (0 : Int) (wr (h1.Size - h1.From)) _ (optG_t hr14 e)) ?_
    refine TL.p (C := cx) (gc := (!((!r13)))) (p_not rfl (hg := fun e => e)) (gcF1 rfl) rfl ?_
    refine TL.p (C := cx) (gc := true) (p_or rfl rfl (fun e => ⟨rfl, fun h => (not_t h)⟩)) rfl rfl ?_
    refine TL.p (C := cx) (gc := true) (p_mv rfl) rfl rfl ?_
    refine TL.p (C := cx) (gc := (!(((!r13) || (!r14))))) (p_faR fs31_4 (by decide) rfl (hg := fun e => rfl)) (gcF1 rfl) rfl ?_
    refine TL.p (C := cx) (gc := (!(((!r13) || (!r14))))) (p_ldR (v := Enc.v (h1.Len : Int)) ty3 rfl rfl rfl rfl rfl rfl (hg := fun e => e)) (gcF1 rfl) rfl ?_
    refine TL.p (C := cx) (gc := (!(((!r13) || (!r14))))) (p_eql rfl rfl (hg := fun e => ⟨e, rfl⟩)) (gcF1 rfl) rfl ?_
    refine TL.p (C := cx) (gc := (!(((!r13) || (!r14))))) (p_mv rfl (hg := fun e => e)) (gcF1 rfl) rfl ?_
    refine TL.p (C := cx) (gc := ((!(((!r13) || (!r14)))) && ((h1.Len == (0 : Int))))) (p_faR fs31_2 (by decide) rfl (hg := fun e => rfl)) (gcT rfl) rfl ?_
    refine TL.p (C := cx) (gc := ((!(((!r13) || (!r14)))) && ((h1.Len == (0 : Int))))) (p_ldR (v := Enc.v (h1.Size : Int)) ty3 rfl rfl rfl rfl rfl rfl (hg := fun e => e)) (gcT rfl) rfl ?_
    refine TL.p (C := cx) (gc := ((!(((!r13) || (!r14)))) && ((h1.Len == (0 : Int))))) (p_gtr rfl rfl (hg := fun e => ⟨e, rfl⟩)) (gcT rfl) rfl ?_
    refine TL.p (C := cx) (gc := (!(((!r13) || (!r14))))) (p_and rfl rfl (fun e => ⟨e, fun h => (and_i e h)⟩)) (gcF1 rfl) rfl ?_
    refine TL.p (C := cx) (gc := true) (p_or rfl rfl (fun e => ⟨rfl, fun h => (not_t h)⟩)) rfl rfl ?_
    refine TL.nil ?_
    refine hK12 _ _ ?_
    refine TK.cond (b := (((!r13) || (!r14)) || ((h1.Len == (0 : Int)) && (decide (h1.Size > (0 : Int)))))) rfl (fun hc => ?_) (fun hc => ?_)
    · have hX := ite_t hc hX
      refine TK.seq_k fun K15 hK15 => ?_
      refine TK.reg ?_
      refine TL.p (C := cx) (gc := true) (p_mv rfl) rfl rfl ?_
      refine TL.nil ?_
      refine hK15 _ _ ?_
      refine TK.ret ?_
      try dsimp only [thenQ]
      exact ret1 (v := Enc.v (false : Bool)) rfl (by obtain rfl := some_in hX; rfl) (v_val _)
    · have hX := ite_f hc hX
      refine TK.skip ?_
      refine hK11 _ _ ?_
      refine TK.seq_k fun K16 hK16 => ?_
      refine TK.reg ?_
      refine TL.p (C := cx) (gc := true) (p_faR fs31_7 (by decide) rfl) rfl rfl ?_
      refine TL.p (C := cx) (gc := true) (p_ldR (v := Enc.v (h1.Gone : Bool)) ty4 rfl rfl rfl rfl rfl rfl) rfl rfl ?_
      refine TL.p (C := cx) (gc := true) (p_not rfl) rfl rfl ?_
      refine TL.p (C := cx) (gc := true) (p_mv rfl) rfl rfl ?_
      refine TL.p (C := cx) (gc := (!((!h1.Gone)))) (p_faR fs31_2 (by decide) rfl (hg := fun e => rfl)) (gcF1 rfl) rfl ?_
      refine TL.p (C := cx) (gc := (!((!h1.Gone)))) (p_ldR (v := Enc.v (h1.Size : Int)) ty3 rfl rfl rfl rfl rfl rfl (hg := fun e => e)) (gcF1 rfl) rfl ?_
      refine TL.p (C := cx) (gc := (!((!h1.Gone)))) (p_eql rfl rfl (hg := fun e => ⟨e, rfl⟩)) (gcF1 rfl) rfl ?_
      refine TL.p (C := cx) (gc := (!((!h1.Gone)))) (p_mv rfl (hg := fun e => e)) (gcF1 rfl) rfl ?_
      refine TL.p (C := cx) (gc := ((!((!h1.Gone))) && ((h1.Size == (0 : Int))))) (p_faR fs31_6 (by decide) rfl (hg := fun e => rfl)) (gcT rfl) rfl ?_
      refine TL.p (C := cx) (gc := ((!((!h1.Gone))) && ((h1.Size == (0 : Int))))) (p_ldR (v := Enc.v (h1.Sum : Int)) ty3 rfl rfl rfl rfl rfl rfl (hg := fun e => e)) (gcT rfl) rfl ?_
      refine TL.p (C := cx) (gc := ((!((!h1.Gone))) && ((h1.Size == (0 : Int))))) (p_eql rfl rfl (hg := fun e => ⟨e, rfl⟩)) (gcT rfl) rfl ?_
      refine TL.p (C := cx) (gc := (!((!h1.Gone)))) (p_and rfl rfl (fun e => ⟨e, fun h => (and_i e h)⟩)) (gcF1 rfl) rfl ?_
      refine TL.p (C := cx) (gc := true) (p_or rfl rfl (fun e => ⟨rfl, fun h => (not_t h)⟩)) rfl rfl ?_
      refine TL.p (C := cx) (gc := true) (p_mv rfl) rfl rfl ?_
      refine TL.nil ?_
      refine hK16 _ _ ?_
      refine TK.ret ?_
      try dsimp only [thenQ]
      exact ret1 (v := Enc.v (((!h1.Gone) || ((h1.Size == (0 : Int)) && (h1.Sum == (0 : Int)))) : Bool)) rfl (by obtain rfl := some_in hX; rfl) (v_val _)

/-- (*cartridge/code.Writer).Text -/
theorem ok_code_Writer_Text (s4 : Str) (b1 : (List UInt8)) (b2 : Nat) (b3 : Nat) (nd : Nd [(b2, RV 59 [OL (α := UInt8) b3 b1]), (b3, RL (α := UInt8) 5 b1)]) (r : (List UInt8)) (hX : X.code_Writer_Text s4 b1 = some r) : TCX Tryd.prog 37 [.ref b2 0 1, Enc.v (s4 : Str)] [(b2, RV 59 [OL (α := UInt8) b3 b1]), (b3, RL (α := UInt8) 5 b1)] (fun rv h' => ∃ b12, rv = .tup 0 (ofL []) ∧ h' = [(b2, RV 59 [OL (α := UInt8) b12 r]), (b12, RL (α := UInt8) 5 r)]) := by
  refine TCX.of b37 (Nat.le_of_ble_eq_true rfl) ?_
  unfold k37
  unfold X.code_Writer_Text at hX
  refine TK.endK fun KE hKE => ?_
  refine TK.seq_k fun K5 hK5 => ?_
  refine TK.reg ?_
  refine TL.p (C := cx) (gc := true) (p_mv rfl) rfl rfl ?_
  refine TL.p (C := cx) (gc := true) (p_mv rfl) rfl rfl ?_
  refine TL.p (C := cx) (gc := true) (p_lenS (s := s4) kd9 rfl) rfl rfl ?_
  refine TL.p (C := cx) (gc := true) (p_min rfl rfl) rfl rfl ?_
  obtain ⟨u6, hu6, hX⟩ := bind_some hX
  refine TL.p (C := cx) (gc := true) (p_sliS (s := s4) (l := (0 : Int)) (k := (min (s4.l.length : Int) (255 : Int))) kd9 rfl rfl (fun n hn => rfl) (fun e => need_t hu6)) rfl rfl ?_
  refine TL.p (C := cx) (gc := true) (p_mv rfl) rfl rfl ?_
  refine TL.nil ?_
  refine hK5 _ _ ?_
  refine TK.seq_k fun K7 hK7 => ?_
  refine TK.reg ?_
  refine TL.p (C := cx) (gc := true) (p_mv rfl) rfl rfl ?_
  refine TL.p (C := cx) (gc := true) (p_mv rfl) rfl rfl ?_
  refine TL.p (C := cx) (gc := true) (p_ncR rfl (fun _ => refOK_of nd (j := 0) rfl rfl)) rfl rfl ?_
  refine TL.p (C := cx) (gc := true) (p_faV fs59_0 (by decide) rfl nd (j := 0) rfl rfl) rfl rfl ?_
  refine TL.p (C := cx) (gc := true) (p_ldV (v := OL (α := UInt8) b3 b1) ty32 rfl rfl nd (j := 0) rfl rfl rfl rfl rfl) rfl rfl ?_
  refine TL.p (C := cx) (gc := true) (p_mv rfl) rfl rfl ?_
  refine TL.p (C := cx) (gc := true) (p_lenS (s := (Str.mk (slc s4.l (0 : Int) (min (s4.l.length : Int) (255 : Int))))) kd9 rfl) rfl rfl ?_
  refine TL.p (C := cx) (gc := true) (p_cvt src3 kd5 rfl (cv_u8 _)) rfl rfl ?_
  refine TL.lit (C := cx) ([(u8 ((Str.mk (slc s4.l (0 : Int) (min (s4.l.length : Int) (255 : Int)))).l.length : Int))] : List UInt8) kd32 ty5 rfl ⟨⟨rfl, rfl⟩, trivial⟩ rfl rfl rfl ?_
  obtain ⟨u9, hu9, hX⟩ := bind_some hX
  refine TL.appO (C := cx) nd kd32 bo32 ty5 rfl rfl (j := 1) rfl rfl (Src_L _) (by decide) (need_t hu9) rfl fun nd => ?_
  refine TL.p (C := cx) (gc := true) (p_ncR rfl (fun _ => refOK_of nd (j := 0) rfl rfl)) rfl rfl ?_
  refine TL.p (C := cx) (gc := true) (p_faV fs59_0 (by decide) rfl nd (j := 0) rfl rfl) rfl rfl ?_
  refine TL.stV (C := cx) (lu := [OL (α := UInt8) b3 (b1 ++ ([(u8 ((Str.mk (slc s4.l (0 : Int) (min (s4.l.length : Int) (255 : Int)))).l.length : Int))] : List UInt8))]) nd ty32 rfl (j := 0) rfl rfl rfl (Cells_rs (refOK_of nd (j := 1) rfl rfl)) rfl rfl [OL (α := UInt8) b3 (b1 ++ ([(u8 ((Str.mk (slc s4.l (0 : Int) (min (s4.l.length : Int) (255 : Int)))).l.length : Int))] : List UInt8))] rfl fun nd => ?_
  refine TL.nil ?_
  refine hK7 _ _ ?_
  refine TK.reg ?_
  refine TL.p (C := cx) (gc := true) (p_mv rfl) rfl rfl ?_
  refine TL.p (C := cx) (gc := true) (p_mv rfl) rfl rfl ?_
  refine TL.p (C := cx) (gc := true) (p_ncR rfl (fun _ => refOK_of nd (j := 0) rfl rfl)) rfl rfl ?_
  refine TL.p (C := cx) (gc := true) (p_faV fs59_0 (by decide) rfl nd (j := 0) rfl rfl) rfl rfl ?_
  refine TL.p (C := cx) (gc := true) (p_ldV (v := OL (α := UInt8) b3 (b1 ++ ([(u8 ((Str.mk (slc s4.l (0 : Int) (min (s4.l.length : Int) (255 : Int)))).l.length : Int))] : List UInt8))) ty32 rfl rfl nd (j := 0) rfl rfl rfl rfl rfl) rfl rfl ?_
  refine TL.p (C := cx) (gc := true) (p_mv rfl) rfl rfl ?_
  obtain ⟨u10, hu10, hX⟩ := bind_some hX
  refine TL.appO (C := cx) nd kd32 bo9 ty5 rfl rfl (j := 1) rfl rfl (Src_str (Str.mk (slc s4.l (0 : Int) (min (s4.l.length : Int) (255 : Int))))) (by decide) (need_t hu10) rfl fun nd => ?_
  refine TL.p (C := cx) (gc := true) (p_ncR rfl (fun _ => refOK_of nd (j := 0) rfl rfl)) rfl rfl ?_
  refine TL.p (C := cx) (gc := true) (p_faV fs59_0 (by decide) rfl nd (j := 0) rfl rfl) rfl rfl ?_
  refine TL.stV (C := cx) (lu := [OL (α := UInt8) b3 ((b1 ++ ([(u8 ((Str.mk (slc s4.l (0 : Int) (min (s4.l.length : Int) (255 : Int)))).l.length : Int))] : List UInt8)) ++ (Str.mk (slc s4.l (0 : Int) (min (s4.l.length : Int) (255 : Int)))).l)]) nd ty32 rfl (j := 0) rfl rfl rfl (Cells_rs (refOK_of nd (j := 1) rfl rfl)) rfl rfl [OL (α := UInt8) b3 ((b1 ++ ([(u8 ((Str.mk (slc s4.l (0 : Int) (min (s4.l.length : Int) (255 : Int)))).l.length : Int))] : List UInt8)) ++ (Str.mk (slc s4.l (0 : Int) (min (s4.l.length : Int) (255 : Int)))).l)] rfl fun nd => ?_
  refine TL.nil ?_
  refine hKE _ _ ?_
  refine TL.nil ?_
  try dsimp only [thenQ]
  refine RetQ_end ?_
  exact retX (v := .tup 0 (ofL [])) res0 (by obtain rfl := some_in hX; exact ⟨b3, rfl, rfl⟩) nd (inH_tup (l := []) trivial) ⟨rowIn_RV ⟨inH_rs nd (j := 1) rfl, trivial⟩, rowIn_RL, trivial⟩

/-- (*cartridge/code.Writer).Int -/
theorem ok_code_Writer_Int (n4 : Int) (b1 : (List UInt8)) (b2 : Nat) (b3 : Nat) (nd : Nd [(b2, RV 59 [OL (α := UInt8) b3 b1]), (b3, RL (α := UInt8) 5 b1)]) (r : (List UInt8)) (hX : X.code_Writer_Int n4 b1 = some r) : TCX Tryd.prog 38 [.ref b2 0 1, Enc.v (n4 : Int)] [(b2, RV 59 [OL (α := UInt8) b3 b1]), (b3, RL (α := UInt8) 5 b1)] (fun rv h' => ∃ b8, rv = .tup 0 (ofL []) ∧ h' = [(b2, RV 59 [OL (α := UInt8) b8 r]), (b8, RL (α := UInt8) 5 r)]) := by
  refine TCX.of b38 (Nat.le_of_ble_eq_true rfl) ?_
  unfold k38
  unfold X.code_Writer_Int at hX
  refine TK.endK fun KE hKE => ?_
  refine TK.seq_k fun K5 hK5 => ?_
  refine TK.reg ?_
  refine TL.p (C := cx) (gc := true) (p_mv rfl) rfl rfl ?_
  refine TL.p (C := cx) (gc := true) (p_cvt src3 kd83 rfl (cv_u32 _)) rfl rfl ?_
  refine TL.p (C := cx) (gc := true) (p_mv rfl) rfl rfl ?_
  refine TL.nil ?_
  refine hK5 _ _ ?_
  refine TK.reg ?_
  refine TL.p (C := cx) (gc := true) (p_mv rfl) rfl rfl ?_
  refine TL.p (C := cx) (gc := true) (p_mv rfl) rfl rfl ?_
  refine TL.p (C := cx) (gc := true) (p_ncR rfl (fun _ => refOK_of nd (j := 0) rfl rfl)) rfl rfl ?_
  refine TL.p (C := cx) (gc := true) (p_faV fs59_0 (by decide) rfl nd (j := 0) rfl rfl) rfl rfl ?_
  refine TL.p (C := cx) (gc := true) (p_ldV (v := OL (α := UInt8) b3 b1) ty32 rfl rfl nd (j := 0) rfl rfl rfl rfl rfl) rfl rfl ?_
  refine TL.p (C := cx) (gc := true) (p_mv rfl) rfl rfl ?_
  refine TL.p (C := cx) (gc := true) (p32_shr (a := (u32 n4)) (b := 24) rfl rfl) rfl rfl ?_
  refine TL.p (C := cx) (gc := true) (p_cvt src83 kd5 rfl (cv_u8 _)) rfl rfl ?_
  refine TL.p (C := cx) (gc := true) (p_mv rfl) rfl rfl ?_
  refine TL.p (C := cx) (gc := true) (p32_shr (a := (u32 n4)) (b := 16) rfl rfl) rfl rfl ?_
  refine TL.p (C := cx) (gc := true) (p_cvt src83 kd5 rfl (cv_u8 _)) rfl rfl ?_
  refine TL.p (C := cx) (gc := true) (p_mv rfl) rfl rfl ?_
  refine TL.p (C := cx) (gc := true) (p32_shr (a := (u32 n4)) (b := 8) rfl rfl) rfl rfl ?_
  refine TL.p (C := cx) (gc := true) (p_cvt src83 kd5 rfl (cv_u8 _)) rfl rfl ?_
  refine TL.p (C := cx) (gc := true) (p_mv rfl) rfl rfl ?_
  refine TL.p (C := cx) (gc := true) (p_cvt src83 kd5 rfl (cv_u8 _)) rfl rfl ?_
  refine TL.lit (C := cx) ([(u8 ((shr32 (u32 n4) 24).toNat : Int)), (u8 ((shr32 (u32 n4) 16).toNat : Int)), (u8 ((shr32 (u32 n4) 8).toNat : Int)), (u8 ((u32 n4).toNat : Int))] : List UInt8) kd32 ty5 rfl ⟨⟨rfl, rfl⟩, ⟨rfl, rfl⟩, ⟨rfl, rfl⟩, ⟨rfl, rfl⟩, trivial⟩ rfl rfl rfl ?_
  obtain ⟨u6, hu6, hX⟩ := bind_some hX
  refine TL.appO (C := cx) nd kd32 bo32 ty5 rfl rfl (j := 1) rfl rfl (Src_L _) (by decide) (need_t hu6) rfl fun nd => ?_
  refine TL.p (C := cx) (gc := true) (p_ncR rfl (fun _ => refOK_of nd (j := 0) rfl rfl)) rfl rfl ?_
  refine TL.p (C := cx) (gc := true) (p_faV fs59_0 (by decide) rfl nd (j := 0) rfl rfl) rfl rfl ?_
  refine TL.stV (C := cx) (lu := [OL (α := UInt8) b3 (b1 ++ ([(u8 ((shr32 (u32 n4) 24).toNat : Int)), (u8 ((shr32 (u32 n4) 16).toNat : Int)), (u8 ((shr32 (u32 n4) 8).toNat : Int)), (u8 ((u32 n4).toNat : Int))] : List UInt8))]) nd ty32 rfl (j := 0) rfl rfl rfl (Cells_rs (refOK_of nd (j := 1) rfl rfl)) rfl rfl [OL (α := UInt8) b3 (b1 ++ ([(u8 ((shr32 (u32 n4) 24).toNat : Int)), (u8 ((shr32 (u32 n4) 16).toNat : Int)), (u8 ((shr32 (u32 n4) 8).toNat : Int)), (u8 ((u32 n4).toNat : Int))] : List UInt8))] rfl fun nd => ?_
  refine TL.nil ?_
  refine hKE _ _ ?_
  refine TL.nil ?_
  try dsimp only [thenQ]
  refine RetQ_end ?_
  exact retX (v := .tup 0 (ofL [])) res0 (by obtain rfl := some_in hX; exact ⟨b3, rfl, rfl⟩) nd (inH_tup (l := []) trivial) ⟨rowIn_RV ⟨inH_rs nd (j := 1) rfl, trivial⟩, rowIn_RL, trivial⟩

/-- (*cartridge/code.Writer).Byte -/
theorem ok_code_Writer_Byte (c4 : UInt8) (b1 : (List UInt8)) (b2 : Nat) (b3 : Nat) (nd : Nd [(b2, RV 59 [OL (α := UInt8) b3 b1]), (b3, RL (α := UInt8) 5 b1)]) (r : (List UInt8)) (hX : X.code_Writer_Byte c4 b1 = some r) : TCX Tryd.prog 39 [.ref b2 0 1, Enc.v (c4 : UInt8)] [(b2, RV 59 [OL (α := UInt8) b3 b1]), (b3, RL (α := UInt8) 5 b1)] (fun rv h' => ∃ b7, rv = .tup 0 (ofL []) ∧ h' = [(b2, RV 59 [OL (α := UInt8) b7 r]), (b7, RL (α := UInt8) 5 r)]) := by
  refine TCX.of b39 (Nat.le_of_ble_eq_true rfl) ?_
  unfold k39
  unfold X.code_Writer_Byte at hX
  refine TK.endK fun KE hKE => ?_
  refine TK.reg ?_
  refine TL.p (C := cx) (gc := true) (p_mv rfl) rfl rfl ?_
  refine TL.p (C := cx) (gc := true) (p_mv rfl) rfl rfl ?_
  refine TL.p (C := cx) (gc := true) (p_ncR rfl (fun _ => refOK_of nd (j := 0) rfl rfl)) rfl rfl ?_
  refine TL.p (C := cx) (gc := true) (p_faV fs59_0 (by decide) rfl nd (j := 0) rfl rfl) rfl rfl ?_
  refine TL.p (C := cx) (gc := true) (p_ldV (v := OL (α := UInt8) b3 b1) ty32 rfl rfl nd (j := 0) rfl rfl rfl rfl rfl) rfl rfl ?_
  refine TL.p (C := cx) (gc := true) (p_mv rfl) rfl rfl ?_
  refine TL.lit (C := cx) ([c4] : List UInt8) kd32 ty5 rfl ⟨⟨rfl, rfl⟩, trivial⟩ rfl rfl rfl ?_
  obtain ⟨u5, hu5, hX⟩ := bind_some hX
  refine TL.appO (C := cx) nd kd32 bo32 ty5 rfl rfl (j := 1) rfl rfl (Src_L _) (by decide) (need_t hu5) rfl fun nd => ?_
  refine TL.p (C := cx) (gc := true) (p_ncR rfl (fun _ => refOK_of nd (j := 0) rfl rfl)) rfl rfl ?_
  refine TL.p (C := cx) (gc := true) (p_faV fs59_0 (by decide) rfl nd (j := 0) rfl rfl) rfl rfl ?_
  refine TL.stV (C := cx) (lu := [OL (α := UInt8) b3 (b1 ++ ([c4] : List UInt8))]) nd ty32 rfl (j := 0) rfl rfl rfl (Cells_rs (refOK_of nd (j := 1) rfl rfl)) rfl rfl [OL (α := UInt8) b3 (b1 ++ ([c4] : List UInt8))] rfl fun nd => ?_
  refine TL.nil ?_
  refine hKE _ _ ?_
  refine TL.nil ?_
  try dsimp only [thenQ]
  refine RetQ_end ?_
  exact retX (v := .tup 0 (ofL [])) res0 (by obtain rfl := some_in hX; exact ⟨b3, rfl, rfl⟩) nd (inH_tup (l := []) trivial) ⟨rowIn_RV ⟨inH_rs nd (j := 1) rfl, trivial⟩, rowIn_RL, trivial⟩

/-- slices.Clone[[]byte,byte] -/
theorem ok_slices_Clone_Lbyte_byte_own (s1 : (List UInt8)) (b2 : Nat) (nd : Nd [(b2, RL (α := UInt8) 5 s1)]) (r : (List UInt8)) (hX : X.slices_Clone_Lbyte_byte_own s1 = some r) : TCX Tryd.prog 63 [OL (α := UInt8) b2 s1] [(b2, RL (α := UInt8) 5 s1)] (fun rv h' => rv = Enc.v (r : (List UInt8)) ∧ h' = [(b2, RL (α := UInt8) 5 s1)]) := by
  refine TCX.of b63 (Nat.le_of_ble_eq_true rfl) ?_
  unfold k63
  unfold X.slices_Clone_Lbyte_byte_own at hX
  refine TK.seq_k fun K3 hK3 => ?_
  refine TK.reg ?_
  refine TL.p (C := cx) (gc := true) (p_mv rfl) rfl rfl ?_
  refine TL.nil ?_
  refine hK3 _ _ ?_
  refine TK.seq_k fun K4 hK4 => ?_
  refine TK.seq_k fun K5 hK5 => ?_
  refine TK.reg ?_
  refine TL.p (C := cx) (gc := true) (p_mv rfl) rfl rfl ?_
  refine TL.eqNilO (C := cx) (xs := s1) nd kd32 rfl rfl (j := 0) rfl rfl fun z6 hbz6 => ?_
  replace hX := nilU_t hX hbz6
  refine TL.nil ?_
  refine hK5 _ _ ?_
  refine TK.cond (b := z6) rfl (fun hc => ?_) (fun hc => ?_)
  · have hX := ite_t hc hX
    refine TK.seq_k fun K7 hK7 => ?_
    refine TK.reg ?_
    refine TL.p (C := cx) (gc := true) (p_mv rfl) rfl rfl ?_
    refine TL.nil ?_
    refine hK7 _ _ ?_
    refine TK.wk 2 (L ([] : (List UInt8))) rfl Wk_nil ?_
    refine TK.ret ?_
    try dsimp only [thenQ]
    exact retX (v := Enc.v (([] : (List UInt8)) : (List UInt8))) (res1 rfl) (by obtain rfl := some_in hX; exact ⟨rfl, rfl⟩) nd (inH_val (v_val _)) ⟨rowIn_RL, trivial⟩
  · have hX := ite_f hc hX
    refine TK.skip ?_
    refine hK4 _ _ ?_
    refine TK.seq_k fun K8 hK8 => ?_
    refine TK.reg ?_
    refine TL.litZ (C := cx) kd32 ty5 rfl ?_
    refine TL.p (C := cx) (gc := true) (p_mv rfl) rfl rfl ?_
    obtain ⟨u9, hu9, hX⟩ := bind_some hX
    refine TL.appN (C := cx) nd kd32 bo32 ty5 rfl rfl (.inr rfl) rfl (Src_OL nd (j := 0) rfl) (by decide) (need_t hu9) rfl fun b10 nd => ?_
    refine TL.p (C := cx) (gc := true) (p_mv rfl) rfl rfl ?_
    refine TL.nil ?_
    refine hK8 _ _ ?_
    refine TK.lay [(2, L s1)] nd (j := 0) rfl ⟨⟨_, rfl, fix_OL nd (j := 0) rfl, rfl⟩, trivial⟩ fun nd => ?_
    refine TK.ret ?_
    try dsimp only [thenQ]
    exact retX (v := Enc.v (s1 : (List UInt8))) (res1 rfl) (by obtain rfl := some_in hX; exact ⟨rfl, rfl⟩) nd (inH_val (v_val _)) ⟨rowIn_RL, trivial⟩

/-- (*cartridge/code.Writer).Bytes -/
theorem ok_code_Writer_Bytes (b1 : (List UInt8)) (b2 : Nat) (b3 : Nat) (nd : Nd [(b2, RV 59 [OL (α := UInt8) b3 b1]), (b3, RL (α := UInt8) 5 b1)]) (r : (List UInt8)) (hX : X.code_Writer_Bytes b1 = some r) : TCX Tryd.prog 40 [.ref b2 0 1] [(b2, RV 59 [OL (α := UInt8) b3 b1]), (b3, RL (α := UInt8) 5 b1)] (fun rv h' => rv = Enc.v (r : (List UInt8)) ∧ h' = [(b2, RV 59 [OL (α := UInt8) b3 b1]), (b3, RL (α := UInt8) 5 b1)]) := by
  refine TCX.of b40 (Nat.le_of_ble_eq_true rfl) ?_
  unfold k40
  unfold X.code_Writer_Bytes at hX
  refine TK.seq_k fun K4 hK4 => ?_
  refine TK.reg ?_
  refine TL.p (C := cx) (gc := true) (p_mv rfl) rfl rfl ?_
  refine TL.nil ?_
  refine hK4 _ _ ?_
  refine TK.seq_k fun K5 hK5 => ?_
  refine TK.reg ?_
  refine TL.p (C := cx) (gc := true) (p_mv rfl) rfl rfl ?_
  refine TL.p (C := cx) (gc := true) (p_ncR rfl (fun _ => refOK_of nd (j := 0) rfl rfl)) rfl rfl ?_
  refine TL.p (C := cx) (gc := true) (p_faV fs59_0 (by decide) rfl nd (j := 0) rfl rfl) rfl rfl ?_
  refine TL.p (C := cx) (gc := true) (p_ldV (v := OL (α := UInt8) b3 b1) ty32 rfl rfl nd (j := 0) rfl rfl rfl rfl rfl) rfl rfl ?_
  obtain ⟨r6, hr6, hX⟩ := bind_some hX
  refine TL.pick [1, 0] nd (by decide) fun nd => ?_
  refine TL.tcX [(b3, RL (α := UInt8) 5 b1)] [(b2, RV 59 [OL (α := UInt8) b3 b1])] rfl nd (dlt rfl) rfl ⟨rfl, ⟨rfl, trivial⟩⟩ (ok_slices_Clone_Lbyte_byte_own b1 b3 (Nd.take nd 1 rfl) _ hr6) ?_
  rintro _ _ hQ nd
  obtain ⟨rfl, rfl⟩ := hQ
  refine TL.p (C := cx) (gc := true) (p_mv rfl) rfl rfl ?_
  refine TL.nil ?_
  refine hK5 _ _ ?_
  refine TK.pick [1, 0] nd (by decide) fun nd => ?_
  refine TK.ret ?_
  try dsimp only [thenQ]
  exact retX (v := Enc.v (r6 : (List UInt8))) (res1 rfl) (by obtain rfl := some_in hX; exact ⟨rfl, rfl⟩) nd (inH_val (v_val _)) ⟨rowIn_RV ⟨inH_rs nd (j := 1) rfl, trivial⟩, rowIn_RL, trivial⟩

/-- cartridge/record.HeadBytes -/
theorem ok_record_HeadBytes (h1 : Head_api) (r : (List UInt8)) (hX : X.record_HeadBytes h1 = some r) : Fun Tryd.prog 20 [Enc.v (h1 : Head_api)] (· = Enc.v (r : (List UInt8))) := by
  refine Fun.of b20 (Nat.le_of_ble_eq_true rfl) (allVal.mem ⟨(by exact (v_val _)), trivial⟩) ?_
  unfold k20
  have nd : Nd [] := Nd_nil
  unfold X.record_HeadBytes at hX
  refine TK.seq_k fun K2 hK2 => ?_
  refine TK.reg ?_
  refine TL.boxV (C := cx) (lu := [Enc.v (h1.Path : Str), Enc.v (h1.Version : Int), Enc.v (h1.Size : Int), Enc.v (h1.From : Int), Enc.v (h1.Len : Int), Enc.v (h1.Serial : Int), Enc.v (h1.Sum : Int), Enc.v (h1.Gone : Bool)]) nd rfl (Cells_v (h1 : Head_api)) rfl ?_
  refine TL.p (C := cx) (gc := true) (p_mv rfl) rfl rfl ?_
  refine TL.nil ?_
  refine hK2 _ _ ?_
  refine TK.seq_k fun K3 hK3 => ?_
  refine TK.seq_k fun K4 hK4 => ?_
  refine TK.reg ?_
  refine TL.p (C := cx) (gc := true) (p_ldRa (l' := Enc.cl (h1 : Head_api)) ty31 rfl rfl rfl rfl rfl (Nat.le_of_ble_eq_true rfl)) rfl rfl ?_
  obtain ⟨r5, hr5, hX⟩ := bind_some hX
  refine TL.cvX rfl rfl rfl (fun _ => ⟨rfl, ⟨rfl, trivial⟩⟩) (fun e => ok_record_RightHead h1 _ hr5) ?_
  refine TL.p (C := cx) (gc := true) (p_not rfl) rfl rfl ?_
  refine TL.nil ?_
  refine hK4 _ _ ?_
  refine TK.cond (b := (!r5)) rfl (fun hc => ?_) (fun hc => ?_)
  · have hX := ite_t hc hX
    refine TK.seq_k fun K6 hK6 => ?_
    refine TK.reg ?_
    refine TL.p (C := cx) (gc := true) (p_mv rfl) rfl rfl ?_
    refine TL.nil ?_
    refine hK6 _ _ ?_
    refine TK.wk 2 (L ([] : (List UInt8))) rfl Wk_nil ?_
    refine TK.ret ?_
    try dsimp only [thenQ]
    exact ret1 (v := Enc.v (([] : (List UInt8)) : (List UInt8))) rfl (by obtain rfl := some_in hX; rfl) (v_val _)
  · have hX := ite_f hc hX
    refine TK.skip ?_
    refine hK3 _ _ ?_
    refine TK.seq_k fun K7 hK7 => ?_
    refine TK.reg ?_
    refine TL.p (C := cx) (gc := true) (p_bld (l := [.nils]) ty59 rfl all59 rfl (fun _ => trivial)) rfl rfl ?_
    refine TL.boxO (C := cx) (lu := [.nils]) nd rfl (Cells_agg rfl (allA.mem ⟨trivial, trivial⟩)) rfl fun b8 nd => ?_
    refine TL.p (C := cx) (gc := true) (p_mv rfl) rfl rfl ?_
    refine TL.nil ?_
    refine hK7 _ _ ?_
    refine TK.ownC (α := UInt8) nd (j := 0) rfl 0 5 (.inl rfl) fun b9 nd => ?_
    refine TK.seq_k fun K10 hK10 => ?_
    refine TK.reg ?_
    refine TL.p (C := cx) (gc := true) (p_mv rfl) rfl rfl ?_
    refine TL.p (C := cx) (gc := true) (p_faR fs31_0 (by decide) rfl) rfl rfl ?_
    refine TL.p (C := cx) (gc := true) (p_ldR (v := Enc.v (h1.Path : Str)) ty9 rfl rfl rfl rfl rfl rfl) rfl rfl ?_
    obtain ⟨r11, hr11, hX⟩ := bind_some hX
    refine TL.pick [1, 0] nd (by decide) fun nd => ?_
    refine TL.tcX [(b8, RV 59 [OL (α := UInt8) b9 ([] : List UInt8)]), (b9, RL (α := UInt8) 5 ([] : List UInt8))] [] rfl nd (dlt rfl) rfl ⟨rfl, ⟨rfl, ⟨rfl, trivial⟩⟩⟩ (ok_code_Writer_Text h1.Path ([] : List UInt8) b8 b9 (Nd.take nd 2 rfl) _ hr11) ?_
    rintro _ _ hQ nd
    obtain ⟨b13, rfl, rfl⟩ := hQ
    refine TL.nil ?_
    refine hK10 _ _ ?_
    refine TK.seq_k fun K14 hK14 => ?_
    refine TK.seq_k fun K15 hK15 => ?_
    refine TK.reg ?_
    refine TL.p (C := cx) (gc := true) (p_faR fs31_1 (by decide) rfl) rfl rfl ?_
    refine TL.p (C := cx) (gc := true) (p_ldR (v := Enc.v (h1.Version : Int)) ty3 rfl rfl rfl rfl rfl rfl) rfl rfl ?_
    refine TL.p (C := cx) (gc := true) (p_faR fs31_2 (by decide) rfl) rfl rfl ?_
    refine TL.p (C := cx) (gc := true) (p_ldR (v := Enc.v (h1.Size : Int)) ty3 rfl rfl rfl rfl rfl rfl) rfl rfl ?_
    refine TL.p (C := cx) (gc := true) (p_faR fs31_3 (by decide) rfl) rfl rfl ?_
    refine TL.p (C := cx) (gc := true) (p_ldR (v := Enc.v (h1.From : Int)) ty3 rfl rfl rfl rfl rfl rfl) rfl rfl ?_
    refine TL.p (C := cx) (gc := true) (p_faR fs31_4 (by decide) rfl) rfl rfl ?_
    refine TL.p (C := cx) (gc := true) (p_ldR (v := Enc.v (h1.Len : Int)) ty3 rfl rfl rfl rfl rfl rfl) rfl rfl ?_
    refine TL.p (C := cx) (gc := true) (p_faR fs31_5 (by decide) rfl) rfl rfl ?_
    refine TL.p (C := cx) (gc := true) (p_ldR (v := Enc.v (h1.Serial : Int)) ty3 rfl rfl rfl rfl rfl rfl) rfl rfl ?_
    refine TL.p (C := cx) (gc := true) (p_faR fs31_6 (by decide) rfl) rfl rfl ?_
    refine TL.p (C := cx) (gc := true) (p_ldR (v := Enc.v (h1.Sum : Int)) ty3 rfl rfl rfl rfl rfl rfl) rfl rfl ?_
    refine TL.lit (C := cx) ([h1.Version, h1.Size, h1.From, h1.Len, h1.Serial, h1.Sum] : List Int) kd43 ty3 rfl ⟨⟨rfl, rfl⟩, ⟨rfl, rfl⟩, ⟨rfl, rfl⟩, ⟨rfl, rfl⟩, ⟨rfl, rfl⟩, ⟨rfl, rfl⟩, trivial⟩ rfl rfl rfl ?_
    refine TL.p (C := cx) (gc := true) (p_lenL (xs := ([h1.Version, h1.Size, h1.From, h1.Len, h1.Serial, h1.Sum] : List Int)) kd43 rfl) rfl rfl ?_
    refine TL.p (C := cx) (gc := true) (p_mv rfl) rfl rfl ?_
    refine TL.nil ?_
    refine hK15 _ _ ?_
    refine TK.block ?_
    obtain ⟨o16, hO16, hA16⟩ := bind_some hX
    have E16 : ∀ (l23 : List UInt8) (env : Env) (h : Hp), (∃ b22 b21, keepE [1, 3] env = [(1, true, .vref (ofL [Enc.v (h1.Path : Str), Enc.v (h1.Version : Int), Enc.v (h1.Size : Int), Enc.v (h1.From : Int), Enc.v (h1.Len : Int), Enc.v (h1.Serial : Int), Enc.v (h1.Sum : Int), Enc.v (h1.Gone : Bool)]) 8 0), (3, true, .ref b21 0 1)] ∧ Nd [(b22, RL (α := UInt8) 5 l23), (b21, RV 59 [OL (α := UInt8) b22 l23])] ∧ HSub [(b22, RL (α := UInt8) 5 l23), (b21, RV 59 [OL (α := UInt8) b22 l23])] h) → X.record_HeadBytes_e16 h1 l23 = some r → K14 env h := by
      intro l23 env h hE hX
      obtain ⟨b22, b21, henv, nd, hs⟩ := hE
      unfold X.record_HeadBytes_e16 at hX
      refine hK14 _ _ (TK.keep [1, 3] ?_)
      rw [henv]
      refine TK.subH hs ?_
      refine TK.seq_k fun K24 hK24 => ?_
      refine TK.reg ?_
      refine TL.p (C := cx) (gc := true) (p_mv rfl) rfl rfl ?_
      refine TL.nil ?_
      refine hK24 _ _ ?_
      refine TK.seq_k fun K25 hK25 => ?_
      have J25 : ∀ (gone28 : UInt8) (env : Env) (h : Hp), (∃ b27 b26, keepE [3, 6] env = [(3, true, .ref b26 0 1), (6, true, Enc.v (gone28 : UInt8))] ∧ Nd [(b27, RL (α := UInt8) 5 l23), (b26, RV 59 [OL (α := UInt8) b27 l23])] ∧ HSub [(b27, RL (α := UInt8) 5 l23), (b26, RV 59 [OL (α := UInt8) b27 l23])] h) → X.record_HeadBytes_j25 l23 gone28 = some r → K25 env h := by
        intro gone28 env h hE hX
        obtain ⟨b27, b26, henv, nd, hs⟩ := hE
        unfold X.record_HeadBytes_j25 at hX
        refine hK25 _ _ (TK.keep [3, 6] ?_)
        rw [henv]
        refine TK.subH hs ?_
        refine TK.seq_k fun K29 hK29 => ?_
        refine TK.reg ?_
        refine TL.p (C := cx) (gc := true) (p_mv rfl) rfl rfl ?_
        refine TL.p (C := cx) (gc := true) (p_mv rfl) rfl rfl ?_
        obtain ⟨r30, hr30, hX⟩ := bind_some hX
        refine TL.pick [1, 0] nd (by decide) fun nd => ?_
        refine TL.tcX [(b26, RV 59 [OL (α := UInt8) b27 l23]), (b27, RL (α := UInt8) 5 l23)] [] rfl nd (dlt rfl) rfl ⟨rfl, ⟨rfl, ⟨rfl, trivial⟩⟩⟩ (ok_code_Writer_Byte gone28 l23 b26 b27 (Nd.take nd 2 rfl) _ hr30) ?_
        rintro _ _ hQ nd
        obtain ⟨b32, rfl, rfl⟩ := hQ
        refine TL.nil ?_
        refine hK29 _ _ ?_
        refine TK.seq_k fun K33 hK33 => ?_
        refine TK.reg ?_
        refine TL.p (C := cx) (gc := true) (p_mv rfl) rfl rfl ?_
        obtain ⟨r34, hr34, hX⟩ := bind_some hX
        refine TL.tcX [(b26, RV 59 [OL (α := UInt8) b32 r30]), (b32, RL (α := UInt8) 5 r30)] [] rfl nd (dlt rfl) rfl ⟨rfl, ⟨rfl, trivial⟩⟩ (ok_code_Writer_Bytes r30 b26 b32 (Nd.take nd 2 rfl) _ hr34) ?_
        rintro _ _ hQ nd
        obtain ⟨rfl, rfl⟩ := hQ
        refine TL.p (C := cx) (gc := true) (p_mv rfl) rfl rfl ?_
        refine TL.nil ?_
        refine hK33 _ _ ?_
        refine TK.ret ?_
        try dsimp only [thenQ]
        exact ret1 (v := Enc.v (r34 : (List UInt8))) rfl (by obtain rfl := some_in hX; rfl) (v_val _)
      refine TK.seq_k fun K35 hK35 => ?_
      refine TK.reg ?_
      refine TL.p (C := cx) (gc := true) (p_faR fs31_7 (by decide) rfl) rfl rfl ?_
      refine TL.p (C := cx) (gc := true) (p_ldR (v := Enc.v (h1.Gone : Bool)) ty4 rfl rfl rfl rfl rfl rfl) rfl rfl ?_
      refine TL.nil ?_
      refine hK35 _ _ ?_
      refine TK.cond (b := h1.Gone) rfl (fun hc => ?_) (fun hc => ?_)
      · have hX := ite_t hc hX
        refine TK.reg ?_
        refine TL.p (C := cx) (gc := true) (p_mv rfl) rfl rfl ?_
        refine TL.nil ?_
        exact J25 (1 : UInt8) _ _ ⟨b22, b21, rfl, (Nd.pick nd (is := [0, 1]) (by decide)), (HSub.pick nd (is := [0, 1]) (by decide))⟩ hX
      · have hX := ite_f hc hX
        refine TK.skip ?_
        exact J25 (0 : UInt8) _ _ ⟨b22, b21, rfl, (Nd.pick nd (is := [0, 1]) (by decide)), (HSub.pick nd (is := [0, 1]) (by decide))⟩ hX
    refine TK.iter [1, 3, 28, 29, 30] (fun s env h => match s with | (l19, x20) => ∃ b18 b17, env = [(1, true, .vref (ofL [Enc.v (h1.Path : Str), Enc.v (h1.Version : Int), Enc.v (h1.Size : Int), Enc.v (h1.From : Int), Enc.v (h1.Len : Int), Enc.v (h1.Serial : Int), Enc.v (h1.Sum : Int), Enc.v (h1.Gone : Bool)]) 8 0), (3, true, .ref b17 0 1), (28, true, Enc.v (([h1.Version, h1.Size, h1.From, h1.Len, h1.Serial, h1.Sum] : List Int) : (List Int))), (29, true, Enc.v ((([h1.Version, h1.Size, h1.From, h1.Len, h1.Serial, h1.Sum] : List Int).length : Int) : Int)), (30, true, Enc.v (x20 : Int))] ∧ Nd [(b18, RL (α := UInt8) 5 l19), (b17, RV 59 [OL (α := UInt8) b18 l19])] ∧ HSub [(b18, RL (α := UInt8) 5 l19), (b17, RV 59 [OL (α := UInt8) b18 l19])] h) hO16 ⟨b13, b8, rfl, (Nd.pick nd (is := [1, 0]) (by decide)), (HSub.pick nd (is := [1, 0]) (by decide))⟩ ?_
    rintro ⟨l19, x20⟩ env h x16x ⟨b18, b17, rfl, nd, hs⟩ hX hR16
    refine TK.subH hs ?_
    unfold X.record_HeadBytes_s16 at hX
    try dsimp only at hX
    refine TK.seq_k fun K36 hK36 => ?_
    refine TK.reg ?_
    refine TL.p (C := cx) (gc := true) (p_lss rfl rfl) rfl rfl ?_
    refine TL.nil ?_
    refine hK36 _ _ ?_
    refine TK.seq_k fun K37 hK37 => ?_
    refine TK.cond (b := (decide (x20 < (([h1.Version, h1.Size, h1.From, h1.Len, h1.Serial, h1.Sum] : List Int).length : Int)))) rfl (fun hc => ?_) (fun hc => ?_)
    · have hX := ite_t hc hX
      refine TK.skip ?_
      refine hK37 _ _ ?_
      refine TK.seq_k fun K38 hK38 => ?_
      refine TK.block ?_
      refine TK.seq_k fun K39 hK39 => ?_
      refine TK.reg ?_
      obtain ⟨e40, he40, hX⟩ := bind_some hX
      refine TL.p (C := cx) (gc := true) (p_iaL (xs := ([h1.Version, h1.Size, h1.From, h1.Len, h1.Serial, h1.Sum] : List Int)) kd43 ty3 rfl rfl rfl (fun _ => he40)) rfl rfl ?_
      refine TL.p (C := cx) (gc := true) (p_ldE (xs := ([h1.Version, h1.Size, h1.From, h1.Len, h1.Serial, h1.Sum] : List Int)) (a := e40) (e40 : Int) ty3 rfl rfl (fun _ => he40) rfl rfl rfl) rfl rfl ?_
      refine TL.p (C := cx) (gc := true) (p_mv rfl) rfl rfl ?_
      refine TL.nil ?_
      refine hK39 _ _ ?_
      refine TK.reg ?_
      refine TL.p (C := cx) (gc := true) (p_mv rfl) rfl rfl ?_
      refine TL.p (C := cx) (gc := true) (p_mv rfl) rfl rfl ?_
      obtain ⟨r41, hr41, hX⟩ := bind_some hX
      refine TL.pick [1, 0] nd (by decide) fun nd => ?_
      refine TL.tcX [(b17, RV 59 [OL (α := UInt8) b18 l19]), (b18, RL (α := UInt8) 5 l19)] [] rfl nd (dlt rfl) rfl ⟨rfl, ⟨rfl, ⟨rfl, trivial⟩⟩⟩ (ok_code_Writer_Int e40 l19 b17 b18 (Nd.take nd 2 rfl) _ hr41) ?_
      rintro _ _ hQ nd
      obtain ⟨b43, rfl, rfl⟩ := hQ
      refine TL.nil ?_
      refine hK38 _ _ ?_
      refine TK.reg ?_
      refine TL.p (C := cx) (gc := true) (p_add rfl rfl) rfl rfl ?_
      refine TL.p (C := cx) (gc := true) (p_mv rfl) rfl rfl ?_
      refine TL.nil ?_
      exact ⟨_, (some_in hX).symm, b43, b17, rfl, (Nd.pick nd (is := [1, 0]) (by decide)), (HSub.pick nd (is := [1, 0]) (by decide))⟩
    · have hX := ite_f hc hX
      refine TK.exit ?_
      obtain rfl := hR16 _ (some_in hX).symm
      exact E16 l19 _ _ ⟨b18, b17, rfl, (Nd.pick nd (is := [0, 1]) (by decide)), (HSub.pick nd (is := [0, 1]) (by decide))⟩ hA16

/-- slices.Equal[[]byte,byte] -/
theorem ok_slices_Equal_Lbyte_byte (s11 : (List UInt8)) (s22 : (List UInt8)) (r : Bool) (hX : X.slices_Equal_Lbyte_byte s11 s22 = some r) : Fun Tryd.prog 46 [Enc.v (s11 : (List UInt8)), Enc.v (s22 : (List UInt8))] (· = Enc.v (r : Bool)) := by
  refine Fun.of b46 (Nat.le_of_ble_eq_true rfl) (allVal.mem ⟨(by exact (v_val _)), (by exact (v_val _)), trivial⟩) ?_
  unfold k46
  have nd : Nd [] := Nd_nil
  unfold X.slices_Equal_Lbyte_byte at hX
  refine TK.seq_k fun K3 hK3 => ?_
  refine TK.reg ?_
  refine TL.p (C := cx) (gc := true) (p_mv rfl) rfl rfl ?_
  refine TL.nil ?_
  refine hK3 _ _ ?_
  refine TK.seq_k fun K4 hK4 => ?_
  refine TK.seq_k fun K5 hK5 => ?_
  refine TK.reg ?_
  refine TL.p (C := cx) (gc := true) (p_mv rfl) rfl rfl ?_
  refine TL.p (C := cx) (gc := true) (p_lenL (xs := s11) kd32 rfl) rfl rfl ?_
  refine TL.p (C := cx) (gc := true) (p_mv rfl) rfl rfl ?_
  refine TL.p (C := cx) (gc := true) (p_lenL (xs := s22) kd32 rfl) rfl rfl ?_
  refine TL.p (C := cx) (gc := true) (p_neq rfl rfl) rfl rfl ?_
  refine TL.nil ?_
  refine hK5 _ _ ?_
  refine TK.cond (b := ((s11.length : Int) != (s22.length : Int))) rfl (fun hc => ?_) (fun hc => ?_)
  · have hX := ite_t hc hX
    refine TK.seq_k fun K6 hK6 => ?_
    refine TK.reg ?_
    refine TL.p (C := cx) (gc := true) (p_mv rfl) rfl rfl ?_
    refine TL.nil ?_
    refine hK6 _ _ ?_
    refine TK.ret ?_
    try dsimp only [thenQ]
    exact ret1 (v := Enc.v (false : Bool)) rfl (by obtain rfl := some_in hX; rfl) (v_val _)
  · have hX := ite_f hc hX
    refine TK.skip ?_
    refine hK4 _ _ ?_
    refine TK.seq_k fun K7 hK7 => ?_
    refine TK.seq_k fun K8 hK8 => ?_
    refine TK.reg ?_
    refine TL.p (C := cx) (gc := true) (p_mv rfl) rfl rfl ?_
    refine TL.p (C := cx) (gc := true) (p_lenL (xs := s11) kd32 rfl) rfl rfl ?_
    refine TL.p (C := cx) (gc := true) (p_mv rfl) rfl rfl ?_
    refine TL.nil ?_
    refine hK8 _ _ ?_
    refine TK.block ?_
    obtain ⟨o9, hO9, hA9⟩ := bind_some hX
    have E9 : ∀ (env : Env) (h : Hp), (∃ _u : Unit, keepE [] env = [] ∧ Nd [] ∧ HSub [] h) → X.slices_Equal_Lbyte_byte_e9 = some r → K7 env h := by
      intro  env h hE hX
      obtain ⟨_u, henv, nd, hs⟩ := hE
      unfold X.slices_Equal_Lbyte_byte_e9 at hX
      refine hK7 _ _ (TK.keep [] ?_)
      rw [henv]
      refine TK.subH hs ?_
      refine TK.seq_k fun K11 hK11 => ?_
      refine TK.reg ?_
      refine TL.p (C := cx) (gc := true) (p_mv rfl) rfl rfl ?_
      refine TL.nil ?_
      refine hK11 _ _ ?_
      refine TK.ret ?_
      try dsimp only [thenQ]
      exact ret1 (v := Enc.v (true : Bool)) rfl (by obtain rfl := some_in hX; rfl) (v_val _)
    refine TK.iter [0, 1, 12, 13] (fun s env h => match s with | x10 => ∃ _u : Unit, env = [(0, true, Enc.v (s11 : (List UInt8))), (1, true, Enc.v (s22 : (List UInt8))), (12, true, Enc.v ((s11.length : Int) : Int)), (13, true, Enc.v (x10 : Int))] ∧ Nd [] ∧ HSub [] h) hO9 ⟨(), rfl, Nd_nil, HSub.refl _⟩ ?_
    rintro x10 env h x9x ⟨_u, rfl, nd, hs⟩ hX hR9
    refine TK.subH hs ?_
    unfold X.slices_Equal_Lbyte_byte_s9 at hX
    try dsimp only at hX
    refine TK.seq_k fun K12 hK12 => ?_
    refine TK.reg ?_
    refine TL.p (C := cx) (gc := true) (p_lss rfl rfl) rfl rfl ?_
    refine TL.nil ?_
    refine hK12 _ _ ?_
    refine TK.seq_k fun K13 hK13 => ?_
    refine TK.cond (b := (decide (x10 < (s11.length : Int)))) rfl (fun hc => ?_) (fun hc => ?_)
    · have hX := ite_t hc hX
      refine TK.skip ?_
      refine hK13 _ _ ?_
      refine TK.seq_k fun K14 hK14 => ?_
      refine TK.block ?_
      refine TK.seq_k fun K15 hK15 => ?_
      refine TK.reg ?_
      refine TL.p (C := cx) (gc := true) (p_mv rfl) rfl rfl ?_
      refine TL.p (C := cx) (gc := true) (p_mv rfl) rfl rfl ?_
      refine TL.nil ?_
      refine hK15 _ _ ?_
      refine TK.seq_k fun K16 hK16 => ?_
      have ndS : Nd [] := Nd.pick nd (is := []) (by decide)
      refine TK.drwX (h := []) (hS := []) [(0, 0), (0, 1), (0, 2), (0, 3), (0, 4), (0, 5), (0, 6), (0, 7), (0, 8)] mixed (by kernel_rfl) (HSub_app nd) ?_
      refine DR0 (gc := true) rfl (vok_p (C := cx) (p_mv rfl)) rfl rfl ?_
      refine DR0 (gc := true) rfl (vok_p (C := cx) (p_mv rfl)) rfl rfl ?_
      obtain ⟨e17, he17, hX⟩ := bind_some hX
      refine DR0 (gc := true) rfl (vok_p (C := cx) (p_iaL (xs := s11) kd32 ty5 rfl rfl rfl (fun _ => he17))) rfl rfl ?_
      refine DR0 (gc := true) rfl (vok_p (C := cx) (p_ldE (xs := s11) (a := e17) (e17 : UInt8) ty5 rfl rfl (fun _ => he17) rfl rfl rfl)) rfl rfl ?_
      refine DR0 (gc := true) rfl (vok_p (C := cx) (p_mv rfl)) rfl rfl ?_
      refine DR0 (gc := true) rfl (vok_p (C := cx) (p_mv rfl)) rfl rfl ?_
      obtain ⟨e18, he18, hX⟩ := bind_some hX
      refine DR0 (gc := true) rfl (vok_p (C := cx) (p_iaL (xs := s22) kd32 ty5 rfl rfl rfl (fun _ => he18))) rfl rfl ?_
      refine DR0 (gc := true) rfl (vok_p (C := cx) (p_ldE (xs := s22) (a := e18) (e18 : UInt8) ty5 rfl rfl (fun _ => he18) rfl rfl rfl)) rfl rfl ?_
      refine DR0 (gc := true) rfl (vok_p (C := cx) (p8_neq (a := e17) (b := e18) rfl rfl)) rfl rfl ?_
      refine DRend ?_
      refine hK16 _ _ ?_
      refine TK.cond (b := (e17 != e18)) rfl (fun hc => ?_) (fun hc => ?_)
      · have hX := ite_t hc hX
        refine TK.seq_k fun K19 hK19 => ?_
        refine TK.reg ?_
        refine TL.p (C := cx) (gc := true) (p_mv rfl) rfl rfl ?_
        refine TL.nil ?_
        refine hK19 _ _ ?_
        refine TK.ret ?_
        obtain rfl := hR9 _ (some_in hX).symm
        replace hX := hA9
        try dsimp only [thenQ]
        exact ret1 (v := Enc.v (false : Bool)) rfl (by obtain rfl := some_in hX; rfl) (v_val _)
      · have hX := ite_f hc hX
        refine TK.skip ?_
        refine hK14 _ _ ?_
        refine TK.reg ?_
        refine TL.p (C := cx) (gc := true) (p_add rfl rfl) rfl rfl ?_
        refine TL.p (C := cx) (gc := true) (p_mv rfl) rfl rfl ?_
        refine TL.nil ?_
        exact ⟨_, (some_in hX).symm, (), rfl, Nd_nil, HSub.refl _⟩
    · have hX := ite_f hc hX
      refine TK.exit ?_
      obtain rfl := hR9 _ (some_in hX).symm
      exact E9 _ _ ⟨(), rfl, Nd_nil, HSub.refl _⟩ hA9

/-- cartridge/record.ReadHead -/
theorem bc21 : BodyC cx 21 50 [.c 2 31, .t 3] k21 := ⟨Enters.of Tryd.func21 (by kernel_rfl) (by kernel_rfl), _, _, Tryd.func21, rfl, by kernel_rfl, rfl, rfl⟩
theorem ok_record_ReadHead (b1 : (List UInt8)) (r : (Head_api × Int)) (hX : X.record_ReadHead b1 = some r) : Fun Tryd.prog 21 [Enc.v (b1 : (List UInt8))] (· = .tup 2 (ofL [Enc.v r.1, Enc.v r.2])) := by
  refine Fun.ofC (C := cx) bc21 (Nat.le_of_ble_eq_true rfl) (allVal.mem ⟨(by exact (v_val _)), trivial⟩) ?_
  unfold k21
  have nd : Nd [] := Nd_nil
  unfold X.record_ReadHead at hX
  refine TK.seq_k fun K2 hK2 => ?_
  refine TK.reg ?_
  refine TL.alO (C := cx) (l := [Enc.v ((Str.mk []) : Str), Enc.v ((0 : Int) : Int), Enc.v ((0 : Int) : Int), Enc.v ((0 : Int) : Int), Enc.v ((0 : Int) : Int), Enc.v ((0 : Int) : Int), Enc.v ((0 : Int) : Int), Enc.v (false : Bool)]) nd ty31 ti31_z rfl rfl fun b3 nd => ?_
  refine TL.p (C := cx) (gc := true) (p_mv rfl) rfl rfl ?_
  refine TL.nil ?_
  refine hK2 _ _ ?_
  refine TK.seq_k fun K4 hK4 => ?_
  refine TK.reg ?_
  refine TL.p (C := cx) (gc := true) (p_mv rfl) rfl rfl ?_
  obtain ⟨r5, hr5, hX⟩ := bind_some hX
  refine TL.tcX [] [(b3, RV 31 [Enc.v ((Str.mk []) : Str), Enc.v ((0 : Int) : Int), Enc.v ((0 : Int) : Int), Enc.v ((0 : Int) : Int), Enc.v ((0 : Int) : Int), Enc.v ((0 : Int) : Int), Enc.v ((0 : Int) : Int), Enc.v (false : Bool)])] rfl nd (dlt rfl) rfl ⟨rfl, ⟨rfl, trivial⟩⟩ (ok_code_NewReader b1 (Nd.take nd 0 rfl) _ hr5) ?_
  rintro _ _ hQ nd
  obtain ⟨b6, rfl, rfl⟩ := hQ
  refine TL.p (C := cx) (gc := true) (p_mv rfl) rfl rfl ?_
  refine TL.nil ?_
  refine hK4 _ _ ?_
  refine TK.seq_k fun K7 hK7 => ?_
  refine TK.reg ?_
  refine TL.p (C := cx) (gc := true) (p_mv rfl) rfl rfl ?_
  obtain ⟨r8, hr8, hX⟩ := bind_some hX
  refine TL.tcX [(b6, RV 87 [Enc.v (r5.1 : (List UInt8)), Enc.v (r5.2 : Bool)])] [(b3, RV 31 [Enc.v ((Str.mk []) : Str), Enc.v ((0 : Int) : Int), Enc.v ((0 : Int) : Int), Enc.v ((0 : Int) : Int), Enc.v ((0 : Int) : Int), Enc.v ((0 : Int) : Int), Enc.v ((0 : Int) : Int), Enc.v (false : Bool)])] rfl nd (dlt rfl) rfl ⟨rfl, ⟨rfl, trivial⟩⟩ (ok_code_Reader_Text r5.1 r5.2 b6 (Nd.take nd 1 rfl) _ hr8) ?_
  rintro _ _ hQ nd
  obtain ⟨rfl, rfl⟩ := hQ
  refine TL.p (C := cx) (gc := true) (p_bld (l := Enc.cl ((Head_api.mk r8.1 (0 : Int) (0 : Int) (0 : Int) (0 : Int) (0 : Int) (0 : Int) false) : Head_api)) ty31 rfl all31 rfl (fun _ => ⟨⟨rfl, trivial, rfl⟩, trivial⟩)) rfl rfl ?_
  refine TL.alO (C := cx) (l := [Enc.v ((Str.mk []) : Str), Enc.v ((0 : Int) : Int), Enc.v ((0 : Int) : Int), Enc.v ((0 : Int) : Int), Enc.v ((0 : Int) : Int), Enc.v ((0 : Int) : Int), Enc.v ((0 : Int) : Int), Enc.v (false : Bool)]) nd ty31 ti31_z rfl rfl fun b10 nd => ?_
  refine TL.stV (C := cx) (lu := Enc.cl ((Head_api.mk r8.1 (0 : Int) (0 : Int) (0 : Int) (0 : Int) (0 : Int) (0 : Int) false) : Head_api)) nd ty31 rfl (j := 0) rfl rfl rfl (Cells_v ((Head_api.mk r8.1 (0 : Int) (0 : Int) (0 : Int) (0 : Int) (0 : Int) (0 : Int) false) : Head_api)) rfl rfl [Enc.v ((Head_api.mk r8.1 (0 : Int) (0 : Int) (0 : Int) (0 : Int) (0 : Int) (0 : Int) false).Path : Str), Enc.v ((Head_api.mk r8.1 (0 : Int) (0 : Int) (0 : Int) (0 : Int) (0 : Int) (0 : Int) false).Version : Int), Enc.v ((Head_api.mk r8.1 (0 : Int) (0 : Int) (0 : Int) (0 : Int) (0 : Int) (0 : Int) false).Size : Int), Enc.v ((Head_api.mk r8.1 (0 : Int) (0 : Int) (0 : Int) (0 : Int) (0 : Int) (0 : Int) false).From : Int), Enc.v ((Head_api.mk r8.1 (0 : Int) (0 : Int) (0 : Int) (0 : Int) (0 : Int) (0 : Int) false).Len : Int), Enc.v ((Head_api.mk r8.1 (0 : Int) (0 : Int) (0 : Int) (0 : Int) (0 : Int) (0 : Int) false).Serial : Int), Enc.v ((Head_api.mk r8.1 (0 : Int) (0 : Int) (0 : Int) (0 : Int) (0 : Int) (0 : Int) false).Sum : Int), Enc.v ((Head_api.mk r8.1 (0 : Int) (0 : Int) (0 : Int) (0 : Int) (0 : Int) (0 : Int) false).Gone : Bool)] rfl fun nd => ?_
  refine TL.nil ?_
  refine hK7 _ _ ?_
  refine TK.seq_k fun K11 hK11 => ?_
  refine TK.seq_k fun K12 hK12 => ?_
  refine TK.reg ?_
  refine TL.p (C := cx) (gc := true) (p_faV fs31_1 (by decide) rfl nd (j := 0) rfl rfl) rfl rfl ?_
  refine TL.p (C := cx) (gc := true) (p_faV fs31_2 (by decide) rfl nd (j := 0) rfl rfl) rfl rfl ?_
  refine TL.p (C := cx) (gc := true) (p_faV fs31_3 (by decide) rfl nd (j := 0) rfl rfl) rfl rfl ?_
  refine TL.p (C := cx) (gc := true) (p_faV fs31_4 (by decide) rfl nd (j := 0) rfl rfl) rfl rfl ?_
  refine TL.p (C := cx) (gc := true) (p_faV fs31_5 (by decide) rfl nd (j := 0) rfl rfl) rfl rfl ?_
  refine TL.p (C := cx) (gc := true) (p_faV fs31_6 (by decide) rfl nd (j := 0) rfl rfl) rfl rfl ?_
  refine TL.litR (C := cx) [.ref b10 1 8, .ref b10 2 8, .ref b10 3 8, .ref b10 4 8, .ref b10 5 8, .ref b10 6 8] kd68 ty67 rfl ⟨⟨rfl, rfl, refOK_of nd (j := 0) rfl rfl⟩, ⟨rfl, rfl, refOK_of nd (j := 0) rfl rfl⟩, ⟨rfl, rfl, refOK_of nd (j := 0) rfl rfl⟩, ⟨rfl, rfl, refOK_of nd (j := 0) rfl rfl⟩, ⟨rfl, rfl, refOK_of nd (j := 0) rfl rfl⟩, ⟨rfl, rfl, refOK_of nd (j := 0) rfl rfl⟩, trivial⟩ rfl rfl rfl ?_
  refine TL.p (C := cx) (gc := true) (p_lenR' kd68 rfl) rfl rfl ?_
  refine TL.p (C := cx) (gc := true) (p_mv rfl) rfl rfl ?_
  refine TL.nil ?_
  refine hK12 _ _ ?_
  refine TK.block ?_
  refine TK.unroll 16 ?_
  refine unr_s ?_
  refine TK.seq_k fun K14 hK14 => ?_
  refine TK.reg ?_
  refine TL.p (C := cx) (gc := true) (p_lss rfl rfl) rfl rfl ?_
  refine TL.nil ?_
  refine hK14 _ _ ?_
  refine TK.seq_k fun K15 hK15 => ?_
  refine TK.cond (b := true) rfl (fun _ => ?_) (fun hc => by simp at hc)
  refine TK.skip ?_
  refine hK15 _ _ ?_
  refine TK.seq_k fun K16 hK16 => ?_
  refine TK.block ?_
  refine TK.seq_k fun K17 hK17 => ?_
  refine TK.reg ?_
  refine TL.p (C := cx) (gc := true) (p_iaR kd68 ty67 rfl rfl rfl (by decide) (by decide)) rfl rfl ?_
  refine TL.p (C := cx) (gc := true) (p_ldR (v := .ref b10 1 8) ty67 rfl rfl rfl rfl rfl rfl) rfl rfl ?_
  refine TL.p (C := cx) (gc := true) (p_mv rfl) rfl rfl ?_
  refine TL.nil ?_
  refine hK17 _ _ ?_
  refine TK.reg ?_
  refine TL.p (C := cx) (gc := true) (p_mv rfl) rfl rfl ?_
  refine TL.p (C := cx) (gc := true) (p_mv rfl) rfl rfl ?_
  obtain ⟨r18, hr18, hX⟩ := bind_some hX
  refine TL.pick [1, 0, 2] nd (by decide) fun nd => ?_
  refine TL.tcX [(b6, RV 87 [Enc.v (r8.2.1 : (List UInt8)), Enc.v (r8.2.2 : Bool)])] [(b10, RV 31 [Enc.v ((Head_api.mk r8.1 (0 : Int) (0 : Int) (0 : Int) (0 : Int) (0 : Int) (0 : Int) false).Path : Str), Enc.v ((Head_api.mk r8.1 (0 : Int) (0 : Int) (0 : Int) (0 : Int) (0 : Int) (0 : Int) false).Version : Int), Enc.v ((Head_api.mk r8.1 (0 : Int) (0 : Int) (0 : Int) (0 : Int) (0 : Int) (0 : Int) false).Size : Int), Enc.v ((Head_api.mk r8.1 (0 : Int) (0 : Int) (0 : Int) (0 : Int) (0 : Int) (0 : Int) false).From : Int), Enc.v ((Head_api.mk r8.1 (0 : Int) (0 : Int) (0 : Int) (0 : Int) (0 : Int) (0 : Int) false).Len : Int), Enc.v ((Head_api.mk r8.1 (0 : Int) (0 : Int) (0 : Int) (0 : Int) (0 : Int) (0 : Int) false).Serial : Int), Enc.v ((Head_api.mk r8.1 (0 : Int) (0 : Int) (0 : Int) (0 : Int) (0 : Int) (0 : Int) false).Sum : Int), Enc.v ((Head_api.mk r8.1 (0 : Int) (0 : Int) (0 : Int) (0 : Int) (0 : Int) (0 : Int) false).Gone : Bool)]), (b3, RV 31 [Enc.v ((Str.mk []) : Str), Enc.v ((0 : Int) : Int), Enc.v ((0 : Int) : Int), Enc.v ((0 : Int) : Int), Enc.v ((0 : Int) : Int), Enc.v ((0 : Int) : Int), Enc.v ((0 : Int) : Int), Enc.v (false : Bool)])] rfl nd (dlt rfl) rfl ⟨rfl, ⟨rfl, trivial⟩⟩ (ok_code_Reader_Int r8.2.1 r8.2.2 b6 (Nd.take nd 1 rfl) _ hr18) ?_
  rintro _ _ hQ nd
  obtain ⟨rfl, rfl⟩ := hQ
  refine TL.p (C := cx) (gc := true) (p_ncR rfl (fun _ => refOK_of nd (j := 1) rfl rfl)) rfl rfl ?_
  refine TL.stV (C := cx) (lu := Enc.cl (r18.1 : Int)) nd ty3 rfl (j := 1) rfl rfl rfl (Cells_v (r18.1 : Int)) rfl rfl [Enc.v ((Head_api.mk r8.1 (0 : Int) (0 : Int) (0 : Int) (0 : Int) (0 : Int) (0 : Int) false).Path : Str), Enc.v (r18.1 : Int), Enc.v ((Head_api.mk r8.1 (0 : Int) (0 : Int) (0 : Int) (0 : Int) (0 : Int) (0 : Int) false).Size : Int), Enc.v ((Head_api.mk r8.1 (0 : Int) (0 : Int) (0 : Int) (0 : Int) (0 : Int) (0 : Int) false).From : Int), Enc.v ((Head_api.mk r8.1 (0 : Int) (0 : Int) (0 : Int) (0 : Int) (0 : Int) (0 : Int) false).Len : Int), Enc.v ((Head_api.mk r8.1 (0 : Int) (0 : Int) (0 : Int) (0 : Int) (0 : Int) (0 : Int) false).Serial : Int), Enc.v ((Head_api.mk r8.1 (0 : Int) (0 : Int) (0 : Int) (0 : Int) (0 : Int) (0 : Int) false).Sum : Int), Enc.v ((Head_api.mk r8.1 (0 : Int) (0 : Int) (0 : Int) (0 : Int) (0 : Int) (0 : Int) false).Gone : Bool)] rfl fun nd => ?_
  refine TL.nil ?_
  refine hK16 _ _ ?_
  refine TK.reg ?_
  refine TL.p (C := cx) (gc := true) (p_add rfl rfl) rfl rfl ?_
  refine TL.p (C := cx) (gc := true) (p_mv rfl) rfl rfl ?_
  refine TL.nil ?_
  try dsimp only [thenQ]
  refine unr_s ?_
  refine TK.seq_k fun K20 hK20 => ?_
  refine TK.reg ?_
  refine TL.p (C := cx) (gc := true) (p_lss rfl rfl) rfl rfl ?_
  refine TL.nil ?_
  refine hK20 _ _ ?_
  refine TK.seq_k fun K21 hK21 => ?_
  refine TK.cond (b := true) rfl (fun _ => ?_) (fun hc => by simp at hc)
  refine TK.skip ?_
  refine hK21 _ _ ?_
  refine TK.seq_k fun K22 hK22 => ?_
  refine TK.block ?_
  refine TK.seq_k fun K23 hK23 => ?_
  refine TK.reg ?_
  refine TL.p (C := cx) (gc := true) (p_iaR kd68 ty67 rfl rfl rfl (by decide) (by decide)) rfl rfl ?_
  refine TL.p (C := cx) (gc := true) (p_ldR (v := .ref b10 2 8) ty67 rfl rfl rfl rfl rfl rfl) rfl rfl ?_
  refine TL.p (C := cx) (gc := true) (p_mv rfl) rfl rfl ?_
  refine TL.nil ?_
  refine hK23 _ _ ?_
  refine TK.reg ?_
  refine TL.p (C := cx) (gc := true) (p_mv rfl) rfl rfl ?_
  refine TL.p (C := cx) (gc := true) (p_mv rfl) rfl rfl ?_
  obtain ⟨r24, hr24, hX⟩ := bind_some hX
  refine TL.tcX [(b6, RV 87 [Enc.v (r18.2.1 : (List UInt8)), Enc.v (r18.2.2 : Bool)])] [(b10, RV 31 [Enc.v ((Head_api.mk r8.1 (0 : Int) (0 : Int) (0 : Int) (0 : Int) (0 : Int) (0 : Int) false).Path : Str), Enc.v (r18.1 : Int), Enc.v ((Head_api.mk r8.1 (0 : Int) (0 : Int) (0 : Int) (0 : Int) (0 : Int) (0 : Int) false).Size : Int), Enc.v ((Head_api.mk r8.1 (0 : Int) (0 : Int) (0 : Int) (0 : Int) (0 : Int) (0 : Int) false).From : Int), Enc.v ((Head_api.mk r8.1 (0 : Int) (0 : Int) (0 : Int) (0 : Int) (0 : Int) (0 : Int) false).Len : Int), Enc.v ((Head_api.mk r8.1 (0 : Int) (0 : Int) (0 : Int) (0 : Int) (0 : Int) (0 : Int) false).Serial : Int), Enc.v ((Head_api.mk r8.1 (0 : Int) (0 : Int) (0 : Int) (0 : Int) (0 : Int) (0 : Int) false).Sum : Int), Enc.v ((Head_api.mk r8.1 (0 : Int) (0 : Int) (0 : Int) (0 : Int) (0 : Int) (0 : Int) false).Gone : Bool)]), (b3, RV 31 [Enc.v ((Str.mk []) : Str), Enc.v ((0 : Int) : Int), Enc.v ((0 : Int) : Int), Enc.v ((0 : Int) : Int), Enc.v ((0 : Int) : Int), Enc.v ((0 : Int) : Int), Enc.v ((0 : Int) : Int), Enc.v (false : Bool)])] rfl nd (dlt rfl) rfl ⟨rfl, ⟨rfl, trivial⟩⟩ (ok_code_Reader_Int r18.2.1 r18.2.2 b6 (Nd.take nd 1 rfl) _ hr24) ?_
  rintro _ _ hQ nd
  obtain ⟨rfl, rfl⟩ := hQ
  refine TL.p (C := cx) (gc := true) (p_ncR rfl (fun _ => refOK_of nd (j := 1) rfl rfl)) rfl rfl ?_
  refine TL.stV (C := cx) (lu := Enc.cl (r24.1 : Int)) nd ty3 rfl (j := 1) rfl rfl rfl (Cells_v (r24.1 : Int)) rfl rfl [Enc.v ((Head_api.mk r8.1 (0 : Int) (0 : Int) (0 : Int) (0 : Int) (0 : Int) (0 : Int) false).Path : Str), Enc.v (r18.1 : Int), Enc.v (r24.1 : Int), Enc.v ((Head_api.mk r8.1 (0 : Int) (0 : Int) (0 : Int) (0 : Int) (0 : Int) (0 : Int) false).From : Int), Enc.v ((Head_api.mk r8.1 (0 : Int) (0 : Int) (0 : Int) (0 : Int) (0 : Int) (0 : Int) false).Len : Int), Enc.v ((Head_api.mk r8.1 (0 : Int) (0 : Int) (0 : Int) (0 : Int) (0 : Int) (0 : Int) false).Serial : Int), Enc.v ((Head_api.mk r8.1 (0 : Int) (0 : Int) (0 : Int) (0 : Int) (0 : Int) (0 : Int) false).Sum : Int), Enc.v ((Head_api.mk r8.1 (0 : Int) (0 : Int) (0 : Int) (0 : Int) (0 : Int) (0 : Int) false).Gone : Bool)] rfl fun nd => ?_
  refine TL.nil ?_
  refine hK22 _ _ ?_
  refine TK.reg ?_
  refine TL.p (C := cx) (gc := true) (p_add rfl rfl) rfl rfl ?_
  refine TL.p (C := cx) (gc := true) (p_mv rfl) rfl rfl ?_
  refine TL.nil ?_
  try dsimp only [thenQ]
  refine unr_s ?_
  refine TK.seq_k fun K26 hK26 => ?_
  refine TK.reg ?_
  refine TL.p (C := cx) (gc := true) (p_lss rfl rfl) rfl rfl ?_
  refine TL.nil ?_
  refine hK26 _ _ ?_
  refine TK.seq_k fun K27 hK27 => ?_
  refine TK.cond (b := true) rfl (fun _ => ?_) (fun hc => by simp at hc)
  refine TK.skip ?_
  refine hK27 _ _ ?_
  refine TK.seq_k fun K28 hK28 => ?_
  refine TK.block ?_
  refine TK.seq_k fun K29 hK29 => ?_
  refine TK.reg ?_
  refine TL.p (C := cx) (gc := true) (p_iaR kd68 ty67 rfl rfl rfl (by decide) (by decide)) rfl rfl ?_
  refine TL.p (C := cx) (gc := true) (p_ldR (v := .ref b10 3 8) ty67 rfl rfl rfl rfl rfl rfl) rfl rfl ?_
  refine TL.p (C := cx) (gc := true) (p_mv rfl) rfl rfl ?_
  refine TL.nil ?_
  refine hK29 _ _ ?_
  refine TK.reg ?_
  refine TL.p (C := cx) (gc := true) (p_mv rfl) rfl rfl ?_
  refine TL.p (C := cx) (gc := true) (p_mv rfl) rfl rfl ?_
  obtain ⟨r30, hr30, hX⟩ := bind_some hX
  refine TL.tcX [(b6, RV 87 [Enc.v (r24.2.1 : (List UInt8)), Enc.v (r24.2.2 : Bool)])] [(b10, RV 31 [Enc.v ((Head_api.mk r8.1 (0 : Int) (0 : Int) (0 : Int) (0 : Int) (0 : Int) (0 : Int) false).Path : Str), Enc.v (r18.1 : Int), Enc.v (r24.1 : Int), Enc.v ((Head_api.mk r8.1 (0 : Int) (0 : Int) (0 : Int) (0 : Int) (0 : Int) (0 : Int) false).From : Int), Enc.v ((Head_api.mk r8.1 (0 : Int) (0 : Int) (0 : Int) (0 : Int) (0 : Int) (0 : Int) false).Len : Int), Enc.v ((Head_api.mk r8.1 (0 : Int) (0 : Int) (0 : Int) (0 : Int) (0 : Int) (0 : Int) false).Serial : Int), Enc.v ((Head_api.mk r8.1 (0 : Int) (0 : Int) (0 : Int) (0 : Int) (0 : Int) (0 : Int) false).Sum : Int), Enc.v ((Head_api.mk r8.1 (0 : Int) (0 : Int) (0 : Int) (0 : Int) (0 : Int) (0 : Int) false).Gone : Bool)]), (b3, RV 31 [Enc.v ((Str.mk []) : Str), Enc.v ((0 : Int) : Int), Enc.v ((0 : Int) : Int), Enc.v ((0 : Int) : Int), Enc.v ((0 : Int) : Int), Enc.v ((0 : Int) : Int), Enc.v ((0 : Int) : Int), Enc.v (false : Bool)])] rfl nd (dlt rfl) rfl ⟨rfl, ⟨rfl, trivial⟩⟩ (ok_code_Reader_Int r24.2.1 r24.2.2 b6 (Nd.take nd 1 rfl) _ hr30) ?_
  rintro _ _ hQ nd
  obtain ⟨rfl, rfl⟩ := hQ
  refine TL.p (C := cx) (gc := true) (p_ncR rfl (fun _ => refOK_of nd (j := 1) rfl rfl)) rfl rfl ?_
  refine TL.stV (C := cx) (lu := Enc.cl (r30.1 : Int)) nd ty3 rfl (j := 1) rfl rfl rfl (Cells_v (r30.1 : Int)) rfl rfl [Enc.v ((Head_api.mk r8.1 (0 : Int) (0 : Int) (0 : Int) (0 : Int) (0 : Int) (0 : Int) false).Path : Str), Enc.v (r18.1 : Int), Enc.v (r24.1 : Int), Enc.v (r30.1 : Int), Enc.v ((Head_api.mk r8.1 (0 : Int) (0 : Int) (0 : Int) (0 : Int) (0 : Int) (0 : Int) false).Len : Int), Enc.v ((Head_api.mk r8.1 (0 : Int) (0 : Int) (0 : Int) (0 : Int) (0 : Int) (0 : Int) false).Serial : Int), Enc.v ((Head_api.mk r8.1 (0 : Int) (0 : Int) (0 : Int) (0 : Int) (0 : Int) (0 : Int) false).Sum : Int), Enc.v ((Head_api.mk r8.1 (0 : Int) (0 : Int) (0 : Int) (0 : Int) (0 : Int) (0 : Int) false).Gone : Bool)] rfl fun nd => ?_
  refine TL.nil ?_
  refine hK28 _ _ ?_
  refine TK.reg ?_
  refine TL.p (C := cx) (gc := true) (p_add rfl rfl) rfl rfl ?_
  refine TL.p (C := cx) (gc := true) (p_mv rfl) rfl rfl ?_
  refine TL.nil ?_
  try dsimp only [thenQ]
  refine unr_s ?_
  refine TK.seq_k fun K32 hK32 => ?_
  refine TK.reg ?_
  refine TL.p (C := cx) (gc := true) (p_lss rfl rfl) rfl rfl ?_
  refine TL.nil ?_
  refine hK32 _ _ ?_
  refine TK.seq_k fun K33 hK33 => ?_
  refine TK.cond (b := true) rfl (fun _ => ?_) (fun hc => by simp at hc)
  refine TK.skip ?_
  refine hK33 _ _ ?_
  refine TK.seq_k fun K34 hK34 => ?_
  refine TK.block ?_
  refine TK.seq_k fun K35 hK35 => ?_
  refine TK.reg ?_
  refine TL.p (C := cx) (gc := true) (p_iaR kd68 ty67 rfl rfl rfl (by decide) (by decide)) rfl rfl ?_
  refine TL.p (C := cx) (gc := true) (p_ldR (v := .ref b10 4 8) ty67 rfl rfl rfl rfl rfl rfl) rfl rfl ?_
  refine TL.p (C := cx) (gc := true) (p_mv rfl) rfl rfl ?_
  refine TL.nil ?_
  refine hK35 _ _ ?_
  refine TK.reg ?_
  refine TL.p (C := cx) (gc := true) (p_mv rfl) rfl rfl ?_
  refine TL.p (C := cx) (gc := true) (p_mv rfl) rfl rfl ?_
  obtain ⟨r36, hr36, hX⟩ := bind_some hX
  refine TL.tcX [(b6, RV 87 [Enc.v (r30.2.1 : (List UInt8)), Enc.v (r30.2.2 : Bool)])] [(b10, RV 31 [Enc.v ((Head_api.mk r8.1 (0 : Int) (0 : Int) (0 : Int) (0 : Int) (0 : Int) (0 : Int) false).Path : Str), Enc.v (r18.1 : Int), Enc.v (r24.1 : Int), Enc.v (r30.1 : Int), Enc.v ((Head_api.mk r8.1 (0 : Int) (0 : Int) (0 : Int) (0 : Int) (0 : Int) (0 : Int) false).Len : Int), Enc.v ((Head_api.mk r8.1 (0 : Int) (0 : Int) (0 : Int) (0 : Int) (0 : Int) (0 : Int) false).Serial : Int), Enc.v ((Head_api.mk r8.1 (0 : Int) (0 : Int) (0 : Int) (0 : Int) (0 : Int) (0 : Int) false).Sum : Int), Enc.v ((Head_api.mk r8.1 (0 : Int) (0 : Int) (0 : Int) (0 : Int) (0 : Int) (0 : Int) false).Gone : Bool)]), (b3, RV 31 [Enc.v ((Str.mk []) : Str), Enc.v ((0 : Int) : Int), Enc.v ((0 : Int) : Int), Enc.v ((0 : Int) : Int), Enc.v ((0 : Int) : Int), Enc.v ((0 : Int) : Int), Enc.v ((0 : Int) : Int), Enc.v (false : Bool)])] rfl nd (dlt rfl) rfl ⟨rfl, ⟨rfl, trivial⟩⟩ (ok_code_Reader_Int r30.2.1 r30.2.2 b6 (Nd.take nd 1 rfl) _ hr36) ?_
  rintro _ _ hQ nd
  obtain ⟨rfl, rfl⟩ := hQ
  refine TL.p (C := cx) (gc := true) (p_ncR rfl (fun _ => refOK_of nd (j := 1) rfl rfl)) rfl rfl ?_
  refine TL.stV (C := cx) (lu := Enc.cl (r36.1 : Int)) nd ty3 rfl (j := 1) rfl rfl rfl (Cells_v (r36.1 : Int)) rfl rfl [Enc.v ((Head_api.mk r8.1 (0 : Int) (0 : Int) (0 : Int) (0 : Int) (0 : Int) (0 : Int) false).Path : Str), Enc.v (r18.1 : Int), Enc.v (r24.1 : Int), Enc.v (r30.1 : Int), Enc.v (r36.1 : Int), Enc.v ((Head_api.mk r8.1 (0 : Int) (0 : Int) (0 : Int) (0 : Int) (0 : Int) (0 : Int) false).Serial : Int), Enc.v ((Head_api.mk r8.1 (0 : Int) (0 : Int) (0 : Int) (0 : Int) (0 : Int) (0 : Int) false).Sum : Int), Enc.v ((Head_api.mk r8.1 (0 : Int) (0 : Int) (0 : Int) (0 : Int) (0 : Int) (0 : Int) false).Gone : Bool)] rfl fun nd => ?_
  refine TL.nil ?_
  refine hK34 _ _ ?_
  refine TK.reg ?_
  refine TL.p (C := cx) (gc := true) (p_add rfl rfl) rfl rfl ?_
  refine TL.p (C := cx) (gc := true) (p_mv rfl) rfl rfl ?_
  refine TL.nil ?_
  try dsimp only [thenQ]
  refine unr_s ?_
  refine TK.seq_k fun K38 hK38 => ?_
  refine TK.reg ?_
  refine TL.p (C := cx) (gc := true) (p_lss rfl rfl) rfl rfl ?_
  refine TL.nil ?_
  refine hK38 _ _ ?_
  refine TK.seq_k fun K39 hK39 => ?_
  refine TK.cond (b := true) rfl (fun _ => ?_) (fun hc => by simp at hc)
  refine TK.skip ?_
  refine hK39 _ _ ?_
  refine TK.seq_k fun K40 hK40 => ?_
  refine TK.block ?_
  refine TK.seq_k fun K41 hK41 => ?_
  refine TK.reg ?_
  refine TL.p (C := cx) (gc := true) (p_iaR kd68 ty67 rfl rfl rfl (by decide) (by decide)) rfl rfl ?_
  refine TL.p (C := cx) (gc := true) (p_ldR (v := .ref b10 5 8) ty67 rfl rfl rfl rfl rfl rfl) rfl rfl ?_
  refine TL.p (C := cx) (gc := true) (p_mv rfl) rfl rfl ?_
  refine TL.nil ?_
  refine hK41 _ _ ?_
  refine TK.reg ?_
  refine TL.p (C := cx) (gc := true) (p_mv rfl) rfl rfl ?_
  refine TL.p (C := cx) (gc := true) (p_mv rfl) rfl rfl ?_
  obtain ⟨r42, hr42, hX⟩ := bind_some hX
  refine TL.tcX [(b6, RV 87 [Enc.v (r36.2.1 : (List UInt8)), Enc.v (r36.2.2 : Bool)])] [(b10, RV 31 [Enc.v ((Head_api.mk r8.1 (0 : Int) (0 : Int) (0 : Int) (0 : Int) (0 : Int) (0 : Int) false).Path : Str), Enc.v (r18.1 : Int), Enc.v (r24.1 : Int), Enc.v (r30.1 : Int), Enc.v (r36.1 : Int), Enc.v ((Head_api.mk r8.1 (0 : Int) (0 : Int) (0 : Int) (0 : Int) (0 : Int) (0 : Int) false).Serial : Int), Enc.v ((Head_api.mk r8.1 (0 : Int) (0 : Int) (0 : Int) (0 : Int) (0 : Int) (0 : Int) false).Sum : Int), Enc.v ((Head_api.mk r8.1 (0 : Int) (0 : Int) (0 : Int) (0 : Int) (0 : Int) (0 : Int) false).Gone : Bool)]), (b3, RV 31 [Enc.v ((Str.mk []) : Str), Enc.v ((0 : Int) : Int), Enc.v ((0 : Int) : Int), Enc.v ((0 : Int) : Int), Enc.v ((0 : Int) : Int), Enc.v ((0 : Int) : Int), Enc.v ((0 : Int) : Int), Enc.v (false : Bool)])] rfl nd (dlt rfl) rfl ⟨rfl, ⟨rfl, trivial⟩⟩ (ok_code_Reader_Int r36.2.1 r36.2.2 b6 (Nd.take nd 1 rfl) _ hr42) ?_
  rintro _ _ hQ nd
  obtain ⟨rfl, rfl⟩ := hQ
  refine TL.p (C := cx) (gc := true) (p_ncR rfl (fun _ => refOK_of nd (j := 1) rfl rfl)) rfl rfl ?_
  refine TL.stV (C := cx) (lu := Enc.cl (r42.1 : Int)) nd ty3 rfl (j := 1) rfl rfl rfl (Cells_v (r42.1 : Int)) rfl rfl [Enc.v ((Head_api.mk r8.1 (0 : Int) (0 : Int) (0 : Int) (0 : Int) (0 : Int) (0 : Int) false).Path : Str), Enc.v (r18.1 : Int), Enc.v (r24.1 : Int), Enc.v (r30.1 : Int), Enc.v (r36.1 : Int), Enc.v (r42.1 : Int), Enc.v ((Head_api.mk r8.1 (0 : Int) (0 : Int) (0 : Int) (0 : Int) (0 : Int) (0 : Int) false).Sum : Int), Enc.v ((Head_api.mk r8.1 (0 : Int) (0 : Int) (0 : Int) (0 : Int) (0 : Int) (0 : Int) false).Gone : Bool)] rfl fun nd => ?_
  refine TL.nil ?_
  refine hK40 _ _ ?_
  refine TK.reg ?_
  refine TL.p (C := cx) (gc := true) (p_add rfl rfl) rfl rfl ?_
  refine TL.p (C := cx) (gc := true) (p_mv rfl) rfl rfl ?_
  refine TL.nil ?_
  try dsimp only [thenQ]
  refine unr_s ?_
  refine TK.seq_k fun K44 hK44 => ?_
  refine TK.reg ?_
  refine TL.p (C := cx) (gc := true) (p_lss rfl rfl) rfl rfl ?_
  refine TL.nil ?_
  refine hK44 _ _ ?_
  refine TK.seq_k fun K45 hK45 => ?_
  refine TK.cond (b := true) rfl (fun _ => ?_) (fun hc => by simp at hc)
  refine TK.skip ?_
  refine hK45 _ _ ?_
  refine TK.seq_k fun K46 hK46 => ?_
  refine TK.block ?_
  refine TK.seq_k fun K47 hK47 => ?_
  refine TK.reg ?_
  refine TL.p (C := cx) (gc := true) (p_iaR kd68 ty67 rfl rfl rfl (by decide) (by decide)) rfl rfl ?_
  refine TL.p (C := cx) (gc := true) (p_ldR (v := .ref b10 6 8) ty67 rfl rfl rfl rfl rfl rfl) rfl rfl ?_
  refine TL.p (C := cx) (gc := true) (p_mv rfl) rfl rfl ?_
  refine TL.nil ?_
  refine hK47 _ _ ?_
  refine TK.reg ?_
  refine TL.p (C := cx) (gc := true) (p_mv rfl) rfl rfl ?_
  refine TL.p (C := cx) (gc := true) (p_mv rfl) rfl rfl ?_
  obtain ⟨r48, hr48, hX⟩ := bind_some hX
  refine TL.tcX [(b6, RV 87 [Enc.v (r42.2.1 : (List UInt8)), Enc.v (r42.2.2 : Bool)])] [(b10, RV 31 [Enc.v ((Head_api.mk r8.1 (0 : Int) (0 : Int) (0 : Int) (0 : Int) (0 : Int) (0 : Int) false).Path : Str), Enc.v (r18.1 : Int), Enc.v (r24.1 : Int), Enc.v (r30.1 : Int), Enc.v (r36.1 : Int), Enc.v (r42.1 : Int), Enc.v ((Head_api.mk r8.1 (0 : Int) (0 : Int) (0 : Int) (0 : Int) (0 : Int) (0 : Int) false).Sum : Int), Enc.v ((Head_api.mk r8.1 (0 : Int) (0 : Int) (0 : Int) (0 : Int) (0 : Int) (0 : Int) false).Gone : Bool)]), (b3, RV 31 [Enc.v ((Str.mk []) : Str), Enc.v ((0 : Int) : Int), Enc.v ((0 : Int) : Int), Enc.v ((0 : Int) : Int), Enc.v ((0 : Int) : Int), Enc.v ((0 : Int) : Int), Enc.v ((0 : Int) : Int), Enc.v (false : Bool)])] rfl nd (dlt rfl) rfl ⟨rfl, ⟨rfl, trivial⟩⟩ (ok_code_Reader_Int r42.2.1 r42.2.2 b6 (Nd.take nd 1 rfl) _ hr48) ?_
  rintro _ _ hQ nd
  obtain ⟨rfl, rfl⟩ := hQ
  refine TL.p (C := cx) (gc := true) (p_ncR rfl (fun _ => refOK_of nd (j := 1) rfl rfl)) rfl rfl ?_
  refine TL.stV (C := cx) (lu := Enc.cl (r48.1 : Int)) nd ty3 rfl (j := 1) rfl rfl rfl (Cells_v (r48.1 : Int)) rfl rfl [Enc.v ((Head_api.mk r8.1 (0 : Int) (0 : Int) (0 : Int) (0 : Int) (0 : Int) (0 : Int) false).Path : Str), Enc.v (r18.1 : Int), Enc.v (r24.1 : Int), Enc.v (r30.1 : Int), Enc.v (r36.1 : Int), Enc.v (r42.1 : Int), Enc.v (r48.1 : Int), Enc.v ((Head_api.mk r8.1 (0 : Int) (0 : Int) (0 : Int) (0 : Int) (0 : Int) (0 : Int) false).Gone : Bool)] rfl fun nd => ?_
  refine TL.nil ?_
  refine hK46 _ _ ?_
  refine TK.reg ?_
  refine TL.p (C := cx) (gc := true) (p_add rfl rfl) rfl rfl ?_
  refine TL.p (C := cx) (gc := true) (p_mv rfl) rfl rfl ?_
  refine TL.nil ?_
  try dsimp only [thenQ]
  refine unr_s ?_
  refine TK.seq_k fun K50 hK50 => ?_
  refine TK.reg ?_
  refine TL.p (C := cx) (gc := true) (p_lss rfl rfl) rfl rfl ?_
  refine TL.nil ?_
  refine hK50 _ _ ?_
  refine TK.seq_k fun K51 hK51 => ?_
  refine TK.cond (b := false) rfl (fun hc => by simp at hc) (fun _ => ?_)
  refine TK.exit ?_
  refine hK11 _ _ ?_
  refine TK.seq_k fun K52 hK52 => ?_
  refine TK.reg ?_
  refine TL.p (C := cx) (gc := true) (p_mv rfl) rfl rfl ?_
  obtain ⟨r53, hr53, hX⟩ := bind_some hX
  refine TL.tcX [(b6, RV 87 [Enc.v (r48.2.1 : (List UInt8)), Enc.v (r48.2.2 : Bool)])] [(b10, RV 31 [Enc.v ((Head_api.mk r8.1 (0 : Int) (0 : Int) (0 : Int) (0 : Int) (0 : Int) (0 : Int) false).Path : Str), Enc.v (r18.1 : Int), Enc.v (r24.1 : Int), Enc.v (r30.1 : Int), Enc.v (r36.1 : Int), Enc.v (r42.1 : Int), Enc.v (r48.1 : Int), Enc.v ((Head_api.mk r8.1 (0 : Int) (0 : Int) (0 : Int) (0 : Int) (0 : Int) (0 : Int) false).Gone : Bool)]), (b3, RV 31 [Enc.v ((Str.mk []) : Str), Enc.v ((0 : Int) : Int), Enc.v ((0 : Int) : Int), Enc.v ((0 : Int) : Int), Enc.v ((0 : Int) : Int), Enc.v ((0 : Int) : Int), Enc.v ((0 : Int) : Int), Enc.v (false : Bool)])] rfl nd (dlt rfl) rfl ⟨rfl, ⟨rfl, trivial⟩⟩ (ok_code_Reader_Byte r48.2.1 r48.2.2 b6 (Nd.take nd 1 rfl) _ hr53) ?_
  rintro _ _ hQ nd
  obtain ⟨rfl, rfl⟩ := hQ
  refine TL.p (C := cx) (gc := true) (p8_eql (a := r53.1) (b := (1 : UInt8)) rfl rfl) rfl rfl ?_
  refine TL.p (C := cx) (gc := true) (p_faV fs31_7 (by decide) rfl nd (j := 1) rfl rfl) rfl rfl ?_
  refine TL.stV (C := cx) (lu := Enc.cl ((r53.1 == (1 : UInt8)) : Bool)) nd ty4 rfl (j := 1) rfl rfl rfl (Cells_v ((r53.1 == (1 : UInt8)) : Bool)) rfl rfl [Enc.v ((Head_api.mk r8.1 (0 : Int) (0 : Int) (0 : Int) (0 : Int) (0 : Int) (0 : Int) false).Path : Str), Enc.v (r18.1 : Int), Enc.v (r24.1 : Int), Enc.v (r30.1 : Int), Enc.v (r36.1 : Int), Enc.v (r42.1 : Int), Enc.v (r48.1 : Int), Enc.v ((r53.1 == (1 : UInt8)) : Bool)] rfl fun nd => ?_
  refine TL.nil ?_
  refine hK52 _ _ ?_
  refine TK.seq_k fun K55 hK55 => ?_
  refine TK.seq_k fun K56 hK56 => ?_
  refine TK.reg ?_
  refine TL.p (C := cx) (gc := true) (p_mv rfl) rfl rfl ?_
  obtain ⟨r57, hr57, hX⟩ := bind_some hX
  refine TL.lookX [.vref (ofL [Enc.v (r53.2.1 : (List UInt8)), Enc.v (r53.2.2 : Bool)]) 2 0] rfl rfl rfl (fun _ => ⟨rfl, ⟨rfl, trivial⟩⟩) ⟨look_ref (l := [Enc.v (r53.2.1 : (List UInt8)), Enc.v (r53.2.2 : Bool)]) nd (j := 0) rfl ⟨look_v (v := Enc.v (r53.2.1 : (List UInt8))) (v_val _), look_v (v := Enc.v (r53.2.2 : Bool)) (v_val _), trivial⟩, trivial⟩ (fun e => ok_code_Reader_Bad r53.2.1 r53.2.2 _ hr57) (trivial) ?_
  refine TL.p (C := cx) (gc := true) (p_mv rfl) rfl rfl ?_
  refine TL.p (C := cx) (gc := (!r57)) (p_ldVa (l' := Enc.cl ((Head_api.mk (Head_api.mk r8.1 (0 : Int) (0 : Int) (0 : Int) (0 : Int) (0 : Int) (0 : Int) false).Path r18.1 r24.1 r30.1 r36.1 r42.1 r48.1 (r53.1 == (1 : UInt8))) : Head_api)) ty31 rfl rfl nd (j := 1) rfl rfl rfl rfl (Nat.le_of_ble_eq_true rfl) (hg := fun e => rfl)) (gcF1 rfl) rfl ?_
  obtain ⟨r58, hr58, hX⟩ := bind_some hX
  refine TL.cvX (gcF1 rfl) rfl rfl (fun e => ⟨rfl, ⟨e, trivial⟩⟩) (fun e => ok_record_RightHead (Head_api.mk (Head_api.mk r8.1 (0 : Int) (0 : Int) (0 : Int) (0 : Int) (0 : Int) (0 : Int) false).Path r18.1 r24.1 r30.1 r36.1 r42.1 r48.1 (r53.1 == (1 : UInt8))) _ (optG_t hr58 e)) ?_
  refine TL.p (C := cx) (gc := (!r57)) (p_not rfl (hg := fun e => e)) (gcF1 rfl) rfl ?_
  refine TL.p (C := cx) (gc := true) (p_or rfl rfl (fun e => ⟨rfl, fun h => (not_t h)⟩)) rfl rfl ?_
  refine TL.p (C := cx) (gc := true) (p_mv rfl) rfl rfl ?_
  refine TL.p (C := cx) (gc := (!((r57 || (!r58))))) (p_mv rfl (hg := fun e => rfl)) (gcF1 rfl) rfl ?_
  refine TL.p (C := cx) (gc := (!((r57 || (!r58))))) (p_ldVa (l' := Enc.cl ((Head_api.mk (Head_api.mk r8.1 (0 : Int) (0 : Int) (0 : Int) (0 : Int) (0 : Int) (0 : Int) false).Path r18.1 r24.1 r30.1 r36.1 r42.1 r48.1 (r53.1 == (1 : UInt8))) : Head_api)) ty31 rfl rfl nd (j := 1) rfl rfl rfl rfl (Nat.le_of_ble_eq_true rfl) (hg := fun e => rfl)) (gcF1 rfl) rfl ?_
  obtain ⟨r59, hr59, hX⟩ := bind_some hX
  refine TL.cvX (gcF1 rfl) rfl rfl (fun e => ⟨rfl, ⟨e, trivial⟩⟩) (fun e => ok_record_HeadBytes (Head_api.mk (Head_api.mk r8.1 (0 : Int) (0 : Int) (0 : Int) (0 : Int) (0 : Int) (0 : Int) false).Path r18.1 r24.1 r30.1 r36.1 r42.1 r48.1 (r53.1 == (1 : UInt8))) _ (optG_t hr59 e)) ?_
  obtain ⟨r60, hr60, hX⟩ := bind_some hX
  refine TL.cvX (gcF1 rfl) rfl rfl (fun e => ⟨rfl, ⟨e, ⟨e, trivial⟩⟩⟩) (fun e => ok_slices_Equal_Lbyte_byte b1 r59 _ (optG_t hr60 e)) ?_
  refine TL.p (C := cx) (gc := (!((r57 || (!r58))))) (p_not rfl (hg := fun e => e)) (gcF1 rfl) rfl ?_
  refine TL.p (C := cx) (gc := true) (p_or rfl rfl (fun e => ⟨rfl, fun h => (not_t h)⟩)) rfl rfl ?_
  refine TL.nil ?_
  refine hK56 _ _ ?_
  refine TK.cond (b := ((r57 || (!r58)) || (!r60))) rfl (fun hc => ?_) (fun hc => ?_)
  · have hX := ite_t hc hX
    refine TK.seq_k fun K61 hK61 => ?_
    refine TK.reg ?_
    refine TL.p (C := cx) (gc := true) (p_bld (l := Enc.cl ((Head_api.mk (Str.mk []) (0 : Int) (0 : Int) (0 : Int) (0 : Int) (0 : Int) (0 : Int) false) : Head_api)) ty31 rfl all31 rfl (fun _ => trivial)) rfl rfl ?_
    refine TL.stV (C := cx) (lu := Enc.cl ((Head_api.mk (Str.mk []) (0 : Int) (0 : Int) (0 : Int) (0 : Int) (0 : Int) (0 : Int) false) : Head_api)) nd ty31 rfl (j := 2) rfl rfl rfl (Cells_v ((Head_api.mk (Str.mk []) (0 : Int) (0 : Int) (0 : Int) (0 : Int) (0 : Int) (0 : Int) false) : Head_api)) rfl rfl [Enc.v ((Head_api.mk (Str.mk []) (0 : Int) (0 : Int) (0 : Int) (0 : Int) (0 : Int) (0 : Int) false).Path : Str), Enc.v ((Head_api.mk (Str.mk []) (0 : Int) (0 : Int) (0 : Int) (0 : Int) (0 : Int) (0 : Int) false).Version : Int), Enc.v ((Head_api.mk (Str.mk []) (0 : Int) (0 : Int) (0 : Int) (0 : Int) (0 : Int) (0 : Int) false).Size : Int), Enc.v ((Head_api.mk (Str.mk []) (0 : Int) (0 : Int) (0 : Int) (0 : Int) (0 : Int) (0 : Int) false).From : Int), Enc.v ((Head_api.mk (Str.mk []) (0 : Int) (0 : Int) (0 : Int) (0 : Int) (0 : Int) (0 : Int) false).Len : Int), Enc.v ((Head_api.mk (Str.mk []) (0 : Int) (0 : Int) (0 : Int) (0 : Int) (0 : Int) (0 : Int) false).Serial : Int), Enc.v ((Head_api.mk (Str.mk []) (0 : Int) (0 : Int) (0 : Int) (0 : Int) (0 : Int) (0 : Int) false).Sum : Int), Enc.v ((Head_api.mk (Str.mk []) (0 : Int) (0 : Int) (0 : Int) (0 : Int) (0 : Int) (0 : Int) false).Gone : Bool)] rfl fun nd => ?_
    refine TL.p (C := cx) (gc := true) (p_mv rfl) rfl rfl ?_
    refine TL.nil ?_
    refine hK61 _ _ ?_
    refine TK.ret ?_
    try dsimp only [thenQ]
    exact retC [Enc.v ((Head_api.mk (Str.mk []) (0 : Int) (0 : Int) (0 : Int) (0 : Int) (0 : Int) (0 : Int) false) : Head_api), Enc.v ((2 : Int) : Int)] ⟨p_ldVa (l' := Enc.cl ((Head_api.mk (Str.mk []) (0 : Int) (0 : Int) (0 : Int) (0 : Int) (0 : Int) (0 : Int) false) : Head_api)) ty31 rfl rfl nd (j := 2) rfl rfl rfl rfl (Nat.le_of_ble_eq_true rfl), p_mv rfl, trivial⟩ (by obtain rfl := some_in hX; rfl) (tup_val (allVal.mem ⟨v_val _, v_val _, trivial⟩))
  · have hX := ite_f hc hX
    refine TK.skip ?_
    refine hK55 _ _ ?_
    refine TK.seq_k fun K62 hK62 => ?_
    refine TK.reg ?_
    refine TL.p (C := cx) (gc := true) (p_ldVa (l' := Enc.cl ((Head_api.mk (Head_api.mk r8.1 (0 : Int) (0 : Int) (0 : Int) (0 : Int) (0 : Int) (0 : Int) false).Path r18.1 r24.1 r30.1 r36.1 r42.1 r48.1 (r53.1 == (1 : UInt8))) : Head_api)) ty31 rfl rfl nd (j := 1) rfl rfl rfl rfl (Nat.le_of_ble_eq_true rfl)) rfl rfl ?_
    refine TL.stV (C := cx) (lu := Enc.cl ((Head_api.mk (Head_api.mk r8.1 (0 : Int) (0 : Int) (0 : Int) (0 : Int) (0 : Int) (0 : Int) false).Path r18.1 r24.1 r30.1 r36.1 r42.1 r48.1 (r53.1 == (1 : UInt8))) : Head_api)) nd ty31 rfl (j := 2) rfl rfl rfl (Cells_v ((Head_api.mk (Head_api.mk r8.1 (0 : Int) (0 : Int) (0 : Int) (0 : Int) (0 : Int) (0 : Int) false).Path r18.1 r24.1 r30.1 r36.1 r42.1 r48.1 (r53.1 == (1 : UInt8))) : Head_api)) rfl rfl [Enc.v ((Head_api.mk (Head_api.mk r8.1 (0 : Int) (0 : Int) (0 : Int) (0 : Int) (0 : Int) (0 : Int) false).Path r18.1 r24.1 r30.1 r36.1 r42.1 r48.1 (r53.1 == (1 : UInt8))).Path : Str), Enc.v ((Head_api.mk (Head_api.mk r8.1 (0 : Int) (0 : Int) (0 : Int) (0 : Int) (0 : Int) (0 : Int) false).Path r18.1 r24.1 r30.1 r36.1 r42.1 r48.1 (r53.1 == (1 : UInt8))).Version : Int), Enc.v ((Head_api.mk (Head_api.mk r8.1 (0 : Int) (0 : Int) (0 : Int) (0 : Int) (0 : Int) (0 : Int) false).Path r18.1 r24.1 r30.1 r36.1 r42.1 r48.1 (r53.1 == (1 : UInt8))).Size : Int), Enc.v ((Head_api.mk (Head_api.mk r8.1 (0 : Int) (0 : Int) (0 : Int) (0 : Int) (0 : Int) (0 : Int) false).Path r18.1 r24.1 r30.1 r36.1 r42.1 r48.1 (r53.1 == (1 : UInt8))).From : Int), Enc.v ((Head_api.mk (Head_api.mk r8.1 (0 : Int) (0 : Int) (0 : Int) (0 : Int) (0 : Int) (0 : Int) false).Path r18.1 r24.1 r30.1 r36.1 r42.1 r48.1 (r53.1 == (1 : UInt8))).Len : Int), Enc.v ((Head_api.mk (Head_api.mk r8.1 (0 : Int) (0 : Int) (0 : Int) (0 : Int) (0 : Int) (0 : Int) false).Path r18.1 r24.1 r30.1 r36.1 r42.1 r48.1 (r53.1 == (1 : UInt8))).Serial : Int), Enc.v ((Head_api.mk (Head_api.mk r8.1 (0 : Int) (0 : Int) (0 : Int) (0 : Int) (0 : Int) (0 : Int) false).Path r18.1 r24.1 r30.1 r36.1 r42.1 r48.1 (r53.1 == (1 : UInt8))).Sum : Int), Enc.v ((Head_api.mk (Head_api.mk r8.1 (0 : Int) (0 : Int) (0 : Int) (0 : Int) (0 : Int) (0 : Int) false).Path r18.1 r24.1 r30.1 r36.1 r42.1 r48.1 (r53.1 == (1 : UInt8))).Gone : Bool)] rfl fun nd => ?_
    refine TL.p (C := cx) (gc := true) (p_mv rfl) rfl rfl ?_
    refine TL.nil ?_
    refine hK62 _ _ ?_
    refine TK.ret ?_
    try dsimp only [thenQ]
    exact retC [Enc.v ((Head_api.mk (Head_api.mk r8.1 (0 : Int) (0 : Int) (0 : Int) (0 : Int) (0 : Int) (0 : Int) false).Path r18.1 r24.1 r30.1 r36.1 r42.1 r48.1 (r53.1 == (1 : UInt8))) : Head_api), Enc.v ((0 : Int) : Int)] ⟨p_ldVa (l' := Enc.cl ((Head_api.mk (Head_api.mk r8.1 (0 : Int) (0 : Int) (0 : Int) (0 : Int) (0 : Int) (0 : Int) false).Path r18.1 r24.1 r30.1 r36.1 r42.1 r48.1 (r53.1 == (1 : UInt8))) : Head_api)) ty31 rfl rfl nd (j := 2) rfl rfl rfl rfl (Nat.le_of_ble_eq_true rfl), p_mv rfl, trivial⟩ (by obtain rfl := some_in hX; rfl) (tup_val (allVal.mem ⟨v_val _, v_val _, trivial⟩))

/-- cartridge/cartridgelaw10.num -/
theorem ok_cartridgelaw10_num (e1 : Int) (r : Int) (hX : X.cartridgelaw10_num e1 = some r) : Fun Tryd.prog 25 [Enc.v (e1 : Int)] (· = Enc.v (r : Int)) := by
  refine Fun.of b25 (Nat.le_of_ble_eq_true rfl) (allVal.mem ⟨(by exact (v_val _)), trivial⟩) ?_
  unfold k25
  have nd : Nd [] := Nd_nil
  unfold X.cartridgelaw10_num at hX
  refine TK.seq_k fun K2 hK2 => ?_
  refine TK.reg ?_
  refine TL.p (C := cx) (gc := true) (p_mv rfl) rfl rfl ?_
  refine TL.nil ?_
  refine hK2 _ _ ?_
  refine TK.seq_k fun K3 hK3 => ?_
  refine TK.reg ?_
  refine TL.p (C := cx) (gc := true) (p_mv rfl) rfl rfl ?_
  refine TL.p (C := cx) (gc := true) (p_mv rfl) rfl rfl ?_
  refine TL.nil ?_
  refine hK3 _ _ ?_
  refine TK.ret ?_
  try dsimp only [thenQ]
  exact ret1 (v := Enc.v (e1 : Int)) rfl (by obtain rfl := some_in hX; rfl) (v_val _)

/-- cartridge/cartridgelaw10.alive -/
theorem ok_cartridgelaw10_alive  (r : Bool) (hX : X.cartridgelaw10_alive = some r) : Fun Tryd.prog 18 [] (· = Enc.v (r : Bool)) := by
  refine Fun.of b18 (Nat.le_of_ble_eq_true rfl) (fun x hx => by cases hx) ?_
  unfold k18
  have nd : Nd [] := Nd_nil
  unfold X.cartridgelaw10_alive at hX
  refine TK.seq_k fun K1 hK1 => ?_
  refine TK.reg ?_
  refine TL.p (C := cx) (gc := true) (p_mv rfl) rfl rfl ?_
  refine TL.nil ?_
  refine hK1 _ _ ?_
  refine TK.seq_k fun K2 hK2 => ?_
  refine TK.reg ?_
  obtain ⟨r3, hr3, hX⟩ := bind_some hX
  refine TL.cvX rfl rfl rfl (fun _ => ⟨rfl, ⟨rfl, trivial⟩⟩) (fun e => (Fun.wk (args' := [L ([] : List UInt8)]) ⟨Wk_nil, trivial⟩ (ok_record_ReadHead ([] : List UInt8) _ hr3))) ?_
  refine TL.p (C := cx) (gc := true) (p_mv rfl) rfl rfl ?_
  refine TL.p (C := cx) (gc := true) (p_ex rfl rfl (by decide)) rfl rfl ?_
  refine TL.p (C := cx) (gc := true) (p_ex rfl rfl (by decide)) rfl rfl ?_
  refine TL.alO (C := cx) (l := [Enc.v ((Str.mk []) : Str), Enc.v ((0 : Int) : Int), Enc.v ((0 : Int) : Int), Enc.v ((0 : Int) : Int), Enc.v ((0 : Int) : Int), Enc.v ((0 : Int) : Int), Enc.v ((0 : Int) : Int), Enc.v (false : Bool)]) nd ty31 ti31_z rfl rfl fun b4 nd => ?_
  refine TL.stV (C := cx) (lu := Enc.cl (r3.1 : Head_api)) nd ty31 rfl (j := 0) rfl rfl rfl (Cells_v (r3.1 : Head_api)) rfl rfl [Enc.v (r3.1.Path : Str), Enc.v (r3.1.Version : Int), Enc.v (r3.1.Size : Int), Enc.v (r3.1.From : Int), Enc.v (r3.1.Len : Int), Enc.v (r3.1.Serial : Int), Enc.v (r3.1.Sum : Int), Enc.v (r3.1.Gone : Bool)] rfl fun nd => ?_
  refine TL.p (C := cx) (gc := true) (p_mv rfl) rfl rfl ?_
  refine TL.nil ?_
  refine hK2 _ _ ?_
  refine TK.seq_k fun K5 hK5 => ?_
  refine TK.reg ?_
  refine TL.p (C := cx) (gc := true) (p_bld (l := Enc.cl ((Head_api.mk (Str.mk [97]) (1 : Int) (0 : Int) (0 : Int) (0 : Int) (1 : Int) (0 : Int) false) : Head_api)) ty31 rfl all31 rfl (fun _ => ⟨⟨rfl, trivial, rfl⟩, ⟨rfl, trivial, rfl⟩, ⟨rfl, trivial, rfl⟩, trivial⟩)) rfl rfl ?_
  obtain ⟨r6, hr6, hX⟩ := bind_some hX
  refine TL.cvX rfl rfl rfl (fun _ => ⟨rfl, ⟨rfl, trivial⟩⟩) (fun e => ok_record_HeadBytes (Head_api.mk (Str.mk [97]) (1 : Int) (0 : Int) (0 : Int) (0 : Int) (1 : Int) (0 : Int) false) _ hr6) ?_
  obtain ⟨r7, hr7, hX⟩ := bind_some hX
  refine TL.cvX rfl rfl rfl (fun _ => ⟨rfl, ⟨rfl, trivial⟩⟩) (fun e => ok_record_ReadHead r6 _ hr7) ?_
  refine TL.p (C := cx) (gc := true) (p_mv rfl) rfl rfl ?_
  refine TL.p (C := cx) (gc := true) (p_ex rfl rfl (by decide)) rfl rfl ?_
  refine TL.p (C := cx) (gc := true) (p_ex rfl rfl (by decide)) rfl rfl ?_
  refine TL.alO (C := cx) (l := [Enc.v ((Str.mk []) : Str), Enc.v ((0 : Int) : Int), Enc.v ((0 : Int) : Int), Enc.v ((0 : Int) : Int), Enc.v ((0 : Int) : Int), Enc.v ((0 : Int) : Int), Enc.v ((0 : Int) : Int), Enc.v (false : Bool)]) nd ty31 ti31_z rfl rfl fun b8 nd => ?_
  refine TL.stV (C := cx) (lu := Enc.cl (r7.1 : Head_api)) nd ty31 rfl (j := 0) rfl rfl rfl (Cells_v (r7.1 : Head_api)) rfl rfl [Enc.v (r7.1.Path : Str), Enc.v (r7.1.Version : Int), Enc.v (r7.1.Size : Int), Enc.v (r7.1.From : Int), Enc.v (r7.1.Len : Int), Enc.v (r7.1.Serial : Int), Enc.v (r7.1.Sum : Int), Enc.v (r7.1.Gone : Bool)] rfl fun nd => ?_
  refine TL.p (C := cx) (gc := true) (p_mv rfl) rfl rfl ?_
  refine TL.nil ?_
  refine hK5 _ _ ?_
  refine TK.seq_k fun K9 hK9 => ?_
  refine TK.reg ?_
  refine TL.p (C := cx) (gc := true) (p_mv rfl) rfl rfl ?_
  obtain ⟨r10, hr10, hX⟩ := bind_some hX
  refine TL.cvX rfl rfl rfl (fun _ => ⟨rfl, ⟨rfl, trivial⟩⟩) (fun e => ok_cartridgelaw10_num r3.2 _ hr10) ?_
  refine TL.p (C := cx) (gc := true) (p_eql rfl rfl) rfl rfl ?_
  refine TL.p (C := cx) (gc := true) (p_mv rfl) rfl rfl ?_
  refine TL.p (C := cx) (gc := ((r10 == (2 : Int)))) (p_mv rfl (hg := fun e => rfl)) (gcT1 rfl) rfl ?_
  obtain ⟨r11, hr11, hX⟩ := bind_some hX
  refine TL.cvX (gcT1 rfl) rfl rfl (fun e => ⟨rfl, ⟨e, trivial⟩⟩) (fun e => ok_cartridgelaw10_num r7.2 _ (optG_t hr11 e)) ?_
  refine TL.p (C := cx) (gc := ((r10 == (2 : Int)))) (p_eql rfl rfl (hg := fun e => ⟨e, rfl⟩)) (gcT1 rfl) rfl ?_
  refine TL.p (C := cx) (gc := true) (p_and rfl rfl (fun e => ⟨rfl, fun h => h⟩)) rfl rfl ?_
  refine TL.p (C := cx) (gc := true) (p_mv rfl) rfl rfl ?_
  refine TL.p (C := cx) (gc := (((r10 == (2 : Int)) && (r11 == (0 : Int))))) (p_faV fs31_0 (by decide) rfl nd (j := 0) rfl rfl (hg := fun e => rfl)) (gcT1 rfl) rfl ?_
  refine TL.p (C := cx) (gc := (((r10 == (2 : Int)) && (r11 == (0 : Int))))) (p_ldV (v := Enc.v (r7.1.Path : Str)) ty9 rfl rfl nd (j := 0) rfl rfl rfl rfl rfl (hg := fun e => e)) (gcT1 rfl) rfl ?_
  refine TL.p (C := cx) (gc := (((r10 == (2 : Int)) && (r11 == (0 : Int))))) (ps_eql (s := r7.1.Path) (r := (Str.mk [97])) rfl rfl (hg := fun e => ⟨e, rfl⟩)) (gcT1 rfl) rfl ?_
  refine TL.p (C := cx) (gc := true) (p_and rfl rfl (fun e => ⟨rfl, fun h => h⟩)) rfl rfl ?_
  refine TL.p (C := cx) (gc := true) (p_mv rfl) rfl rfl ?_
  refine TL.p (C := cx) (gc := ((((r10 == (2 : Int)) && (r11 == (0 : Int))) && (r7.1.Path.l == (Str.mk [97]).l)))) (p_ldVa (l' := Enc.cl (r7.1 : Head_api)) ty31 rfl rfl nd (j := 0) rfl rfl rfl rfl (Nat.le_of_ble_eq_true rfl) (hg := fun e => rfl)) (gcT1 rfl) rfl ?_
  obtain ⟨r12, hr12, hX⟩ := bind_some hX
  refine TL.cvX (gcT1 rfl) rfl rfl (fun e => ⟨rfl, ⟨e, trivial⟩⟩) (fun e => ok_record_RightHead r7.1 _ (optG_t hr12 e)) ?_
  refine TL.p (C := cx) (gc := true) (p_and rfl rfl (fun e => ⟨rfl, fun h => h⟩)) rfl rfl ?_
  refine TL.p (C := cx) (gc := true) (p_mv rfl) rfl rfl ?_
  refine TL.nil ?_
  refine hK9 _ _ ?_
  refine TK.ret ?_
  try dsimp only [thenQ]
  exact ret1 (v := Enc.v (((((r10 == (2 : Int)) && (r11 == (0 : Int))) && (r7.1.Path.l == (Str.mk [97]).l)) && r12) : Bool)) rfl (by obtain rfl := some_in hX; rfl) (v_val _)

/-- cartridge/cartridgeref1.PathParts -/
theorem ok_cartridgeref1_PathParts (s1 : Str) (r : (List Str)) (hX : X.cartridgeref1_PathParts s1 = some r) : Fun Tryd.prog 15 [Enc.v (s1 : Str)] (· = Enc.v (r : (List Str))) := by
  refine Fun.of b15 (Nat.le_of_ble_eq_true rfl) (allVal.mem ⟨(by exact (v_val _)), trivial⟩) ?_
  unfold k15
  have nd : Nd [] := Nd_nil
  unfold X.cartridgeref1_PathParts at hX
  refine TK.seq_k fun K2 hK2 => ?_
  refine TK.reg ?_
  refine TL.p (C := cx) (gc := true) (p_mv rfl) rfl rfl ?_
  refine TL.nil ?_
  refine hK2 _ _ ?_
  refine TK.seq_k fun K3 hK3 => ?_
  refine TK.seq_k fun K4 hK4 => ?_
  refine TK.reg ?_
  refine TL.p (C := cx) (gc := true) (p_mv rfl) rfl rfl ?_
  refine TL.p (C := cx) (gc := true) (p_lenS (s := s1) kd9 rfl) rfl rfl ?_
  refine TL.p (C := cx) (gc := true) (p_lss rfl rfl) rfl rfl ?_
  refine TL.p (C := cx) (gc := true) (p_mv rfl) rfl rfl ?_
  refine TL.p (C := cx) (gc := (!((decide ((s1.l.length : Int) < (1 : Int)))))) (p_mv rfl (hg := fun e => rfl)) (gcF1 rfl) rfl ?_
  refine TL.p (C := cx) (gc := (!((decide ((s1.l.length : Int) < (1 : Int)))))) (p_lenS (s := s1) kd9 rfl (hg := fun e => e)) (gcF1 rfl) rfl ?_
  refine TL.p (C := cx) (gc := (!((decide ((s1.l.length : Int) < (1 : Int)))))) (p_gtr rfl rfl (hg := fun e => ⟨e, rfl⟩)) (gcF1 rfl) rfl ?_
  refine TL.p (C := cx) (gc := true) (p_or rfl rfl (fun e => ⟨rfl, fun h => (not_t h)⟩)) rfl rfl ?_
  refine TL.nil ?_
  refine hK4 _ _ ?_
  refine TK.cond (b := ((decide ((s1.l.length : Int) < (1 : Int))) || (decide ((s1.l.length : Int) > (24 : Int))))) rfl (fun hc => ?_) (fun hc => ?_)
  · have hX := ite_t hc hX
    refine TK.seq_k fun K5 hK5 => ?_
    refine TK.reg ?_
    refine TL.p (C := cx) (gc := true) (p_mv rfl) rfl rfl ?_
    refine TL.nil ?_
    refine hK5 _ _ ?_
    refine TK.wk 2 (L ([] : (List Str))) rfl Wk_nil ?_
    refine TK.ret ?_
    try dsimp only [thenQ]
    exact ret1 (v := Enc.v (([] : (List Str)) : (List Str))) rfl (by obtain rfl := some_in hX; rfl) (v_val _)
  · have hX := ite_f hc hX
    refine TK.skip ?_
    refine hK3 _ _ ?_
    refine TK.seq_k fun K6 hK6 => ?_
    refine TK.reg ?_
    refine TL.p (C := cx) (gc := true) (p_mv rfl) rfl rfl ?_
    refine TL.nil ?_
    refine hK6 _ _ ?_
    refine TK.ownL (α := Str) 3 9 nd rfl (.inl rfl) fun b7 nd => ?_
    refine TK.seq_k fun K8 hK8 => ?_
    refine TK.reg ?_
    refine TL.p (C := cx) (gc := true) (p_mv rfl) rfl rfl ?_
    refine TL.nil ?_
    refine hK8 _ _ ?_
    refine TK.seq_k fun K9 hK9 => ?_
    refine TK.seq_k fun K10 hK10 => ?_
    refine TK.reg ?_
    refine TL.p (C := cx) (gc := true) (p_mv rfl) rfl rfl ?_
    refine TL.nil ?_
    refine hK10 _ _ ?_
    refine TK.block ?_
    obtain ⟨o11, hO11, hA11⟩ := bind_some hX
    have E11 : ∀ (l17 : List Str) (env : Env) (h : Hp), (∃ b16, keepE [3] env = [(3, true, OL (α := Str) b16 l17)] ∧ Nd [(b16, RL (α := Str) 9 l17)] ∧ HSub [(b16, RL (α := Str) 9 l17)] h) → X.cartridgeref1_PathParts_e11 l17 = some r → K9 env h := by
      intro l17 env h hE hX
      obtain ⟨b16, henv, nd, hs⟩ := hE
      unfold X.cartridgeref1_PathParts_e11 at hX
      refine hK9 _ _ (TK.keep [3] ?_)
      rw [henv]
      refine TK.subH hs ?_
      refine TK.seq_k fun K18 hK18 => ?_
      refine TK.reg ?_
      refine TL.p (C := cx) (gc := true) (p_mv rfl) rfl rfl ?_
      refine TL.p (C := cx) (gc := true) (p_mv rfl) rfl rfl ?_
      refine TL.nil ?_
      refine hK18 _ _ ?_
      refine TK.lay [(2, L l17)] nd (j := 0) rfl ⟨⟨_, rfl, fix_OL nd (j := 0) rfl, rfl⟩, trivial⟩ fun nd => ?_
      refine TK.ret ?_
      try dsimp only [thenQ]
      exact ret1 (v := Enc.v (l17 : (List Str))) rfl (by obtain rfl := some_in hX; rfl) (v_val _)
    refine TK.iter [0, 3, 4, 5] (fun s env h => match s with | (l13, w14, i15) => ∃ b12, env = [(0, true, Enc.v (s1 : Str)), (3, true, OL (α := Str) b12 l13), (4, true, Enc.v (w14 : Str)), (5, true, Enc.v (i15 : Int))] ∧ Nd [(b12, RL (α := Str) 9 l13)] ∧ HSub [(b12, RL (α := Str) 9 l13)] h) hO11 ⟨b7, rfl, (Nd.pick nd (is := [0]) (by decide)), (HSub.pick nd (is := [0]) (by decide))⟩ ?_
    rintro ⟨l13, w14, i15⟩ env h x11x ⟨b12, rfl, nd, hs⟩ hX hR11
    refine TK.subH hs ?_
    unfold X.cartridgeref1_PathParts_s11 at hX
    try dsimp only at hX
    refine TK.seq_k fun K19 hK19 => ?_
    refine TK.seq_k fun K20 hK20 => ?_
    refine TK.reg ?_
    refine TL.p (C := cx) (gc := true) (p_mv rfl) rfl rfl ?_
    refine TL.p (C := cx) (gc := true) (p_mv rfl) rfl rfl ?_
    refine TL.p (C := cx) (gc := true) (p_lenS (s := s1) kd9 rfl) rfl rfl ?_
    refine TL.p (C := cx) (gc := true) (p_leq rfl rfl) rfl rfl ?_
    refine TL.nil ?_
    refine hK20 _ _ ?_
    refine TK.cond (b := (decide (i15 ≤ (s1.l.length : Int)))) rfl (fun hc => ?_) (fun hc => ?_)
    · have hX := ite_t hc hX
      refine TK.skip ?_
      refine hK19 _ _ ?_
      refine TK.seq_k fun K21 hK21 => ?_
      have J21 : ∀ (l23 : List Str) (w24 : Str) (env : Env) (h : Hp), (∃ b22, keepE [0, 3, 4, 5] env = [(0, true, Enc.v (s1 : Str)), (3, true, OL (α := Str) b22 l23), (4, true, Enc.v (w24 : Str)), (5, true, Enc.v (i15 : Int))] ∧ Nd [(b22, RL (α := Str) 9 l23)] ∧ HSub [(b22, RL (α := Str) 9 l23)] h) → X.cartridgeref1_PathParts_j21 i15 l23 w24 = some x11x → K21 env h := by
        intro l23 w24 env h hE hX
        obtain ⟨b22, henv, nd, hs⟩ := hE
        unfold X.cartridgeref1_PathParts_j21 at hX
        refine hK21 _ _ (TK.keep [0, 3, 4, 5] ?_)
        rw [henv]
        refine TK.subH hs ?_
        refine TK.reg ?_
        refine TL.p (C := cx) (gc := true) (p_mv rfl) rfl rfl ?_
        refine TL.p (C := cx) (gc := true) (p_add rfl rfl) rfl rfl ?_
        refine TL.p (C := cx) (gc := true) (p_mv rfl) rfl rfl ?_
        refine TL.nil ?_
        exact ⟨_, (some_in hX).symm, b22, rfl, (Nd.pick nd (is := [0]) (by decide)), (HSub.pick nd (is := [0]) (by decide))⟩
      refine TK.block ?_
      refine TK.seq_k fun K25 hK25 => ?_
      refine TK.seq_k fun K26 hK26 => ?_
      refine TK.reg ?_
      refine TL.p (C := cx) (gc := true) (p_mv rfl) rfl rfl ?_
      refine TL.p (C := cx) (gc := true) (p_mv rfl) rfl rfl ?_
      refine TL.p (C := cx) (gc := true) (p_lenS (s := s1) kd9 rfl) rfl rfl ?_
      refine TL.p (C := cx) (gc := true) (p_eql rfl rfl) rfl rfl ?_
      refine TL.p (C := cx) (gc := true) (p_mv rfl) rfl rfl ?_
      refine TL.p (C := cx) (gc := (!((i15 == (s1.l.length : Int))))) (p_mv rfl (hg := fun e => rfl)) (gcF1 rfl) rfl ?_
      refine TL.p (C := cx) (gc := (!((i15 == (s1.l.length : Int))))) (p_mv rfl (hg := fun e => rfl)) (gcF1 rfl) rfl ?_
      obtain ⟨x27, hx27, hX⟩ := bind_some hX
      refine TL.p (C := cx) (gc := (!((i15 == (s1.l.length : Int))))) (p_ix kd9 rfl rfl (fun e => optG_t hx27 e) (hg := fun e => ⟨e, e⟩)) (gcF1 rfl) rfl ?_
      refine TL.p (C := cx) (gc := (!((i15 == (s1.l.length : Int))))) (p8_eql (a := x27) (b := (47 : UInt8)) rfl rfl (hg := fun e => ⟨e, rfl⟩)) (gcF1 rfl) rfl ?_
      refine TL.p (C := cx) (gc := true) (p_or rfl rfl (fun e => ⟨rfl, fun h => (not_t h)⟩)) rfl rfl ?_
      refine TL.nil ?_
      refine hK26 _ _ ?_
      refine TK.cond (b := ((i15 == (s1.l.length : Int)) || (x27 == (47 : UInt8)))) rfl (fun hc => ?_) (fun hc => ?_)
      · have hX := ite_t hc hX
        refine TK.seq_k fun K28 hK28 => ?_
        refine TK.seq_k fun K29 hK29 => ?_
        refine TK.reg ?_
        refine TL.p (C := cx) (gc := true) (p_mv rfl) rfl rfl ?_
        refine TL.p (C := cx) (gc := true) (ps_eql (s := w14) (r := (Str.mk [])) rfl rfl) rfl rfl ?_
        refine TL.p (C := cx) (gc := true) (p_mv rfl) rfl rfl ?_
        refine TL.p (C := cx) (gc := (!((w14.l == (Str.mk []).l)))) (p_mv rfl (hg := fun e => rfl)) (gcF1 rfl) rfl ?_
        refine TL.p (C := cx) (gc := (!((w14.l == (Str.mk []).l)))) (ps_eql (s := w14) (r := (Str.mk [46])) rfl rfl (hg := fun e => ⟨e, rfl⟩)) (gcF1 rfl) rfl ?_
        refine TL.p (C := cx) (gc := true) (p_or rfl rfl (fun e => ⟨rfl, fun h => (not_t h)⟩)) rfl rfl ?_
        refine TL.p (C := cx) (gc := true) (p_mv rfl) rfl rfl ?_
        refine TL.p (C := cx) (gc := (!(((w14.l == (Str.mk []).l) || (w14.l == (Str.mk [46]).l))))) (p_mv rfl (hg := fun e => rfl)) (gcF1 rfl) rfl ?_
        refine TL.p (C := cx) (gc := (!(((w14.l == (Str.mk []).l) || (w14.l == (Str.mk [46]).l))))) (ps_eql (s := w14) (r := (Str.mk [46, 46])) rfl rfl (hg := fun e => ⟨e, rfl⟩)) (gcF1 rfl) rfl ?_
        refine TL.p (C := cx) (gc := true) (p_or rfl rfl (fun e => ⟨rfl, fun h => (not_t h)⟩)) rfl rfl ?_
        refine TL.nil ?_
        refine hK29 _ _ ?_
        refine TK.cond (b := (((w14.l == (Str.mk []).l) || (w14.l == (Str.mk [46]).l)) || (w14.l == (Str.mk [46, 46]).l))) rfl (fun hc => ?_) (fun hc => ?_)
        · have hX := ite_t hc hX
          refine TK.seq_k fun K30 hK30 => ?_
          refine TK.reg ?_
          refine TL.p (C := cx) (gc := true) (p_mv rfl) rfl rfl ?_
          refine TL.nil ?_
          refine hK30 _ _ ?_
          refine TK.wk 2 (L ([] : (List Str))) rfl Wk_nil ?_
          refine TK.ret ?_
          obtain rfl := hR11 _ (some_in hX).symm
          replace hX := hA11
          try dsimp only [thenQ]
          exact ret1 (v := Enc.v (([] : (List Str)) : (List Str))) rfl (by obtain rfl := some_in hX; rfl) (v_val _)
        · have hX := ite_f hc hX
          refine TK.skip ?_
          refine hK28 _ _ ?_
          refine TK.seq_k fun K31 hK31 => ?_
          refine TK.reg ?_
          refine TL.p (C := cx) (gc := true) (p_mv rfl) rfl rfl ?_
          refine TL.p (C := cx) (gc := true) (p_mv rfl) rfl rfl ?_
          refine TL.lit (C := cx) ([w14] : List Str) kd25 ty9 rfl ⟨⟨rfl, rfl⟩, trivial⟩ rfl rfl rfl ?_
          obtain ⟨u33, hu33, hX⟩ := bind_some hX
          refine TL.appO (C := cx) nd kd25 bo25 ty9 rfl rfl (j := 0) rfl rfl (Src_L _) (by decide) (need_t hu33) rfl fun nd => ?_
          refine TL.p (C := cx) (gc := true) (p_mv rfl) rfl rfl ?_
          refine TL.nil ?_
          refine hK31 _ _ ?_
          refine TK.seq_k fun K34 hK34 => ?_
          refine TK.reg ?_
          refine TL.p (C := cx) (gc := true) (p_mv rfl) rfl rfl ?_
          refine TL.nil ?_
          refine hK34 _ _ ?_
          refine TK.exit ?_
          exact J21 (l13 ++ ([w14] : List Str)) (Str.mk []) _ _ ⟨b12, rfl, (Nd.pick nd (is := [0]) (by decide)), (HSub.pick nd (is := [0]) (by decide))⟩ hX
      · have hX := ite_f hc hX
        refine TK.skip ?_
        refine hK25 _ _ ?_
        refine TK.seq_k fun K35 hK35 => ?_
        refine TK.reg ?_
        refine TL.p (C := cx) (gc := true) (p_mv rfl) rfl rfl ?_
        refine TL.p (C := cx) (gc := true) (p_mv rfl) rfl rfl ?_
        obtain ⟨x36, hx36, hX⟩ := bind_some hX
        refine TL.p (C := cx) (gc := true) (p_ix kd9 rfl rfl (fun _ => hx36)) rfl rfl ?_
        refine TL.p (C := cx) (gc := true) (p_mv rfl) rfl rfl ?_
        refine TL.nil ?_
        refine hK35 _ _ ?_
        refine TK.seq_k fun K37 hK37 => ?_
        refine TK.seq_k fun K38 hK38 => ?_
        refine TK.reg ?_
        refine TL.p (C := cx) (gc := true) (p_mv rfl) rfl rfl ?_
        refine TL.p (C := cx) (gc := true) (p8_geq (a := x36) (b := (97 : UInt8)) rfl rfl) rfl rfl ?_
        refine TL.p (C := cx) (gc := true) (p_mv rfl) rfl rfl ?_
        refine TL.p (C := cx) (gc := ((decide (x36 ≥ (97 : UInt8))))) (p_mv rfl (hg := fun e => rfl)) (gcT1 rfl) rfl ?_
        refine TL.p (C := cx) (gc := ((decide (x36 ≥ (97 : UInt8))))) (p8_leq (a := x36) (b := (122 : UInt8)) rfl rfl (hg := fun e => ⟨e, rfl⟩)) (gcT1 rfl) rfl ?_
        refine TL.p (C := cx) (gc := true) (p_and rfl rfl (fun e => ⟨rfl, fun h => h⟩)) rfl rfl ?_
        refine TL.p (C := cx) (gc := true) (p_mv rfl) rfl rfl ?_
        refine TL.p (C := cx) (gc := (!(((decide (x36 ≥ (97 : UInt8))) && (decide (x36 ≤ (122 : UInt8))))))) (p_mv rfl (hg := fun e => rfl)) (gcF1 rfl) rfl ?_
        refine TL.p (C := cx) (gc := (!(((decide (x36 ≥ (97 : UInt8))) && (decide (x36 ≤ (122 : UInt8))))))) (p8_geq (a := x36) (b := (48 : UInt8)) rfl rfl (hg := fun e => ⟨e, rfl⟩)) (gcF1 rfl) rfl ?_
        refine TL.p (C := cx) (gc := (!(((decide (x36 ≥ (97 : UInt8))) && (decide (x36 ≤ (122 : UInt8))))))) (p_mv rfl (hg := fun e => e)) (gcF1 rfl) rfl ?_
        refine TL.p (C := cx) (gc := ((!(((decide (x36 ≥ (97 : UInt8))) && (decide (x36 ≤ (122 : UInt8)))))) && ((decide (x36 ≥ (48 : UInt8)))))) (p_mv rfl (hg := fun e => rfl)) (gcT rfl) rfl ?_
        refine TL.p (C := cx) (gc := ((!(((decide (x36 ≥ (97 : UInt8))) && (decide (x36 ≤ (122 : UInt8)))))) && ((decide (x36 ≥ (48 : UInt8)))))) (p8_leq (a := x36) (b := (57 : UInt8)) rfl rfl (hg := fun e => ⟨e, rfl⟩)) (gcT rfl) rfl ?_
        refine TL.p (C := cx) (gc := (!(((decide (x36 ≥ (97 : UInt8))) && (decide (x36 ≤ (122 : UInt8))))))) (p_and rfl rfl (fun e => ⟨e, fun h => (and_i e h)⟩)) (gcF1 rfl) rfl ?_
        refine TL.p (C := cx) (gc := true) (p_or rfl rfl (fun e => ⟨rfl, fun h => (not_t h)⟩)) rfl rfl ?_
        refine TL.p (C := cx) (gc := true) (p_mv rfl) rfl rfl ?_
        refine TL.p (C := cx) (gc := (!((((decide (x36 ≥ (97 : UInt8))) && (decide (x36 ≤ (122 : UInt8)))) || ((decide (x36 ≥ (48 : UInt8))) && (decide (x36 ≤ (57 : UInt8)))))))) (p_mv rfl (hg := fun e => rfl)) (gcF1 rfl) rfl ?_
        refine TL.p (C := cx) (gc := (!((((decide (x36 ≥ (97 : UInt8))) && (decide (x36 ≤ (122 : UInt8)))) || ((decide (x36 ≥ (48 : UInt8))) && (decide (x36 ≤ (57 : UInt8)))))))) (p8_eql (a := x36) (b := (46 : UInt8)) rfl rfl (hg := fun e => ⟨e, rfl⟩)) (gcF1 rfl) rfl ?_
        refine TL.p (C := cx) (gc := true) (p_or rfl rfl (fun e => ⟨rfl, fun h => (not_t h)⟩)) rfl rfl ?_
        refine TL.p (C := cx) (gc := true) (p_mv rfl) rfl rfl ?_
        refine TL.p (C := cx) (gc := (!(((((decide (x36 ≥ (97 : UInt8))) && (decide (x36 ≤ (122 : UInt8)))) || ((decide (x36 ≥ (48 : UInt8))) && (decide (x36 ≤ (57 : UInt8))))) || (x36 == (46 : UInt8)))))) (p_mv rfl (hg := fun e => rfl)) (gcF1 rfl) rfl ?_
        refine TL.p (C := cx) (gc := (!(((((decide (x36 ≥ (97 : UInt8))) && (decide (x36 ≤ (122 : UInt8)))) || ((decide (x36 ≥ (48 : UInt8))) && (decide (x36 ≤ (57 : UInt8))))) || (x36 == (46 : UInt8)))))) (p8_eql (a := x36) (b := (45 : UInt8)) rfl rfl (hg := fun e => ⟨e, rfl⟩)) (gcF1 rfl) rfl ?_
        refine TL.p (C := cx) (gc := true) (p_or rfl rfl (fun e => ⟨rfl, fun h => (not_t h)⟩)) rfl rfl ?_
        refine TL.p (C := cx) (gc := true) (p_mv rfl) rfl rfl ?_
        refine TL.p (C := cx) (gc := (!((((((decide (x36 ≥ (97 : UInt8))) && (decide (x36 ≤ (122 : UInt8)))) || ((decide (x36 ≥ (48 : UInt8))) && (decide (x36 ≤ (57 : UInt8))))) || (x36 == (46 : UInt8))) || (x36 == (45 : UInt8)))))) (p_mv rfl (hg := fun e => rfl)) (gcF1 rfl) rfl ?_
        refine TL.p (C := cx) (gc := (!((((((decide (x36 ≥ (97 : UInt8))) && (decide (x36 ≤ (122 : UInt8)))) || ((decide (x36 ≥ (48 : UInt8))) && (decide (x36 ≤ (57 : UInt8))))) || (x36 == (46 : UInt8))) || (x36 == (45 : UInt8)))))) (p8_eql (a := x36) (b := (95 : UInt8)) rfl rfl (hg := fun e => ⟨e, rfl⟩)) (gcF1 rfl) rfl ?_
        refine TL.p (C := cx) (gc := true) (p_or rfl rfl (fun e => ⟨rfl, fun h => (not_t h)⟩)) rfl rfl ?_
        refine TL.p (C := cx) (gc := true) (p_not rfl) rfl rfl ?_
        refine TL.nil ?_
        refine hK38 _ _ ?_
        refine TK.cond (b := (!((((((decide (x36 ≥ (97 : UInt8))) && (decide (x36 ≤ (122 : UInt8)))) || ((decide (x36 ≥ (48 : UInt8))) && (decide (x36 ≤ (57 : UInt8))))) || (x36 == (46 : UInt8))) || (x36 == (45 : UInt8))) || (x36 == (95 : UInt8))))) rfl (fun hc => ?_) (fun hc => ?_)
        · have hX := ite_t hc hX
          refine TK.seq_k fun K39 hK39 => ?_
          refine TK.reg ?_
          refine TL.p (C := cx) (gc := true) (p_mv rfl) rfl rfl ?_
          refine TL.nil ?_
          refine hK39 _ _ ?_
          refine TK.wk 2 (L ([] : (List Str))) rfl Wk_nil ?_
          refine TK.ret ?_
          obtain rfl := hR11 _ (some_in hX).symm
          replace hX := hA11
          try dsimp only [thenQ]
          exact ret1 (v := Enc.v (([] : (List Str)) : (List Str))) rfl (by obtain rfl := some_in hX; rfl) (v_val _)
        · have hX := ite_f hc hX
          refine TK.skip ?_
          refine hK37 _ _ ?_
          refine TK.reg ?_
          refine TL.p (C := cx) (gc := true) (p_mv rfl) rfl rfl ?_
          refine TL.p (C := cx) (gc := true) (p_mv rfl) rfl rfl ?_
          refine TL.p (C := cx) (gc := true) (p_mv rfl) rfl rfl ?_
          refine TL.p (C := cx) (gc := true) (p_mv rfl) rfl rfl ?_
          refine TL.p (C := cx) (gc := true) (p_add rfl rfl) rfl rfl ?_
          obtain ⟨u40, hu40, hX⟩ := bind_some hX
          refine TL.p (C := cx) (gc := true) (p_sliS (s := s1) (l := i15) (k := (wr (i15 + (1 : Int)))) kd9 rfl rfl (fun n hn => rfl) (fun e => need_t hu40)) rfl rfl ?_
          obtain ⟨u41, hu41, hX⟩ := bind_some hX
          refine TL.p (C := cx) (gc := true) (ps_add (s := w14) (r := (Str.mk (slc s1.l i15 (wr (i15 + (1 : Int)))))) rfl rfl (hl := fun e => need_t hu41)) rfl rfl ?_
          refine TL.p (C := cx) (gc := true) (p_mv rfl) rfl rfl ?_
          refine TL.nil ?_
          exact J21 l13 (Str.mk (w14.l ++ (Str.mk (slc s1.l i15 (wr (i15 + (1 : Int))))).l)) _ _ ⟨b12, rfl, (Nd.pick nd (is := [0]) (by decide)), (HSub.pick nd (is := [0]) (by decide))⟩ hX
    · have hX := ite_f hc hX
      refine TK.exit ?_
      obtain rfl := hR11 _ (some_in hX).symm
      exact E11 l13 _ _ ⟨b12, rfl, (Nd.pick nd (is := [0]) (by decide)), (HSub.pick nd (is := [0]) (by decide))⟩ hA11

/-- cartridge/cartridgeref1.RightPath -/
theorem ok_cartridgeref1_RightPath (s1 : Str) (r : Bool) (hX : X.cartridgeref1_RightPath s1 = some r) : Fun Tryd.prog 12 [Enc.v (s1 : Str)] (· = Enc.v (r : Bool)) := by
  refine Fun.of b12 (Nat.le_of_ble_eq_true rfl) (allVal.mem ⟨(by exact (v_val _)), trivial⟩) ?_
  unfold k12
  have nd : Nd [] := Nd_nil
  unfold X.cartridgeref1_RightPath at hX
  refine TK.seq_k fun K2 hK2 => ?_
  refine TK.reg ?_
  refine TL.p (C := cx) (gc := true) (p_mv rfl) rfl rfl ?_
  refine TL.nil ?_
  refine hK2 _ _ ?_
  refine TK.seq_k fun K3 hK3 => ?_
  refine TK.reg ?_
  refine TL.p (C := cx) (gc := true) (p_mv rfl) rfl rfl ?_
  obtain ⟨r4, hr4, hX⟩ := bind_some hX
  refine TL.cvX rfl rfl rfl (fun _ => ⟨rfl, ⟨rfl, trivial⟩⟩) (fun e => ok_cartridgeref1_PathParts s1 _ hr4) ?_
  refine TL.p (C := cx) (gc := true) (p_lenL (xs := r4) kd25 rfl) rfl rfl ?_
  refine TL.p (C := cx) (gc := true) (p_gtr rfl rfl) rfl rfl ?_
  refine TL.p (C := cx) (gc := true) (p_mv rfl) rfl rfl ?_
  refine TL.nil ?_
  refine hK3 _ _ ?_
  refine TK.ret ?_
  try dsimp only [thenQ]
  exact ret1 (v := Enc.v ((decide ((r4.length : Int) > (0 : Int))) : Bool)) rfl (by obtain rfl := some_in hX; rfl) (v_val _)

/-- cartridge/cartridgeref10.RightHead -/
theorem ok_cartridgeref10_RightHead (h1 : Head_api) (r : Bool) (hX : X.cartridgeref10_RightHead h1 = some r) : Fun Tryd.prog 19 [Enc.v (h1 : Head_api)] (· = Enc.v (r : Bool)) := by
  refine Fun.of b19 (Nat.le_of_ble_eq_true rfl) (allVal.mem ⟨(by exact (v_val _)), trivial⟩) ?_
  unfold k19
  have nd : Nd [] := Nd_nil
  unfold X.cartridgeref10_RightHead at hX
  refine TK.seq_k fun K2 hK2 => ?_
  refine TK.reg ?_
  refine TL.boxV (C := cx) (lu := [Enc.v (h1.Path : Str), Enc.v (h1.Version : Int), Enc.v (h1.Size : Int), Enc.v (h1.From : Int), Enc.v (h1.Len : Int), Enc.v (h1.Serial : Int), Enc.v (h1.Sum : Int), Enc.v (h1.Gone : Bool)]) nd rfl (Cells_v (h1 : Head_api)) rfl ?_
  refine TL.p (C := cx) (gc := true) (p_mv rfl) rfl rfl ?_
  refine TL.nil ?_
  refine hK2 _ _ ?_
  refine TK.seq_k fun K3 hK3 => ?_
  refine TK.seq_k fun K4 hK4 => ?_
  refine TK.reg ?_
  refine TL.p (C := cx) (gc := true) (p_faR fs31_0 (by decide) rfl) rfl rfl ?_
  refine TL.p (C := cx) (gc := true) (p_ldR (v := Enc.v (h1.Path : Str)) ty9 rfl rfl rfl rfl rfl rfl) rfl rfl ?_
  obtain ⟨r5, hr5, hX⟩ := bind_some hX
  refine TL.cvX rfl rfl rfl (fun _ => ⟨rfl, ⟨rfl, trivial⟩⟩) (fun e => ok_cartridgeref1_RightPath h1.Path _ hr5) ?_
  refine TL.p (C := cx) (gc := true) (p_not rfl) rfl rfl ?_
  refine TL.p (C := cx) (gc := true) (p_mv rfl) rfl rfl ?_
  refine TL.p (C := cx) (gc := (!((!r5)))) (p_faR fs31_1 (by decide) rfl (hg := fun e => rfl)) (gcF1 rfl) rfl ?_
  refine TL.p (C := cx) (gc := (!((!r5)))) (p_ldR (v := Enc.v (h1.Version : Int)) ty3 rfl rfl rfl rfl rfl rfl (hg := fun e => e)) (gcF1 rfl) rfl ?_
  refine TL.p (C := cx) (gc := (!((!r5)))) (p_lss rfl rfl (hg := fun e => ⟨e, rfl⟩)) (gcF1 rfl) rfl ?_
  refine TL.p (C := cx) (gc := true) (p_or rfl rfl (fun e => ⟨rfl, fun h => (not_t h)⟩)) rfl rfl ?_
  refine TL.p (C := cx) (gc := true) (p_mv rfl) rfl rfl ?_
  refine TL.p (C := cx) (gc := (!(((!r5) || (decide (h1.Version < (1 : Int))))))) (p_faR fs31_1 (by decide) rfl (hg := fun e => rfl)) (gcF1 rfl) rfl ?_
  refine TL.p (C := cx) (gc := (!(((!r5) || (decide (h1.Version < (1 : Int))))))) (p_ldR (v := Enc.v (h1.Version : Int)) ty3 rfl rfl rfl rfl rfl rfl (hg := fun e => e)) (gcF1 rfl) rfl ?_
  refine TL.p (C := cx) (gc := (!(((!r5) || (decide (h1.Version < (1 : Int))))))) (p_gtr rfl rfl (hg := fun e => ⟨e, rfl⟩)) (gcF1 rfl) rfl ?_
  refine TL.p (C := cx) (gc := true) (p_or rfl rfl (fun e => ⟨rfl, fun h => (not_t h)⟩)) rfl rfl ?_
  refine TL.p (C := cx) (gc := true) (p_mv rfl) rfl rfl ?_
  refine TL.p (C := cx) (gc := (!((((!r5) || (decide (h1.Version < (1 : Int)))) || (decide (h1.Version > (1073741824 : Int))))))) (p_faR fs31_5 (by decide) rfl (hg := fun e => rfl)) (gcF1 rfl) rfl ?_
  refine TL.p (C := cx) (gc := (!((((!r5) || (decide (h1.Version < (1 : Int)))) || (decide (h1.Version > (1073741824 : Int))))))) (p_ldR (v := Enc.v (h1.Serial : Int)) ty3 rfl rfl rfl rfl rfl rfl (hg := fun e => e)) (gcF1 rfl) rfl ?_
  refine TL.p (C := cx) (gc := (!((((!r5) || (decide (h1.Version < (1 : Int)))) || (decide (h1.Version > (1073741824 : Int))))))) (p_lss rfl rfl (hg := fun e => ⟨e, rfl⟩)) (gcF1 rfl) rfl ?_
  refine TL.p (C := cx) (gc := true) (p_or rfl rfl (fun e => ⟨rfl, fun h => (not_t h)⟩)) rfl rfl ?_
  refine TL.p (C := cx) (gc := true) (p_mv rfl) rfl rfl ?_
  refine TL.p (C := cx) (gc := (!(((((!r5) || (decide (h1.Version < (1 : Int)))) || (decide (h1.Version > (1073741824 : Int)))) || (decide (h1.Serial < (1 : Int))))))) (p_faR fs31_5 (by decide) rfl (hg := fun e => rfl)) (gcF1 rfl) rfl ?_
  refine TL.p (C := cx) (gc := (!(((((!r5) || (decide (h1.Version < (1 : Int)))) || (decide (h1.Version > (1073741824 : Int)))) || (decide (h1.Serial < (1 : Int))))))) (p_ldR (v := Enc.v (h1.Serial : Int)) ty3 rfl rfl rfl rfl rfl rfl (hg := fun e => e)) (gcF1 rfl) rfl ?_
  refine TL.p (C := cx) (gc := (!(((((!r5) || (decide (h1.Version < (1 : Int)))) || (decide (h1.Version > (1073741824 : Int)))) || (decide (h1.Serial < (1 : Int))))))) (p_gtr rfl rfl (hg := fun e => ⟨e, rfl⟩)) (gcF1 rfl) rfl ?_
  refine TL.p (C := cx) (gc := true) (p_or rfl rfl (fun e => ⟨rfl, fun h => (not_t h)⟩)) rfl rfl ?_
  refine TL.p (C := cx) (gc := true) (p_mv rfl) rfl rfl ?_
  refine TL.p (C := cx) (gc := (!((((((!r5) || (decide (h1.Version < (1 : Int)))) || (decide (h1.Version > (1073741824 : Int)))) || (decide (h1.Serial < (1 : Int)))) || (decide (h1.Serial > (1073741824 : Int))))))) (p_faR fs31_2 (by decide) rfl (hg := fun e => rfl)) (gcF1 rfl) rfl ?_
  refine TL.p (C := cx) (gc := (!((((((!r5) || (decide (h1.Version < (1 : Int)))) || (decide (h1.Version > (1073741824 : Int)))) || (decide (h1.Serial < (1 : Int)))) || (decide (h1.Serial > (1073741824 : Int))))))) (p_ldR (v := Enc.v (h1.Size : Int)) ty3 rfl rfl rfl rfl rfl rfl (hg := fun e => e)) (gcF1 rfl) rfl ?_
  refine TL.p (C := cx) (gc := (!((((((!r5) || (decide (h1.Version < (1 : Int)))) || (decide (h1.Version > (1073741824 : Int)))) || (decide (h1.Serial < (1 : Int)))) || (decide (h1.Serial > (1073741824 : Int))))))) (p_lss rfl rfl (hg := fun e => ⟨e, rfl⟩)) (gcF1 rfl) rfl ?_
  refine TL.p (C := cx) (gc := true) (p_or rfl rfl (fun e => ⟨rfl, fun h => (not_t h)⟩)) rfl rfl ?_
  refine TL.p (C := cx) (gc := true) (p_mv rfl) rfl rfl ?_
  refine TL.p (C := cx) (gc := (!(((((((!r5) || (decide (h1.Version < (1 : Int)))) || (decide (h1.Version > (1073741824 : Int)))) || (decide (h1.Serial < (1 : Int)))) || (decide (h1.Serial > (1073741824 : Int)))) || (decide (h1.Size < (0 : Int))))))) (p_faR fs31_2 (by decide) rfl (hg := fun e => rfl)) (gcF1 rfl) rfl ?_
  refine TL.p (C := cx) (gc := (!(((((((!r5) || (decide (h1.Version < (1 : Int)))) || (decide (h1.Version > (1073741824 : Int)))) || (decide (h1.Serial < (1 : Int)))) || (decide (h1.Serial > (1073741824 : Int)))) || (decide (h1.Size < (0 : Int))))))) (p_ldR (v := Enc.v (h1.Size : Int)) ty3 rfl rfl rfl rfl rfl rfl (hg := fun e => e)) (gcF1 rfl) rfl ?_
  refine TL.p (C := cx) (gc := (!(((((((!r5) || (decide (h1.Version < (1 : Int)))) || (decide (h1.Version > (1073741824 : Int)))) || (decide (h1.Serial < (1 : Int)))) || (decide (h1.Serial > (1073741824 : Int)))) || (decide (h1.Size < (0 : Int))))))) (p_gtr rfl rfl (hg := fun e => ⟨e, rfl⟩)) (gcF1 rfl) rfl ?_
  refine TL.p (C := cx) (gc := true) (p_or rfl rfl (fun e => ⟨rfl, fun h => (not_t h)⟩)) rfl rfl ?_
  refine TL.p (C := cx) (gc := true) (p_mv rfl) rfl rfl ?_
  refine TL.p (C := cx) (gc := (!((((((((!r5) || (decide (h1.Version < (1 : Int)))) || (decide (h1.Version > (1073741824 : Int)))) || (decide (h1.Serial < (1 : Int)))) || (decide (h1.Serial > (1073741824 : Int)))) || (decide (h1.Size < (0 : Int)))) || (decide (h1.Size > (4000 : Int))))))) (p_faR fs31_3 (by decide) rfl (hg := fun e => rfl)) (gcF1 rfl) rfl ?_
  refine TL.p (C := cx) (gc := (!((((((((!r5) || (decide (h1.Version < (1 : Int)))) || (decide (h1.Version > (1073741824 : Int)))) || (decide (h1.Serial < (1 : Int)))) || (decide (h1.Serial > (1073741824 : Int)))) || (decide (h1.Size < (0 : Int)))) || (decide (h1.Size > (4000 : Int))))))) (p_ldR (v := Enc.v (h1.From : Int)) ty3 rfl rfl rfl rfl rfl rfl (hg := fun e => e)) (gcF1 rfl) rfl ?_
  refine TL.p (C := cx) (gc := (!((((((((!r5) || (decide (h1.Version < (1 : Int)))) || (decide (h1.Version > (1073741824 : Int)))) || (decide (h1.Serial < (1 : Int)))) || (decide (h1.Serial > (1073741824 : Int)))) || (decide (h1.Size < (0 : Int)))) || (decide (h1.Size > (4000 : Int))))))) (p_lss rfl rfl (hg := fun e => ⟨e, rfl⟩)) (gcF1 rfl) rfl ?_
  refine TL.p (C := cx) (gc := true) (p_or rfl rfl (fun e => ⟨rfl, fun h => (not_t h)⟩)) rfl rfl ?_
  refine TL.p (C := cx) (gc := true) (p_mv rfl) rfl rfl ?_
  refine TL.p (C := cx) (gc := (!(((((((((!r5) || (decide (h1.Version < (1 : Int)))) || (decide (h1.Version > (1073741824 : Int)))) || (decide (h1.Serial < (1 : Int)))) || (decide (h1.Serial > (1073741824 : Int)))) || (decide (h1.Size < (0 : Int)))) || (decide (h1.Size > (4000 : Int)))) || (decide (h1.From < (0 : Int))))))) (p_faR fs31_4 (by decide) rfl (hg := fun e => rfl)) (gcF1 rfl) rfl ?_
  refine TL.p (C := cx) (gc := (!(((((((((!r5) || (decide (h1.Version < (1 : Int)))) || (decide (h1.Version > (1073741824 : Int)))) || (decide (h1.Serial < (1 : Int)))) || (decide (h1.Serial > (1073741824 : Int)))) || (decide (h1.Size < (0 : Int)))) || (decide (h1.Size > (4000 : Int)))) || (decide (h1.From < (0 : Int))))))) (p_ldR (v := Enc.v (h1.Len : Int)) ty3 rfl rfl rfl rfl rfl rfl (hg := fun e => e)) (gcF1 rfl) rfl ?_
  refine TL.p (C := cx) (gc := (!(((((((((!r5) || (decide (h1.Version < (1 : Int)))) || (decide (h1.Version > (1073741824 : Int)))) || (decide (h1.Serial < (1 : Int)))) || (decide (h1.Serial > (1073741824 : Int)))) || (decide (h1.Size < (0 : Int)))) || (decide (h1.Size > (4000 : Int)))) || (decide (h1.From < (0 : Int))))))) (p_lss rfl rfl (hg := fun e => ⟨e, rfl⟩)) (gcF1 rfl) rfl ?_
  refine TL.p (C := cx) (gc := true) (p_or rfl rfl (fun e => ⟨rfl, fun h => (not_t h)⟩)) rfl rfl ?_
  refine TL.p (C := cx) (gc := true) (p_mv rfl) rfl rfl ?_
  refine TL.p (C := cx) (gc := (!((((((((((!r5) || (decide (h1.Version < (1 : Int)))) || (decide (h1.Version > (1073741824 : Int)))) || (decide (h1.Serial < (1 : Int)))) || (decide (h1.Serial > (1073741824 : Int)))) || (decide (h1.Size < (0 : Int)))) || (decide (h1.Size > (4000 : Int)))) || (decide (h1.From < (0 : Int)))) || (decide (h1.Len < (0 : Int))))))) (p_faR fs31_3 (by decide) rfl (hg := fun e => rfl)) (gcF1 rfl) rfl ?_
  refine TL.p (C := cx) (gc := (!((((((((((!r5) || (decide (h1.Version < (1 : Int)))) || (decide (h1.Version > (1073741824 : Int)))) || (decide (h1.Serial < (1 : Int)))) || (decide (h1.Serial > (1073741824 : Int)))) || (decide (h1.Size < (0 : Int)))) || (decide (h1.Size > (4000 : Int)))) || (decide (h1.From < (0 : Int)))) || (decide (h1.Len < (0 : Int))))))) (p_ldR (v := Enc.v (h1.From : Int)) ty3 rfl rfl rfl rfl rfl rfl (hg := fun e => e)) (gcF1 rfl) rfl ?_
  refine TL.p (C := cx) (gc := (!((((((((((!r5) || (decide (h1.Version < (1 : Int)))) || (decide (h1.Version > (1073741824 : Int)))) || (decide (h1.Serial < (1 : Int)))) || (decide (h1.Serial > (1073741824 : Int)))) || (decide (h1.Size < (0 : Int)))) || (decide (h1.Size > (4000 : Int)))) || (decide (h1.From < (0 : Int)))) || (decide (h1.Len < (0 : Int))))))) (p_faR fs31_2 (by decide) rfl (hg := fun e => rfl)) (gcF1 rfl) rfl ?_
  refine TL.p (C := cx) (gc := (!((((((((((!r5) || (decide (h1.Version < (1 : Int)))) || (decide (h1.Version > (1073741824 : Int)))) || (decide (h1.Serial < (1 : Int)))) || (decide (h1.Serial > (1073741824 : Int)))) || (decide (h1.Size < (0 : Int)))) || (decide (h1.Size > (4000 : Int)))) || (decide (h1.From < (0 : Int)))) || (decide (h1.Len < (0 : Int))))))) (p_ldR (v := Enc.v (h1.Size : Int)) ty3 rfl rfl rfl rfl rfl rfl (hg := fun e => e)) (gcF1 rfl) rfl ?_
  refine TL.p (C := cx) (gc := (!((((((((((!r5) || (decide (h1.Version < (1 : Int)))) || (decide (h1.Version > (1073741824 : Int)))) || (decide (h1.Serial < (1 : Int)))) || (decide (h1.Serial > (1073741824 : Int)))) || (decide (h1.Size < (0 : Int)))) || (decide (h1.Size > (4000 : Int)))) || (decide (h1.From < (0 : Int)))) || (decide (h1.Len < (0 : Int))))))) (p_gtr rfl rfl (hg := fun e => ⟨e, e⟩)) (gcF1 rfl) rfl ?_
  refine TL.p (C := cx) (gc := true) (p_or rfl rfl (fun e => ⟨rfl, fun h => (not_t h)⟩)) rfl rfl ?_
  refine TL.p (C := cx) (gc := true) (p_mv rfl) rfl rfl ?_
  refine TL.p (C := cx) (gc := (!(((((((((((!r5) || (decide (h1.Version < (1 : Int)))) || (decide (h1.Version > (1073741824 : Int)))) || (decide (h1.Serial < (1 : Int)))) || (decide (h1.Serial > (1073741824 : Int)))) || (decide (h1.Size < (0 : Int)))) || (decide (h1.Size > (4000 : Int)))) || (decide (h1.From < (0 : Int)))) || (decide (h1.Len < (0 : Int)))) || (decide (h1.From > h1.Size)))))) (p_faR fs31_4 (by decide) rfl (hg := fun e => rfl)) (gcF1 rfl) rfl ?_
  refine TL.p (C := cx) (gc := (!(((((((((((!r5) || (decide (h1.Version < (1 : Int)))) || (decide (h1.Version > (1073741824 : Int)))) || (decide (h1.Serial < (1 : Int)))) || (decide (h1.Serial > (1073741824 : Int)))) || (decide (h1.Size < (0 : Int)))) || (decide (h1.Size > (4000 : Int)))) || (decide (h1.From < (0 : Int)))) || (decide (h1.Len < (0 : Int)))) || (decide (h1.From > h1.Size)))))) (p_ldR (v := Enc.v (h1.Len : Int)) ty3 rfl rfl rfl rfl rfl rfl (hg := fun e => e)) (gcF1 rfl) rfl ?_
  refine TL.p (C := cx) (gc := (!(((((((((((!r5) || (decide (h1.Version < (1 : Int)))) || (decide (h1.Version > (1073741824 : Int)))) || (decide (h1.Serial < (1 : Int)))) || (decide (h1.Serial > (1073741824 : Int)))) || (decide (h1.Size < (0 : Int)))) || (decide (h1.Size > (4000 : Int)))) || (decide (h1.From < (0 : Int)))) || (decide (h1.Len < (0 : Int)))) || (decide (h1.From > h1.Size)))))) (p_faR fs31_2 (by decide) rfl (hg := fun e => rfl)) (gcF1 rfl) rfl ?_
  refine TL.p (C := cx) (gc := (!(((((((((((!r5) || (decide (h1.Version < (1 : Int)))) || (decide (h1.Version > (1073741824 : Int)))) || (decide (h1.Serial < (1 : Int)))) || (decide (h1.Serial > (1073741824 : Int)))) || (decide (h1.Size < (0 : Int)))) || (decide (h1.Size > (4000 : Int)))) || (decide (h1.From < (0 : Int)))) || (decide (h1.Len < (0 : Int)))) || (decide (h1.From > h1.Size)))))) (p_ldR (v := Enc.v (h1.Size : Int)) ty3 rfl rfl rfl rfl rfl rfl (hg := fun e => e)) (gcF1 rfl) rfl ?_
  refine TL.p (C := cx) (gc := (!(((((((((((!r5) || (decide (h1.Version < (1 : Int)))) || (decide (h1.Version > (1073741824 : Int)))) || (decide (h1.Serial < (1 : Int)))) || (decide (h1.Serial > (1073741824 : Int)))) || (decide (h1.Size < (0 : Int)))) || (decide (h1.Size > (4000 : Int)))) || (decide (h1.From < (0 : Int)))) || (decide (h1.Len < (0 : Int)))) || (decide (h1.From > h1.Size)))))) (p_faR fs31_3 (by decide) rfl (hg := fun e => rfl)) (gcF1 rfl) rfl ?_
  refine TL.p (C := cx) (gc := (!(((((((((((!r5) || (decide (h1.Version < (1 : Int)))) || (decide (h1.Version > (1073741824 : Int)))) || (decide (h1.Serial < (1 : Int)))) || (decide (h1.Serial > (1073741824 : Int)))) || (decide (h1.Size < (0 : Int)))) || (decide (h1.Size > (4000 : Int)))) || (decide (h1.From < (0 : Int)))) || (decide (h1.Len < (0 : Int)))) || (decide (h1.From > h1.Size)))))) (p_ldR (v := Enc.v (h1.From : Int)) ty3 rfl rfl rfl rfl rfl rfl (hg := fun e => e)) (gcF1 rfl) rfl ?_
  refine TL.p (C := cx) (gc := (!(((((((((((!r5) || (decide (h1.Version < (1 : Int)))) || (decide (h1.Version > (1073741824 : Int)))) || (decide (h1.Serial < (1 : Int)))) || (decide (h1.Serial > (1073741824 : Int)))) || (decide (h1.Size < (0 : Int)))) || (decide (h1.Size > (4000 : Int)))) || (decide (h1.From < (0 : Int)))) || (decide (h1.Len < (0 : Int)))) || (decide (h1.From > h1.Size)))))) (p_sub rfl rfl (hg := fun e => ⟨e, e⟩)) (gcF1 rfl) rfl ?_
  refine TL.p (C := cx) (gc := (!(((((((((((!r5) || (decide (h1.Version < (1 : Int)))) || (decide (h1.Version > (1073741824 : Int)))) || (decide (h1.Serial < (1 : Int)))) || (decide (h1.Serial > (1073741824 : Int)))) || (decide (h1.Size < (0 : Int)))) || (decide (h1.Size > (4000 : Int)))) || (decide (h1.From < (0 : Int)))) || (decide (h1.Len < (0 : Int)))) || (decide (h1.From > h1.Size)))))) (p_gtr rfl rfl (hg := fun e => ⟨e, e⟩)) (gcF1 rfl) rfl ?_
  refine TL.p (C := cx) (gc := true) (p_or rfl rfl (fun e => ⟨rfl, fun h => (not_t h)⟩)) rfl rfl ?_
  refine TL.p (C := cx) (gc := true) (p_mv rfl) rfl rfl ?_
  refine TL.p (C := cx) (gc := (!((((((((((((!r5) || (decide (h1.Version < (1 : Int)))) || (decide (h1.Version > (1073741824 : Int)))) || (decide (h1.Serial < (1 : Int)))) || (decide (h1.Serial > (1073741824 : Int)))) || (decide (h1.Size < (0 : Int)))) || (decide (h1.Size > (4000 : Int)))) || (decide (h1.From < (0 : Int)))) || (decide (h1.Len < (0 : Int)))) || (decide (h1.From > h1.Size))) || (decide (h1.Len > (wr (h1.Size - h1.From)))))))) (p_faR fs31_4 (by decide) rfl (hg := fun e => rfl)) (gcF1 rfl) rfl ?_
  refine TL.p (C := cx) (gc := (!((((((((((((!r5) || (decide (h1.Version < (1 : Int)))) || (decide (h1.Version > (1073741824 : Int)))) || (decide (h1.Serial < (1 : Int)))) || (decide (h1.Serial > (1073741824 : Int)))) || (decide (h1.Size < (0 : Int)))) || (decide (h1.Size > (4000 : Int)))) || (decide (h1.From < (0 : Int)))) || (decide (h1.Len < (0 : Int)))) || (decide (h1.From > h1.Size))) || (decide (h1.Len > (wr (h1.Size - h1.From)))))))) (p_ldR (v := Enc.v (h1.Len : Int)) ty3 rfl rfl rfl rfl rfl rfl (hg := fun e => e)) (gcF1 rfl) rfl ?_
  refine TL.p (C := cx) (gc := (!((((((((((((!r5) || (decide (h1.Version < (1 : Int)))) || (decide (h1.Version > (1073741824 : Int)))) || (decide (h1.Serial < (1 : Int)))) || (decide (h1.Serial > (1073741824 : Int)))) || (decide (h1.Size < (0 : Int)))) || (decide (h1.Size > (4000 : Int)))) || (decide (h1.From < (0 : Int)))) || (decide (h1.Len < (0 : Int)))) || (decide (h1.From > h1.Size))) || (decide (h1.Len > (wr (h1.Size - h1.From)))))))) (p_eql rfl rfl (hg := fun e => ⟨e, rfl⟩)) (gcF1 rfl) rfl ?_
  refine TL.p (C := cx) (gc := (!((((((((((((!r5) || (decide (h1.Version < (1 : Int)))) || (decide (h1.Version > (1073741824 : Int)))) || (decide (h1.Serial < (1 : Int)))) || (decide (h1.Serial > (1073741824 : Int)))) || (decide (h1.Size < (0 : Int)))) || (decide (h1.Size > (4000 : Int)))) || (decide (h1.From < (0 : Int)))) || (decide (h1.Len < (0 : Int)))) || (decide (h1.From > h1.Size))) || (decide (h1.Len > (wr (h1.Size - h1.From)))))))) (p_mv rfl (hg := fun e => e)) (gcF1 rfl) rfl ?_
  refine TL.p (C := cx) (gc := ((!((((((((((((!r5) || (decide (h1.Version < (1 : Int)))) || (decide (h1.Version > (1073741824 : Int)))) || (decide (h1.Serial < (1 : Int)))) || (decide (h1.Serial > (1073741824 : Int)))) || (decide (h1.Size < (0 : Int)))) || (decide (h1.Size > (4000 : Int)))) || (decide (h1.From < (0 : Int)))) || (decide (h1.Len < (0 : Int)))) || (decide (h1.From > h1.Size))) || (decide (h1.Len > (wr (h1.Size - h1.From))))))) && ((h1.Len == (0 : Int))))) (p_faR fs31_2 (by decide) rfl (hg := fun e => rfl)) (gcT rfl) rfl ?_
  refine TL.p (C := cx) (gc := ((!((((((((((((!r5) || (decide (h1.Version < (1 : Int)))) || (decide (h1.Version > (1073741824 : Int)))) || (decide (h1.Serial < (1 : Int)))) || (decide (h1.Serial > (1073741824 : Int)))) || (decide (h1.Size < (0 : Int)))) || (decide (h1.Size > (4000 : Int)))) || (decide (h1.From < (0 : Int)))) || (decide (h1.Len < (0 : Int)))) || (decide (h1.From > h1.Size))) || (decide (h1.Len > (wr (h1.Size - h1.From))))))) && ((h1.Len == (0 : Int))))) (p_ldR (v := Enc.v (h1.Size : Int)) ty3 rfl rfl rfl rfl rfl rfl (hg := fun e => e)) (gcT rfl) rfl ?_
  refine TL.p (C := cx) (gc := ((!((((((((((((!r5) || (decide (h1.Version < (1 : Int)))) || (decide (h1.Version > (1073741824 : Int)))) || (decide (h1.Serial < (1 : Int)))) || (decide (h1.Serial > (1073741824 : Int)))) || (decide (h1.Size < (0 : Int)))) || (decide (h1.Size > (4000 : Int)))) || (decide (h1.From < (0 : Int)))) || (decide (h1.Len < (0 : Int)))) || (decide (h1.From > h1.Size))) || (decide (h1.Len > (wr (h1.Size - h1.From))))))) && ((h1.Len == (0 : Int))))) (p_gtr rfl rfl (hg := fun e => ⟨e, rfl⟩)) (gcT rfl) rfl ?_
  refine TL.p (C := cx) (gc := (!((((((((((((!r5) || (decide (h1.Version < (1 : Int)))) || (decide (h1.Version > (1073741824 : Int)))) || (decide (h1.Serial < (1 : Int)))) || (decide (h1.Serial > (1073741824 : Int)))) || (decide (h1.Size < (0 : Int)))) || (decide (h1.Size > (4000 : Int)))) || (decide (h1.From < (0 : Int)))) || (decide (h1.Len < (0 : Int)))) || (decide (h1.From > h1.Size))) || (decide (h1.Len > (wr (h1.Size - h1.From)))))))) (p_and rfl rfl (fun e => ⟨e, fun h => (and_i e h)⟩)) (gcF1 rfl) rfl ?_
  refine TL.p (C := cx) (gc := true) (p_or rfl rfl (fun e => ⟨rfl, fun h => (not_t h)⟩)) rfl rfl ?_
  refine TL.p (C := cx) (gc := true) (p_mv rfl) rfl rfl ?_
  refine TL.p (C := cx) (gc := (!(((((((((((((!r5) || (decide (h1.Version < (1 : Int)))) || (decide (h1.Version > (1073741824 : Int)))) || (decide (h1.Serial < (1 : Int)))) || (decide (h1.Serial > (1073741824 : Int)))) || (decide (h1.Size < (0 : Int)))) || (decide (h1.Size > (4000 : Int)))) || (decide (h1.From < (0 : Int)))) || (decide (h1.Len < (0 : Int)))) || (decide (h1.From > h1.Size))) || (decide (h1.Len > (wr (h1.Size - h1.From))))) || ((h1.Len == (0 : Int)) && (decide (h1.Size > (0 : Int)))))))) (p_faR fs31_6 (by decide) rfl (hg := fun e => rfl)) (gcF1 rfl) rfl ?_
  refine TL.p (C := cx) (gc := (!(((((((((((((!r5) || (decide (h1.Version < (1 : Int)))) || (decide (h1.Version > (1073741824 : Int)))) || (decide (h1.Serial < (1 : Int)))) || (decide (h1.Serial > (1073741824 : Int)))) || (decide (h1.Size < (0 : Int)))) || (decide (h1.Size > (4000 : Int)))) || (decide (h1.From < (0 : Int)))) || (decide (h1.Len < (0 : Int)))) || (decide (h1.From > h1.Size))) || (decide (h1.Len > (wr (h1.Size - h1.From))))) || ((h1.Len == (0 : Int)) && (decide (h1.Size > (0 : Int)))))))) (p_ldR (v := Enc.v (h1.Sum : Int)) ty3 rfl rfl rfl rfl rfl rfl (hg := fun e => e)) (gcF1 rfl) rfl ?_
  refine TL.p (C := cx) (gc := (!(((((((((((((!r5) || (decide (h1.Version < (1 : Int)))) || (decide (h1.Version > (1073741824 : Int)))) || (decide (h1.Serial < (1 : Int)))) || (decide (h1.Serial > (1073741824 : Int)))) || (decide (h1.Size < (0 : Int)))) || (decide (h1.Size > (4000 : Int)))) || (decide (h1.From < (0 : Int)))) || (decide (h1.Len < (0 : Int)))) || (decide (h1.From > h1.Size))) || (decide (h1.Len > (wr (h1.Size - h1.From))))) || ((h1.Len == (0 : Int)) && (decide (h1.Size > (0 : Int)))))))) (p_lss rfl rfl (hg := fun e => ⟨e, rfl⟩)) (gcF1 rfl) rfl ?_
  refine TL.p (C := cx) (gc := true) (p_or rfl rfl (fun e => ⟨rfl, fun h => (not_t h)⟩)) rfl rfl ?_
  refine TL.p (C := cx) (gc := true) (p_mv rfl) rfl rfl ?_
  refine TL.p (C := cx) (gc := (!((((((((((((((!r5) || (decide (h1.Version < (1 : Int)))) || (decide (h1.Version > (1073741824 : Int)))) || (decide (h1.Serial < (1 : Int)))) || (decide (h1.Serial > (1073741824 : Int)))) || (decide (h1.Size < (0 : Int)))) || (decide (h1.Size > (4000 : Int)))) || (decide (h1.From < (0 : Int)))) || (decide (h1.Len < (0 : Int)))) || (decide (h1.From > h1.Size))) || (decide (h1.Len > (wr (h1.Size - h1.From))))) || ((h1.Len == (0 : Int)) && (decide (h1.Size > (0 : Int))))) || (decide (h1.Sum < (0 : Int))))))) (p_faR fs31_6 (by decide) rfl (hg := fun e => rfl)) (gcF1 rfl) rfl ?_
  refine TL.p (C := cx) (gc := (!((((((((((((((!r5) || (decide (h1.Version < (1 : Int)))) || (decide (h1.Version > (1073741824 : Int)))) || (decide (h1.Serial < (1 : Int)))) || (decide (h1.Serial > (1073741824 : Int)))) || (decide (h1.Size < (0 : Int)))) || (decide (h1.Size > (4000 : Int)))) || (decide (h1.From < (0 : Int)))) || (decide (h1.Len < (0 : Int)))) || (decide (h1.From > h1.Size))) || (decide (h1.Len > (wr (h1.Size - h1.From))))) || ((h1.Len == (0 : Int)) && (decide (h1.Size > (0 : Int))))) || (decide (h1.Sum < (0 : Int))))))) (p_ldR (v := Enc.v (h1.Sum : Int)) ty3 rfl rfl rfl rfl rfl rfl (hg := fun e => e)) (gcF1 rfl) rfl ?_
  refine TL.p (C := cx) (gc := (!((((((((((((((!r5) || (decide (h1.Version < (1 : Int)))) || (decide (h1.Version > (1073741824 : Int)))) || (decide (h1.Serial < (1 : Int)))) || (decide (h1.Serial > (1073741824 : Int)))) || (decide (h1.Size < (0 : Int)))) || (decide (h1.Size > (4000 : Int)))) || (decide (h1.From < (0 : Int)))) || (decide (h1.Len < (0 : Int)))) || (decide (h1.From > h1.Size))) || (decide (h1.Len > (wr (h1.Size - h1.From))))) || ((h1.Len == (0 : Int)) && (decide (h1.Size > (0 : Int))))) || (decide (h1.Sum < (0 : Int))))))) (p_gtr rfl rfl (hg := fun e => ⟨e, rfl⟩)) (gcF1 rfl) rfl ?_
  refine TL.p (C := cx) (gc := true) (p_or rfl rfl (fun e => ⟨rfl, fun h => (not_t h)⟩)) rfl rfl ?_
  refine TL.nil ?_
  refine hK4 _ _ ?_
  refine TK.cond (b := ((((((((((((((!r5) || (decide (h1.Version < (1 : Int)))) || (decide (h1.Version > (1073741824 : Int)))) || (decide (h1.Serial < (1 : Int)))) || (decide (h1.Serial > (1073741824 : Int)))) || (decide (h1.Size < (0 : Int)))) || (decide (h1.Size > (4000 : Int)))) || (decide (h1.From < (0 : Int)))) || (decide (h1.Len < (0 : Int)))) || (decide (h1.From > h1.Size))) || (decide (h1.Len > (wr (h1.Size - h1.From))))) || ((h1.Len == (0 : Int)) && (decide (h1.Size > (0 : Int))))) || (decide (h1.Sum < (0 : Int)))) || (decide (h1.Sum > (4294967295 : Int))))) rfl (fun hc => ?_) (fun hc => ?_)
  · have hX := ite_t hc hX
    refine TK.seq_k fun K6 hK6 => ?_
    refine TK.reg ?_
    refine TL.p (C := cx) (gc := true) (p_mv rfl) rfl rfl ?_
    refine TL.nil ?_
    refine hK6 _ _ ?_
    refine TK.ret ?_
    try dsimp only [thenQ]
    exact ret1 (v := Enc.v (false : Bool)) rfl (by obtain rfl := some_in hX; rfl) (v_val _)
  · have hX := ite_f hc hX
    refine TK.skip ?_
    refine hK3 _ _ ?_
    refine TK.seq_k fun K7 hK7 => ?_
    refine TK.reg ?_
    refine TL.p (C := cx) (gc := true) (p_faR fs31_7 (by decide) rfl) rfl rfl ?_
    refine TL.p (C := cx) (gc := true) (p_ldR (v := Enc.v (h1.Gone : Bool)) ty4 rfl rfl rfl rfl rfl rfl) rfl rfl ?_
    refine TL.p (C := cx) (gc := true) (p_not rfl) rfl rfl ?_
    refine TL.p (C := cx) (gc := true) (p_mv rfl) rfl rfl ?_
    refine TL.p (C := cx) (gc := (!((!h1.Gone)))) (p_faR fs31_2 (by decide) rfl (hg := fun e => rfl)) (gcF1 rfl) rfl ?_
    refine TL.p (C := cx) (gc := (!((!h1.Gone)))) (p_ldR (v := Enc.v (h1.Size : Int)) ty3 rfl rfl rfl rfl rfl rfl (hg := fun e => e)) (gcF1 rfl) rfl ?_
    refine TL.p (C := cx) (gc := (!((!h1.Gone)))) (p_eql rfl rfl (hg := fun e => ⟨e, rfl⟩)) (gcF1 rfl) rfl ?_
    refine TL.p (C := cx) (gc := (!((!h1.Gone)))) (p_mv rfl (hg := fun e => e)) (gcF1 rfl) rfl ?_
    refine TL.p (C := cx) (gc := ((!((!h1.Gone))) && ((h1.Size == (0 : Int))))) (p_faR fs31_3 (by decide) rfl (hg := fun e => rfl)) (gcT rfl) rfl ?_
    refine TL.p (C := cx) (gc := ((!((!h1.Gone))) && ((h1.Size == (0 : Int))))) (p_ldR (v := Enc.v (h1.From : Int)) ty3 rfl rfl rfl rfl rfl rfl (hg := fun e => e)) (gcT rfl) rfl ?_
    refine TL.p (C := cx) (gc := ((!((!h1.Gone))) && ((h1.Size == (0 : Int))))) (p_eql rfl rfl (hg := fun e => ⟨e, rfl⟩)) (gcT rfl) rfl ?_
    refine TL.p (C := cx) (gc := (!((!h1.Gone)))) (p_and rfl rfl (fun e => ⟨e, fun h => (and_i e h)⟩)) (gcF1 rfl) rfl ?_
    refine TL.p (C := cx) (gc := (!((!h1.Gone)))) (p_mv rfl (hg := fun e => e)) (gcF1 rfl) rfl ?_
    refine TL.p (C := cx) (gc := ((!((!h1.Gone))) && (((h1.Size == (0 : Int)) && (h1.From == (0 : Int)))))) (p_faR fs31_4 (by decide) rfl (hg := fun e => rfl)) (gcT rfl) rfl ?_
    refine TL.p (C := cx) (gc := ((!((!h1.Gone))) && (((h1.Size == (0 : Int)) && (h1.From == (0 : Int)))))) (p_ldR (v := Enc.v (h1.Len : Int)) ty3 rfl rfl rfl rfl rfl rfl (hg := fun e => e)) (gcT rfl) rfl ?_
    refine TL.p (C := cx) (gc := ((!((!h1.Gone))) && (((h1.Size == (0 : Int)) && (h1.From == (0 : Int)))))) (p_eql rfl rfl (hg := fun e => ⟨e, rfl⟩)) (gcT rfl) rfl ?_
    refine TL.p (C := cx) (gc := (!((!h1.Gone)))) (p_and rfl rfl (fun e => ⟨e, fun h => (and_i e h)⟩)) (gcF1 rfl) rfl ?_
    refine TL.p (C := cx) (gc := (!((!h1.Gone)))) (p_mv rfl (hg := fun e => e)) (gcF1 rfl) rfl ?_
    refine TL.p (C := cx) (gc := ((!((!h1.Gone))) && ((((h1.Size == (0 : Int)) && (h1.From == (0 : Int))) && (h1.Len == (0 : Int)))))) (p_faR fs31_6 (by decide) rfl (hg := fun e => rfl)) (gcT rfl) rfl ?_
    refine TL.p (C := cx) (gc := ((!((!h1.Gone))) && ((((h1.Size == (0 : Int)) && (h1.From == (0 : Int))) && (h1.Len == (0 : Int)))))) (p_ldR (v := Enc.v (h1.Sum : Int)) ty3 rfl rfl rfl rfl rfl rfl (hg := fun e => e)) (gcT rfl) rfl ?_
    refine TL.p (C := cx) (gc := ((!((!h1.Gone))) && ((((h1.Size == (0 : Int)) && (h1.From == (0 : Int))) && (h1.Len == (0 : Int)))))) (p_eql rfl rfl (hg := fun e => ⟨e, rfl⟩)) (gcT rfl) rfl ?_
    refine TL.p (C := cx) (gc := (!((!h1.Gone)))) (p_and rfl rfl (fun e => ⟨e, fun h => (and_i e h)⟩)) (gcF1 rfl) rfl ?_
    refine TL.p (C := cx) (gc := true) (p_or rfl rfl (fun e => ⟨rfl, fun h => (not_t h)⟩)) rfl rfl ?_
    refine TL.p (C := cx) (gc := true) (p_mv rfl) rfl rfl ?_
    refine TL.nil ?_
    refine hK7 _ _ ?_
    refine TK.ret ?_
    try dsimp only [thenQ]
    exact ret1 (v := Enc.v (((!h1.Gone) || ((((h1.Size == (0 : Int)) && (h1.From == (0 : Int))) && (h1.Len == (0 : Int))) && (h1.Sum == (0 : Int)))) : Bool)) rfl (by obtain rfl := some_in hX; rfl) (v_val _)

/-- cartridge/cartridgeref10.RightSeal -/
theorem ok_cartridgeref10_RightSeal (s1 : Seal_api) (r : Bool) (hX : X.cartridgeref10_RightSeal s1 = some r) : Fun Tryd.prog 26 [Enc.v (s1 : Seal_api)] (· = Enc.v (r : Bool)) := by
  refine Fun.of b26 (Nat.le_of_ble_eq_true rfl) (allVal.mem ⟨(by exact (v_val _)), trivial⟩) ?_
  unfold k26
  have nd : Nd [] := Nd_nil
  unfold X.cartridgeref10_RightSeal at hX
  refine TK.seq_k fun K2 hK2 => ?_
  refine TK.reg ?_
  refine TL.boxV (C := cx) (lu := [Enc.v (s1.Number : Int), Enc.v (s1.Index : Int), Enc.v (s1.Data : Int), Enc.v (s1.Parity : Int), Enc.v (s1.Labels : (List Int))]) nd rfl (Cells_v (s1 : Seal_api)) rfl ?_
  refine TL.p (C := cx) (gc := true) (p_mv rfl) rfl rfl ?_
  refine TL.nil ?_
  refine hK2 _ _ ?_
  refine TK.seq_k fun K3 hK3 => ?_
  refine TK.seq_k fun K4 hK4 => ?_
  refine TK.reg ?_
  refine TL.p (C := cx) (gc := true) (p_faR fs45_0 (by decide) rfl) rfl rfl ?_
  refine TL.p (C := cx) (gc := true) (p_ldR (v := Enc.v (s1.Number : Int)) ty3 rfl rfl rfl rfl rfl rfl) rfl rfl ?_
  refine TL.p (C := cx) (gc := true) (p_lss rfl rfl) rfl rfl ?_
  refine TL.p (C := cx) (gc := true) (p_mv rfl) rfl rfl ?_
  refine TL.p (C := cx) (gc := (!((decide (s1.Number < (1 : Int)))))) (p_faR fs45_0 (by decide) rfl (hg := fun e => rfl)) (gcF1 rfl) rfl ?_
  refine TL.p (C := cx) (gc := (!((decide (s1.Number < (1 : Int)))))) (p_ldR (v := Enc.v (s1.Number : Int)) ty3 rfl rfl rfl rfl rfl rfl (hg := fun e => e)) (gcF1 rfl) rfl ?_
  refine TL.p (C := cx) (gc := (!((decide (s1.Number < (1 : Int)))))) (p_gtr rfl rfl (hg := fun e => ⟨e, rfl⟩)) (gcF1 rfl) rfl ?_
  refine TL.p (C := cx) (gc := true) (p_or rfl rfl (fun e => ⟨rfl, fun h => (not_t h)⟩)) rfl rfl ?_
  refine TL.p (C := cx) (gc := true) (p_mv rfl) rfl rfl ?_
  refine TL.p (C := cx) (gc := (!(((decide (s1.Number < (1 : Int))) || (decide (s1.Number > (1073741824 : Int))))))) (p_faR fs45_2 (by decide) rfl (hg := fun e => rfl)) (gcF1 rfl) rfl ?_
  refine TL.p (C := cx) (gc := (!(((decide (s1.Number < (1 : Int))) || (decide (s1.Number > (1073741824 : Int))))))) (p_ldR (v := Enc.v (s1.Data : Int)) ty3 rfl rfl rfl rfl rfl rfl (hg := fun e => e)) (gcF1 rfl) rfl ?_
  refine TL.p (C := cx) (gc := (!(((decide (s1.Number < (1 : Int))) || (decide (s1.Number > (1073741824 : Int))))))) (p_lss rfl rfl (hg := fun e => ⟨e, rfl⟩)) (gcF1 rfl) rfl ?_
  refine TL.p (C := cx) (gc := true) (p_or rfl rfl (fun e => ⟨rfl, fun h => (not_t h)⟩)) rfl rfl ?_
  refine TL.p (C := cx) (gc := true) (p_mv rfl) rfl rfl ?_
  refine TL.p (C := cx) (gc := (!((((decide (s1.Number < (1 : Int))) || (decide (s1.Number > (1073741824 : Int)))) || (decide (s1.Data < (1 : Int))))))) (p_faR fs45_3 (by decide) rfl (hg := fun e => rfl)) (gcF1 rfl) rfl ?_
  refine TL.p (C := cx) (gc := (!((((decide (s1.Number < (1 : Int))) || (decide (s1.Number > (1073741824 : Int)))) || (decide (s1.Data < (1 : Int))))))) (p_ldR (v := Enc.v (s1.Parity : Int)) ty3 rfl rfl rfl rfl rfl rfl (hg := fun e => e)) (gcF1 rfl) rfl ?_
  refine TL.p (C := cx) (gc := (!((((decide (s1.Number < (1 : Int))) || (decide (s1.Number > (1073741824 : Int)))) || (decide (s1.Data < (1 : Int))))))) (p_lss rfl rfl (hg := fun e => ⟨e, rfl⟩)) (gcF1 rfl) rfl ?_
  refine TL.p (C := cx) (gc := true) (p_or rfl rfl (fun e => ⟨rfl, fun h => (not_t h)⟩)) rfl rfl ?_
  refine TL.p (C := cx) (gc := true) (p_mv rfl) rfl rfl ?_
  refine TL.p (C := cx) (gc := (!(((((decide (s1.Number < (1 : Int))) || (decide (s1.Number > (1073741824 : Int)))) || (decide (s1.Data < (1 : Int)))) || (decide (s1.Parity < (1 : Int))))))) (p_faR fs45_2 (by decide) rfl (hg := fun e => rfl)) (gcF1 rfl) rfl ?_
  refine TL.p (C := cx) (gc := (!(((((decide (s1.Number < (1 : Int))) || (decide (s1.Number > (1073741824 : Int)))) || (decide (s1.Data < (1 : Int)))) || (decide (s1.Parity < (1 : Int))))))) (p_ldR (v := Enc.v (s1.Data : Int)) ty3 rfl rfl rfl rfl rfl rfl (hg := fun e => e)) (gcF1 rfl) rfl ?_
  refine TL.p (C := cx) (gc := (!(((((decide (s1.Number < (1 : Int))) || (decide (s1.Number > (1073741824 : Int)))) || (decide (s1.Data < (1 : Int)))) || (decide (s1.Parity < (1 : Int))))))) (p_gtr rfl rfl (hg := fun e => ⟨e, rfl⟩)) (gcF1 rfl) rfl ?_
  refine TL.p (C := cx) (gc := true) (p_or rfl rfl (fun e => ⟨rfl, fun h => (not_t h)⟩)) rfl rfl ?_
  refine TL.p (C := cx) (gc := true) (p_mv rfl) rfl rfl ?_
  refine TL.p (C := cx) (gc := (!((((((decide (s1.Number < (1 : Int))) || (decide (s1.Number > (1073741824 : Int)))) || (decide (s1.Data < (1 : Int)))) || (decide (s1.Parity < (1 : Int)))) || (decide (s1.Data > (14 : Int))))))) (p_faR fs45_3 (by decide) rfl (hg := fun e => rfl)) (gcF1 rfl) rfl ?_
  refine TL.p (C := cx) (gc := (!((((((decide (s1.Number < (1 : Int))) || (decide (s1.Number > (1073741824 : Int)))) || (decide (s1.Data < (1 : Int)))) || (decide (s1.Parity < (1 : Int)))) || (decide (s1.Data > (14 : Int))))))) (p_ldR (v := Enc.v (s1.Parity : Int)) ty3 rfl rfl rfl rfl rfl rfl (hg := fun e => e)) (gcF1 rfl) rfl ?_
  refine TL.p (C := cx) (gc := (!((((((decide (s1.Number < (1 : Int))) || (decide (s1.Number > (1073741824 : Int)))) || (decide (s1.Data < (1 : Int)))) || (decide (s1.Parity < (1 : Int)))) || (decide (s1.Data > (14 : Int))))))) (p_gtr rfl rfl (hg := fun e => ⟨e, rfl⟩)) (gcF1 rfl) rfl ?_
  refine TL.p (C := cx) (gc := true) (p_or rfl rfl (fun e => ⟨rfl, fun h => (not_t h)⟩)) rfl rfl ?_
  refine TL.p (C := cx) (gc := true) (p_mv rfl) rfl rfl ?_
  refine TL.p (C := cx) (gc := (!(((((((decide (s1.Number < (1 : Int))) || (decide (s1.Number > (1073741824 : Int)))) || (decide (s1.Data < (1 : Int)))) || (decide (s1.Parity < (1 : Int)))) || (decide (s1.Data > (14 : Int)))) || (decide (s1.Parity > (14 : Int))))))) (p_faR fs45_2 (by decide) rfl (hg := fun e => rfl)) (gcF1 rfl) rfl ?_
  refine TL.p (C := cx) (gc := (!(((((((decide (s1.Number < (1 : Int))) || (decide (s1.Number > (1073741824 : Int)))) || (decide (s1.Data < (1 : Int)))) || (decide (s1.Parity < (1 : Int)))) || (decide (s1.Data > (14 : Int)))) || (decide (s1.Parity > (14 : Int))))))) (p_ldR (v := Enc.v (s1.Data : Int)) ty3 rfl rfl rfl rfl rfl rfl (hg := fun e => e)) (gcF1 rfl) rfl ?_
  refine TL.p (C := cx) (gc := (!(((((((decide (s1.Number < (1 : Int))) || (decide (s1.Number > (1073741824 : Int)))) || (decide (s1.Data < (1 : Int)))) || (decide (s1.Parity < (1 : Int)))) || (decide (s1.Data > (14 : Int)))) || (decide (s1.Parity > (14 : Int))))))) (p_faR fs45_3 (by decide) rfl (hg := fun e => rfl)) (gcF1 rfl) rfl ?_
  refine TL.p (C := cx) (gc := (!(((((((decide (s1.Number < (1 : Int))) || (decide (s1.Number > (1073741824 : Int)))) || (decide (s1.Data < (1 : Int)))) || (decide (s1.Parity < (1 : Int)))) || (decide (s1.Data > (14 : Int)))) || (decide (s1.Parity > (14 : Int))))))) (p_ldR (v := Enc.v (s1.Parity : Int)) ty3 rfl rfl rfl rfl rfl rfl (hg := fun e => e)) (gcF1 rfl) rfl ?_
  refine TL.p (C := cx) (gc := (!(((((((decide (s1.Number < (1 : Int))) || (decide (s1.Number > (1073741824 : Int)))) || (decide (s1.Data < (1 : Int)))) || (decide (s1.Parity < (1 : Int)))) || (decide (s1.Data > (14 : Int)))) || (decide (s1.Parity > (14 : Int))))))) (p_add rfl rfl (hg := fun e => ⟨e, e⟩)) (gcF1 rfl) rfl ?_
  refine TL.p (C := cx) (gc := (!(((((((decide (s1.Number < (1 : Int))) || (decide (s1.Number > (1073741824 : Int)))) || (decide (s1.Data < (1 : Int)))) || (decide (s1.Parity < (1 : Int)))) || (decide (s1.Data > (14 : Int)))) || (decide (s1.Parity > (14 : Int))))))) (p_gtr rfl rfl (hg := fun e => ⟨e, rfl⟩)) (gcF1 rfl) rfl ?_
  refine TL.p (C := cx) (gc := true) (p_or rfl rfl (fun e => ⟨rfl, fun h => (not_t h)⟩)) rfl rfl ?_
  refine TL.p (C := cx) (gc := true) (p_mv rfl) rfl rfl ?_
  refine TL.p (C := cx) (gc := (!((((((((decide (s1.Number < (1 : Int))) || (decide (s1.Number > (1073741824 : Int)))) || (decide (s1.Data < (1 : Int)))) || (decide (s1.Parity < (1 : Int)))) || (decide (s1.Data > (14 : Int)))) || (decide (s1.Parity > (14 : Int)))) || (decide ((wr (s1.Data + s1.Parity)) > (14 : Int))))))) (p_faR fs45_4 (by decide) rfl (hg := fun e => rfl)) (gcF1 rfl) rfl ?_
  refine TL.p (C := cx) (gc := (!((((((((decide (s1.Number < (1 : Int))) || (decide (s1.Number > (1073741824 : Int)))) || (decide (s1.Data < (1 : Int)))) || (decide (s1.Parity < (1 : Int)))) || (decide (s1.Data > (14 : Int)))) || (decide (s1.Parity > (14 : Int)))) || (decide ((wr (s1.Data + s1.Parity)) > (14 : Int))))))) (p_ldR (v := Enc.v (s1.Labels : (List Int))) ty43 rfl rfl rfl rfl rfl rfl (hg := fun e => e)) (gcF1 rfl) rfl ?_
  refine TL.p (C := cx) (gc := (!((((((((decide (s1.Number < (1 : Int))) || (decide (s1.Number > (1073741824 : Int)))) || (decide (s1.Data < (1 : Int)))) || (decide (s1.Parity < (1 : Int)))) || (decide (s1.Data > (14 : Int)))) || (decide (s1.Parity > (14 : Int)))) || (decide ((wr (s1.Data + s1.Parity)) > (14 : Int))))))) (p_lenL (xs := s1.Labels) kd43 rfl (hg := fun e => e)) (gcF1 rfl) rfl ?_
  refine TL.p (C := cx) (gc := (!((((((((decide (s1.Number < (1 : Int))) || (decide (s1.Number > (1073741824 : Int)))) || (decide (s1.Data < (1 : Int)))) || (decide (s1.Parity < (1 : Int)))) || (decide (s1.Data > (14 : Int)))) || (decide (s1.Parity > (14 : Int)))) || (decide ((wr (s1.Data + s1.Parity)) > (14 : Int))))))) (p_faR fs45_2 (by decide) rfl (hg := fun e => rfl)) (gcF1 rfl) rfl ?_
  refine TL.p (C := cx) (gc := (!((((((((decide (s1.Number < (1 : Int))) || (decide (s1.Number > (1073741824 : Int)))) || (decide (s1.Data < (1 : Int)))) || (decide (s1.Parity < (1 : Int)))) || (decide (s1.Data > (14 : Int)))) || (decide (s1.Parity > (14 : Int)))) || (decide ((wr (s1.Data + s1.Parity)) > (14 : Int))))))) (p_ldR (v := Enc.v (s1.Data : Int)) ty3 rfl rfl rfl rfl rfl rfl (hg := fun e => e)) (gcF1 rfl) rfl ?_
  refine TL.p (C := cx) (gc := (!((((((((decide (s1.Number < (1 : Int))) || (decide (s1.Number > (1073741824 : Int)))) || (decide (s1.Data < (1 : Int)))) || (decide (s1.Parity < (1 : Int)))) || (decide (s1.Data > (14 : Int)))) || (decide (s1.Parity > (14 : Int)))) || (decide ((wr (s1.Data + s1.Parity)) > (14 : Int))))))) (p_faR fs45_3 (by decide) rfl (hg := fun e => rfl)) (gcF1 rfl) rfl ?_
  refine TL.p (C := cx) (gc := (!((((((((decide (s1.Number < (1 : Int))) || (decide (s1.Number > (1073741824 : Int)))) || (decide (s1.Data < (1 : Int)))) || (decide (s1.Parity < (1 : Int)))) || (decide (s1.Data > (14 : Int)))) || (decide (s1.Parity > (14 : Int)))) || (decide ((wr (s1.Data + s1.Parity)) > (14 : Int))))))) (p_ldR (v := Enc.v (s1.Parity : Int)) ty3 rfl rfl rfl rfl rfl rfl (hg := fun e => e)) (gcF1 rfl) rfl ?_
  refine TL.p (C := cx) (gc := (!((((((((decide (s1.Number < (1 : Int))) || (decide (s1.Number > (1073741824 : Int)))) || (decide (s1.Data < (1 : Int)))) || (decide (s1.Parity < (1 : Int)))) || (decide (s1.Data > (14 : Int)))) || (decide (s1.Parity > (14 : Int)))) || (decide ((wr (s1.Data + s1.Parity)) > (14 : Int))))))) (p_add rfl rfl (hg := fun e => ⟨e, e⟩)) (gcF1 rfl) rfl ?_
  refine TL.p (C := cx) (gc := (!((((((((decide (s1.Number < (1 : Int))) || (decide (s1.Number > (1073741824 : Int)))) || (decide (s1.Data < (1 : Int)))) || (decide (s1.Parity < (1 : Int)))) || (decide (s1.Data > (14 : Int)))) || (decide (s1.Parity > (14 : Int)))) || (decide ((wr (s1.Data + s1.Parity)) > (14 : Int))))))) (p_neq rfl rfl (hg := fun e => ⟨e, e⟩)) (gcF1 rfl) rfl ?_
  refine TL.p (C := cx) (gc := true) (p_or rfl rfl (fun e => ⟨rfl, fun h => (not_t h)⟩)) rfl rfl ?_
  refine TL.p (C := cx) (gc := true) (p_mv rfl) rfl rfl ?_
  refine TL.p (C := cx) (gc := (!(((((((((decide (s1.Number < (1 : Int))) || (decide (s1.Number > (1073741824 : Int)))) || (decide (s1.Data < (1 : Int)))) || (decide (s1.Parity < (1 : Int)))) || (decide (s1.Data > (14 : Int)))) || (decide (s1.Parity > (14 : Int)))) || (decide ((wr (s1.Data + s1.Parity)) > (14 : Int)))) || ((s1.Labels.length : Int) != (wr (s1.Data + s1.Parity))))))) (p_faR fs45_1 (by decide) rfl (hg := fun e => rfl)) (gcF1 rfl) rfl ?_
  refine TL.p (C := cx) (gc := (!(((((((((decide (s1.Number < (1 : Int))) || (decide (s1.Number > (1073741824 : Int)))) || (decide (s1.Data < (1 : Int)))) || (decide (s1.Parity < (1 : Int)))) || (decide (s1.Data > (14 : Int)))) || (decide (s1.Parity > (14 : Int)))) || (decide ((wr (s1.Data + s1.Parity)) > (14 : Int)))) || ((s1.Labels.length : Int) != (wr (s1.Data + s1.Parity))))))) (p_ldR (v := Enc.v (s1.Index : Int)) ty3 rfl rfl rfl rfl rfl rfl (hg := fun e => e)) (gcF1 rfl) rfl ?_
  refine TL.p (C := cx) (gc := (!(((((((((decide (s1.Number < (1 : Int))) || (decide (s1.Number > (1073741824 : Int)))) || (decide (s1.Data < (1 : Int)))) || (decide (s1.Parity < (1 : Int)))) || (decide (s1.Data > (14 : Int)))) || (decide (s1.Parity > (14 : Int)))) || (decide ((wr (s1.Data + s1.Parity)) > (14 : Int)))) || ((s1.Labels.length : Int) != (wr (s1.Data + s1.Parity))))))) (p_lss rfl rfl (hg := fun e => ⟨e, rfl⟩)) (gcF1 rfl) rfl ?_
  refine TL.p (C := cx) (gc := true) (p_or rfl rfl (fun e => ⟨rfl, fun h => (not_t h)⟩)) rfl rfl ?_
  refine TL.p (C := cx) (gc := true) (p_mv rfl) rfl rfl ?_
  refine TL.p (C := cx) (gc := (!((((((((((decide (s1.Number < (1 : Int))) || (decide (s1.Number > (1073741824 : Int)))) || (decide (s1.Data < (1 : Int)))) || (decide (s1.Parity < (1 : Int)))) || (decide (s1.Data > (14 : Int)))) || (decide (s1.Parity > (14 : Int)))) || (decide ((wr (s1.Data + s1.Parity)) > (14 : Int)))) || ((s1.Labels.length : Int) != (wr (s1.Data + s1.Parity)))) || (decide (s1.Index < (0 : Int))))))) (p_faR fs45_1 (by decide) rfl (hg := fun e => rfl)) (gcF1 rfl) rfl ?_
  refine TL.p (C := cx) (gc := (!((((((((((decide (s1.Number < (1 : Int))) || (decide (s1.Number > (1073741824 : Int)))) || (decide (s1.Data < (1 : Int)))) || (decide (s1.Parity < (1 : Int)))) || (decide (s1.Data > (14 : Int)))) || (decide (s1.Parity > (14 : Int)))) || (decide ((wr (s1.Data + s1.Parity)) > (14 : Int)))) || ((s1.Labels.length : Int) != (wr (s1.Data + s1.Parity)))) || (decide (s1.Index < (0 : Int))))))) (p_ldR (v := Enc.v (s1.Index : Int)) ty3 rfl rfl rfl rfl rfl rfl (hg := fun e => e)) (gcF1 rfl) rfl ?_
  refine TL.p (C := cx) (gc := (!((((((((((decide (s1.Number < (1 : Int))) || (decide (s1.Number > (1073741824 : Int)))) || (decide (s1.Data < (1 : Int)))) || (decide (s1.Parity < (1 : Int)))) || (decide (s1.Data > (14 : Int)))) || (decide (s1.Parity > (14 : Int)))) || (decide ((wr (s1.Data + s1.Parity)) > (14 : Int)))) || ((s1.Labels.length : Int) != (wr (s1.Data + s1.Parity)))) || (decide (s1.Index < (0 : Int))))))) (p_faR fs45_4 (by decide) rfl (hg := fun e => rfl)) (gcF1 rfl) rfl ?_
  refine TL.p (C := cx) (gc := (!((((((((((decide (s1.Number < (1 : Int))) || (decide (s1.Number > (1073741824 : Int)))) || (decide (s1.Data < (1 : Int)))) || (decide (s1.Parity < (1 : Int)))) || (decide (s1.Data > (14 : Int)))) || (decide (s1.Parity > (14 : Int)))) || (decide ((wr (s1.Data + s1.Parity)) > (14 : Int)))) || ((s1.Labels.length : Int) != (wr (s1.Data + s1.Parity)))) || (decide (s1.Index < (0 : Int))))))) (p_ldR (v := Enc.v (s1.Labels : (List Int))) ty43 rfl rfl rfl rfl rfl rfl (hg := fun e => e)) (gcF1 rfl) rfl ?_
  refine TL.p (C := cx) (gc := (!((((((((((decide (s1.Number < (1 : Int))) || (decide (s1.Number > (1073741824 : Int)))) || (decide (s1.Data < (1 : Int)))) || (decide (s1.Parity < (1 : Int)))) || (decide (s1.Data > (14 : Int)))) || (decide (s1.Parity > (14 : Int)))) || (decide ((wr (s1.Data + s1.Parity)) > (14 : Int)))) || ((s1.Labels.length : Int) != (wr (s1.Data + s1.Parity)))) || (decide (s1.Index < (0 : Int))))))) (p_lenL (xs := s1.Labels) kd43 rfl (hg := fun e => e)) (gcF1 rfl) rfl ?_
  refine TL.p (C := cx) (gc := (!((((((((((decide (s1.Number < (1 : Int))) || (decide (s1.Number > (1073741824 : Int)))) || (decide (s1.Data < (1 : Int)))) || (decide (s1.Parity < (1 : Int)))) || (decide (s1.Data > (14 : Int)))) || (decide (s1.Parity > (14 : Int)))) || (decide ((wr (s1.Data + s1.Parity)) > (14 : Int)))) || ((s1.Labels.length : Int) != (wr (s1.Data + s1.Parity)))) || (decide (s1.Index < (0 : Int))))))) (p_geq rfl rfl (hg := fun e => ⟨e, e⟩)) (gcF1 rfl) rfl ?_
  refine TL.p (C := cx) (gc := true) (p_or rfl rfl (fun e => ⟨rfl, fun h => (not_t h)⟩)) rfl rfl ?_
  refine TL.nil ?_
  refine hK4 _ _ ?_
  refine TK.cond (b := ((((((((((decide (s1.Number < (1 : Int))) || (decide (s1.Number > (1073741824 : Int)))) || (decide (s1.Data < (1 : Int)))) || (decide (s1.Parity < (1 : Int)))) || (decide (s1.Data > (14 : Int)))) || (decide (s1.Parity > (14 : Int)))) || (decide ((wr (s1.Data + s1.Parity)) > (14 : Int)))) || ((s1.Labels.length : Int) != (wr (s1.Data + s1.Parity)))) || (decide (s1.Index < (0 : Int)))) || (decide (s1.Index ≥ (s1.Labels.length : Int))))) rfl (fun hc => ?_) (fun hc => ?_)
  · have hX := ite_t hc hX
    refine TK.seq_k fun K5 hK5 => ?_
    refine TK.reg ?_
    refine TL.p (C := cx) (gc := true) (p_mv rfl) rfl rfl ?_
    refine TL.nil ?_
    refine hK5 _ _ ?_
    refine TK.ret ?_
    try dsimp only [thenQ]
    exact ret1 (v := Enc.v (false : Bool)) rfl (by obtain rfl := some_in hX; rfl) (v_val _)
  · have hX := ite_f hc hX
    refine TK.skip ?_
    refine hK3 _ _ ?_
    refine TK.seq_k fun K6 hK6 => ?_
    refine TK.seq_k fun K7 hK7 => ?_
    refine TK.reg ?_
    refine TL.p (C := cx) (gc := true) (p_mv rfl) rfl rfl ?_
    refine TL.nil ?_
    refine hK7 _ _ ?_
    refine TK.block ?_
    obtain ⟨o8, hO8, hA8⟩ := bind_some hX
    have E8 : ∀ (env : Env) (h : Hp), (∃ _u : Unit, keepE [] env = [] ∧ Nd [] ∧ HSub [] h) → X.cartridgeref10_RightSeal_e8 = some r → K6 env h := by
      intro  env h hE hX
      obtain ⟨_u, henv, nd, hs⟩ := hE
      unfold X.cartridgeref10_RightSeal_e8 at hX
      refine hK6 _ _ (TK.keep [] ?_)
      rw [henv]
      refine TK.subH hs ?_
      refine TK.seq_k fun K10 hK10 => ?_
      refine TK.reg ?_
      refine TL.p (C := cx) (gc := true) (p_mv rfl) rfl rfl ?_
      refine TL.nil ?_
      refine hK10 _ _ ?_
      refine TK.ret ?_
      try dsimp only [thenQ]
      exact ret1 (v := Enc.v (true : Bool)) rfl (by obtain rfl := some_in hX; rfl) (v_val _)
    refine TK.iter [1, 3] (fun s env h => match s with | i9 => ∃ _u : Unit, env = [(1, true, .vref (ofL [Enc.v (s1.Number : Int), Enc.v (s1.Index : Int), Enc.v (s1.Data : Int), Enc.v (s1.Parity : Int), Enc.v (s1.Labels : (List Int))]) 5 0), (3, true, Enc.v (i9 : Int))] ∧ Nd [] ∧ HSub [] h) hO8 ⟨(), rfl, Nd_nil, HSub.refl _⟩ ?_
    rintro i9 env h x8x ⟨_u, rfl, nd, hs⟩ hX hR8
    refine TK.subH hs ?_
    unfold X.cartridgeref10_RightSeal_s8 at hX
    try dsimp only at hX
    refine TK.seq_k fun K11 hK11 => ?_
    refine TK.seq_k fun K12 hK12 => ?_
    refine TK.reg ?_
    refine TL.p (C := cx) (gc := true) (p_mv rfl) rfl rfl ?_
    refine TL.p (C := cx) (gc := true) (p_faR fs45_4 (by decide) rfl) rfl rfl ?_
    refine TL.p (C := cx) (gc := true) (p_ldR (v := Enc.v (s1.Labels : (List Int))) ty43 rfl rfl rfl rfl rfl rfl) rfl rfl ?_
    refine TL.p (C := cx) (gc := true) (p_lenL (xs := s1.Labels) kd43 rfl) rfl rfl ?_
    refine TL.p (C := cx) (gc := true) (p_lss rfl rfl) rfl rfl ?_
    refine TL.nil ?_
    refine hK12 _ _ ?_
    refine TK.cond (b := (decide (i9 < (s1.Labels.length : Int)))) rfl (fun hc => ?_) (fun hc => ?_)
    · have hX := ite_t hc hX
      refine TK.skip ?_
      refine hK11 _ _ ?_
      refine TK.seq_k fun K13 hK13 => ?_
      refine TK.block ?_
      refine TK.seq_k fun K14 hK14 => ?_
      refine TK.seq_k fun K15 hK15 => ?_
      refine TK.reg ?_
      refine TL.p (C := cx) (gc := true) (p_faR fs45_4 (by decide) rfl) rfl rfl ?_
      refine TL.p (C := cx) (gc := true) (p_ldR (v := Enc.v (s1.Labels : (List Int))) ty43 rfl rfl rfl rfl rfl rfl) rfl rfl ?_
      refine TL.p (C := cx) (gc := true) (p_mv rfl) rfl rfl ?_
      obtain ⟨e16, he16, hX⟩ := bind_some hX
      refine TL.p (C := cx) (gc := true) (p_iaL (xs := s1.Labels) kd43 ty3 rfl rfl rfl (fun _ => he16)) rfl rfl ?_
      refine TL.p (C := cx) (gc := true) (p_ldE (xs := s1.Labels) (a := e16) (e16 : Int) ty3 rfl rfl (fun _ => he16) rfl rfl rfl) rfl rfl ?_
      refine TL.p (C := cx) (gc := true) (p_lss rfl rfl) rfl rfl ?_
      refine TL.p (C := cx) (gc := true) (p_mv rfl) rfl rfl ?_
      refine TL.p (C := cx) (gc := (!((decide (e16 < (1 : Int)))))) (p_faR fs45_4 (by decide) rfl (hg := fun e => rfl)) (gcF1 rfl) rfl ?_
      refine TL.p (C := cx) (gc := (!((decide (e16 < (1 : Int)))))) (p_ldR (v := Enc.v (s1.Labels : (List Int))) ty43 rfl rfl rfl rfl rfl rfl (hg := fun e => e)) (gcF1 rfl) rfl ?_
      refine TL.p (C := cx) (gc := (!((decide (e16 < (1 : Int)))))) (p_mv rfl (hg := fun e => rfl)) (gcF1 rfl) rfl ?_
      obtain ⟨e17, he17, hX⟩ := bind_some hX
      refine TL.p (C := cx) (gc := (!((decide (e16 < (1 : Int)))))) (p_iaL (xs := s1.Labels) kd43 ty3 rfl rfl rfl (fun e => optG_t he17 e) (hg := fun e => ⟨e, e⟩)) (gcF1 rfl) rfl ?_
      refine TL.p (C := cx) (gc := (!((decide (e16 < (1 : Int)))))) (p_ldE (xs := s1.Labels) (a := e17) (e17 : Int) ty3 rfl rfl (fun e => optG_t he17 e) rfl rfl rfl (hg := fun e => e)) (gcF1 rfl) rfl ?_
      refine TL.p (C := cx) (gc := (!((decide (e16 < (1 : Int)))))) (p_gtr rfl rfl (hg := fun e => ⟨e, rfl⟩)) (gcF1 rfl) rfl ?_
      refine TL.p (C := cx) (gc := true) (p_or rfl rfl (fun e => ⟨rfl, fun h => (not_t h)⟩)) rfl rfl ?_
      refine TL.nil ?_
      refine hK15 _ _ ?_
      refine TK.cond (b := ((decide (e16 < (1 : Int))) || (decide (e17 > (2147483647 : Int))))) rfl (fun hc => ?_) (fun hc => ?_)
      · have hX := ite_t hc hX
        refine TK.seq_k fun K18 hK18 => ?_
        refine TK.reg ?_
        refine TL.p (C := cx) (gc := true) (p_mv rfl) rfl rfl ?_
        refine TL.nil ?_
        refine hK18 _ _ ?_
        refine TK.ret ?_
        obtain rfl := hR8 _ (some_in hX).symm
        replace hX := hA8
        try dsimp only [thenQ]
        exact ret1 (v := Enc.v (false : Bool)) rfl (by obtain rfl := some_in hX; rfl) (v_val _)
      · have hX := ite_f hc hX
        refine TK.skip ?_
        refine hK14 _ _ ?_
        refine TK.seq_k fun K19 hK19 => ?_
        refine TK.reg ?_
        refine TL.p (C := cx) (gc := true) (p_mv rfl) rfl rfl ?_
        refine TL.nil ?_
        refine hK19 _ _ ?_
        refine TK.block ?_
        obtain ⟨o20, hO20, hA20⟩ := bind_some hX
        have E20 : ∀ (env : Env) (h : Hp), (∃ _u : Unit, keepE [1, 3] env = [(1, true, .vref (ofL [Enc.v (s1.Number : Int), Enc.v (s1.Index : Int), Enc.v (s1.Data : Int), Enc.v (s1.Parity : Int), Enc.v (s1.Labels : (List Int))]) 5 0), (3, true, Enc.v (i9 : Int))] ∧ Nd [] ∧ HSub [] h) → X.cartridgeref10_RightSeal_e20 i9 = some x8x → K13 env h := by
          intro  env h hE hX
          obtain ⟨_u, henv, nd, hs⟩ := hE
          unfold X.cartridgeref10_RightSeal_e20 at hX
          refine hK13 _ _ (TK.keep [1, 3] ?_)
          rw [henv]
          refine TK.subH hs ?_
          refine TK.reg ?_
          refine TL.p (C := cx) (gc := true) (p_mv rfl) rfl rfl ?_
          refine TL.p (C := cx) (gc := true) (p_add rfl rfl) rfl rfl ?_
          refine TL.p (C := cx) (gc := true) (p_mv rfl) rfl rfl ?_
          refine TL.nil ?_
          exact ⟨_, (some_in hX).symm, (), rfl, Nd_nil, HSub.refl _⟩
        refine TK.iter [1, 3, 4] (fun s env h => match s with | k21 => ∃ _u : Unit, env = [(1, true, .vref (ofL [Enc.v (s1.Number : Int), Enc.v (s1.Index : Int), Enc.v (s1.Data : Int), Enc.v (s1.Parity : Int), Enc.v (s1.Labels : (List Int))]) 5 0), (3, true, Enc.v (i9 : Int)), (4, true, Enc.v (k21 : Int))] ∧ Nd [] ∧ HSub [] h) hO20 ⟨(), rfl, Nd_nil, HSub.refl _⟩ ?_
        rintro k21 env h x20x ⟨_u, rfl, nd, hs⟩ hX hR20
        refine TK.subH hs ?_
        unfold X.cartridgeref10_RightSeal_s20 at hX
        try dsimp only at hX
        refine TK.seq_k fun K22 hK22 => ?_
        refine TK.seq_k fun K23 hK23 => ?_
        refine TK.reg ?_
        refine TL.p (C := cx) (gc := true) (p_mv rfl) rfl rfl ?_
        refine TL.p (C := cx) (gc := true) (p_mv rfl) rfl rfl ?_
        refine TL.p (C := cx) (gc := true) (p_lss rfl rfl) rfl rfl ?_
        refine TL.nil ?_
        refine hK23 _ _ ?_
        refine TK.cond (b := (decide (k21 < i9))) rfl (fun hc => ?_) (fun hc => ?_)
        · have hX := ite_t hc hX
          refine TK.skip ?_
          refine hK22 _ _ ?_
          refine TK.seq_k fun K24 hK24 => ?_
          refine TK.block ?_
          refine TK.seq_k fun K25 hK25 => ?_
          have ndS : Nd [] := Nd.pick nd (is := []) (by decide)
          refine TK.drwX (h := []) (hS := []) [(0, 0), (0, 1), (0, 2), (0, 3), (0, 4), (0, 5), (0, 6), (0, 7), (0, 8), (0, 9), (0, 10)] mixed (by kernel_rfl) (HSub_app nd) ?_
          refine DR0 (gc := true) rfl (vok_p (C := cx) (p_faR fs45_4 (by decide) rfl)) rfl rfl ?_
          refine DR0 (gc := true) rfl (vok_p (C := cx) (p_ldR (v := Enc.v (s1.Labels : (List Int))) ty43 rfl rfl rfl rfl rfl rfl)) rfl rfl ?_
          refine DR0 (gc := true) rfl (vok_p (C := cx) (p_mv rfl)) rfl rfl ?_
          obtain ⟨e26, he26, hX⟩ := bind_some hX
          refine DR0 (gc := true) rfl (vok_p (C := cx) (p_iaL (xs := s1.Labels) kd43 ty3 rfl rfl rfl (fun _ => he26))) rfl rfl ?_
          refine DR0 (gc := true) rfl (vok_p (C := cx) (p_ldE (xs := s1.Labels) (a := e26) (e26 : Int) ty3 rfl rfl (fun _ => he26) rfl rfl rfl)) rfl rfl ?_
          refine DR0 (gc := true) rfl (vok_p (C := cx) (p_faR fs45_4 (by decide) rfl)) rfl rfl ?_
          refine DR0 (gc := true) rfl (vok_p (C := cx) (p_ldR (v := Enc.v (s1.Labels : (List Int))) ty43 rfl rfl rfl rfl rfl rfl)) rfl rfl ?_
          refine DR0 (gc := true) rfl (vok_p (C := cx) (p_mv rfl)) rfl rfl ?_
          obtain ⟨e27, he27, hX⟩ := bind_some hX
          refine DR0 (gc := true) rfl (vok_p (C := cx) (p_iaL (xs := s1.Labels) kd43 ty3 rfl rfl rfl (fun _ => he27))) rfl rfl ?_
          refine DR0 (gc := true) rfl (vok_p (C := cx) (p_ldE (xs := s1.Labels) (a := e27) (e27 : Int) ty3 rfl rfl (fun _ => he27) rfl rfl rfl)) rfl rfl ?_
          refine DR0 (gc := true) rfl (vok_p (C := cx) (p_eql rfl rfl)) rfl rfl ?_
          refine DRend ?_
          refine hK25 _ _ ?_
          refine TK.cond (b := (e26 == e27)) rfl (fun hc => ?_) (fun hc => ?_)
          · have hX := ite_t hc hX
            refine TK.seq_k fun K28 hK28 => ?_
            refine TK.reg ?_
            refine TL.p (C := cx) (gc := true) (p_mv rfl) rfl rfl ?_
            refine TL.nil ?_
            refine hK28 _ _ ?_
            refine TK.ret ?_
            obtain rfl := hR20 _ (some_in hX).symm
            replace hX := hA20
            obtain rfl := hR8 _ (some_in hX).symm
            replace hX := hA8
            try dsimp only [thenQ]
            exact ret1 (v := Enc.v (false : Bool)) rfl (by obtain rfl := some_in hX; rfl) (v_val _)
          · have hX := ite_f hc hX
            refine TK.skip ?_
            refine hK24 _ _ ?_
            refine TK.reg ?_
            refine TL.p (C := cx) (gc := true) (p_mv rfl) rfl rfl ?_
            refine TL.p (C := cx) (gc := true) (p_add rfl rfl) rfl rfl ?_
            refine TL.p (C := cx) (gc := true) (p_mv rfl) rfl rfl ?_
            refine TL.nil ?_
            exact ⟨_, (some_in hX).symm, (), rfl, Nd_nil, HSub.refl _⟩
        · have hX := ite_f hc hX
          refine TK.exit ?_
          obtain rfl := hR20 _ (some_in hX).symm
          exact E20 _ _ ⟨(), rfl, Nd_nil, HSub.refl _⟩ hA20
    · have hX := ite_f hc hX
      refine TK.exit ?_
      obtain rfl := hR8 _ (some_in hX).symm
      exact E8 _ _ ⟨(), rfl, Nd_nil, HSub.refl _⟩ hA8

/-- slices.Index[[]int,int] -/
theorem ok_slices_Index_Lint_int (s1 : (List Int)) (v2 : Int) (r : Int) (hX : X.slices_Index_Lint_int s1 v2 = some r) : Fun Tryd.prog 66 [Enc.v (s1 : (List Int)), Enc.v (v2 : Int)] (· = Enc.v (r : Int)) := by
  refine Fun.of b66 (Nat.le_of_ble_eq_true rfl) (allVal.mem ⟨(by exact (v_val _)), (by exact (v_val _)), trivial⟩) ?_
  unfold k66
  have nd : Nd [] := Nd_nil
  unfold X.slices_Index_Lint_int at hX
  refine TK.seq_k fun K3 hK3 => ?_
  refine TK.reg ?_
  refine TL.p (C := cx) (gc := true) (p_mv rfl) rfl rfl ?_
  refine TL.nil ?_
  refine hK3 _ _ ?_
  refine TK.seq_k fun K4 hK4 => ?_
  refine TK.seq_k fun K5 hK5 => ?_
  refine TK.reg ?_
  refine TL.p (C := cx) (gc := true) (p_mv rfl) rfl rfl ?_
  refine TL.p (C := cx) (gc := true) (p_lenL (xs := s1) kd43 rfl) rfl rfl ?_
  refine TL.p (C := cx) (gc := true) (p_mv rfl) rfl rfl ?_
  refine TL.nil ?_
  refine hK5 _ _ ?_
  refine TK.block ?_
  obtain ⟨o6, hO6, hA6⟩ := bind_some hX
  have E6 : ∀ (env : Env) (h : Hp), (∃ _u : Unit, keepE [] env = [] ∧ Nd [] ∧ HSub [] h) → X.slices_Index_Lint_int_e6 = some r → K4 env h := by
    intro  env h hE hX
    obtain ⟨_u, henv, nd, hs⟩ := hE
    unfold X.slices_Index_Lint_int_e6 at hX
    refine hK4 _ _ (TK.keep [] ?_)
    rw [henv]
    refine TK.subH hs ?_
    refine TK.seq_k fun K8 hK8 => ?_
    refine TK.reg ?_
    refine TL.p (C := cx) (gc := true) (p_mv rfl) rfl rfl ?_
    refine TL.nil ?_
    refine hK8 _ _ ?_
    refine TK.ret ?_
    try dsimp only [thenQ]
    exact ret1 (v := Enc.v (((-1) : Int) : Int)) rfl (by obtain rfl := some_in hX; rfl) (v_val _)
  refine TK.iter [0, 1, 7, 8] (fun s env h => match s with | x7 => ∃ _u : Unit, env = [(0, true, Enc.v (s1 : (List Int))), (1, true, Enc.v (v2 : Int)), (7, true, Enc.v ((s1.length : Int) : Int)), (8, true, Enc.v (x7 : Int))] ∧ Nd [] ∧ HSub [] h) hO6 ⟨(), rfl, Nd_nil, HSub.refl _⟩ ?_
  rintro x7 env h x6x ⟨_u, rfl, nd, hs⟩ hX hR6
  refine TK.subH hs ?_
  unfold X.slices_Index_Lint_int_s6 at hX
  try dsimp only at hX
  refine TK.seq_k fun K9 hK9 => ?_
  refine TK.reg ?_
  refine TL.p (C := cx) (gc := true) (p_lss rfl rfl) rfl rfl ?_
  refine TL.nil ?_
  refine hK9 _ _ ?_
  refine TK.seq_k fun K10 hK10 => ?_
  refine TK.cond (b := (decide (x7 < (s1.length : Int)))) rfl (fun hc => ?_) (fun hc => ?_)
  · have hX := ite_t hc hX
    refine TK.skip ?_
    refine hK10 _ _ ?_
    refine TK.seq_k fun K11 hK11 => ?_
    refine TK.block ?_
    refine TK.seq_k fun K12 hK12 => ?_
    refine TK.reg ?_
    refine TL.p (C := cx) (gc := true) (p_mv rfl) rfl rfl ?_
    refine TL.p (C := cx) (gc := true) (p_mv rfl) rfl rfl ?_
    refine TL.nil ?_
    refine hK12 _ _ ?_
    refine TK.seq_k fun K13 hK13 => ?_
    refine TK.reg ?_
    refine TL.p (C := cx) (gc := true) (p_mv rfl) rfl rfl ?_
    refine TL.p (C := cx) (gc := true) (p_mv rfl) rfl rfl ?_
    refine TL.p (C := cx) (gc := true) (p_mv rfl) rfl rfl ?_
    obtain ⟨e14, he14, hX⟩ := bind_some hX
    refine TL.p (C := cx) (gc := true) (p_iaL (xs := s1) kd43 ty3 rfl rfl rfl (fun _ => he14)) rfl rfl ?_
    refine TL.p (C := cx) (gc := true) (p_ldE (xs := s1) (a := e14) (e14 : Int) ty3 rfl rfl (fun _ => he14) rfl rfl rfl) rfl rfl ?_
    refine TL.p (C := cx) (gc := true) (p_eql rfl rfl) rfl rfl ?_
    refine TL.nil ?_
    refine hK13 _ _ ?_
    refine TK.cond (b := (v2 == e14)) rfl (fun hc => ?_) (fun hc => ?_)
    · have hX := ite_t hc hX
      refine TK.seq_k fun K15 hK15 => ?_
      refine TK.reg ?_
      refine TL.p (C := cx) (gc := true) (p_mv rfl) rfl rfl ?_
      refine TL.p (C := cx) (gc := true) (p_mv rfl) rfl rfl ?_
      refine TL.nil ?_
      refine hK15 _ _ ?_
      refine TK.ret ?_
      obtain rfl := hR6 _ (some_in hX).symm
      replace hX := hA6
      try dsimp only [thenQ]
      exact ret1 (v := Enc.v (x7 : Int)) rfl (by obtain rfl := some_in hX; rfl) (v_val _)
    · have hX := ite_f hc hX
      refine TK.skip ?_
      refine hK11 _ _ ?_
      refine TK.reg ?_
      refine TL.p (C := cx) (gc := true) (p_add rfl rfl) rfl rfl ?_
      refine TL.p (C := cx) (gc := true) (p_mv rfl) rfl rfl ?_
      refine TL.nil ?_
      exact ⟨_, (some_in hX).symm, (), rfl, Nd_nil, HSub.refl _⟩
  · have hX := ite_f hc hX
    refine TK.exit ?_
    obtain rfl := hR6 _ (some_in hX).symm
    exact E6 _ _ ⟨(), rfl, Nd_nil, HSub.refl _⟩ hA6

/-- slices.Contains[[]int,int] -/
theorem ok_slices_Contains_Lint_int (s1 : (List Int)) (v2 : Int) (r : Bool) (hX : X.slices_Contains_Lint_int s1 v2 = some r) : Fun Tryd.prog 57 [Enc.v (s1 : (List Int)), Enc.v (v2 : Int)] (· = Enc.v (r : Bool)) := by
  refine Fun.of b57 (Nat.le_of_ble_eq_true rfl) (allVal.mem ⟨(by exact (v_val _)), (by exact (v_val _)), trivial⟩) ?_
  unfold k57
  have nd : Nd [] := Nd_nil
  unfold X.slices_Contains_Lint_int at hX
  refine TK.seq_k fun K3 hK3 => ?_
  refine TK.reg ?_
  refine TL.p (C := cx) (gc := true) (p_mv rfl) rfl rfl ?_
  refine TL.nil ?_
  refine hK3 _ _ ?_
  refine TK.seq_k fun K4 hK4 => ?_
  refine TK.reg ?_
  refine TL.p (C := cx) (gc := true) (p_mv rfl) rfl rfl ?_
  refine TL.p (C := cx) (gc := true) (p_mv rfl) rfl rfl ?_
  obtain ⟨r5, hr5, hX⟩ := bind_some hX
  refine TL.cvX rfl rfl rfl (fun _ => ⟨rfl, ⟨rfl, ⟨rfl, trivial⟩⟩⟩) (fun e => ok_slices_Index_Lint_int s1 v2 _ hr5) ?_
  refine TL.p (C := cx) (gc := true) (p_geq rfl rfl) rfl rfl ?_
  refine TL.p (C := cx) (gc := true) (p_mv rfl) rfl rfl ?_
  refine TL.nil ?_
  refine hK4 _ _ ?_
  refine TK.ret ?_
  try dsimp only [thenQ]
  exact ret1 (v := Enc.v ((decide (r5 ≥ (0 : Int))) : Bool)) rfl (by obtain rfl := some_in hX; rfl) (v_val _)

/-- cartridge/record.RightSeal -/
theorem ok_record_RightSeal (s1 : Seal_api) (r : Bool) (hX : X.record_RightSeal s1 = some r) : Fun Tryd.prog 30 [Enc.v (s1 : Seal_api)] (· = Enc.v (r : Bool)) := by
  refine Fun.of b30 (Nat.le_of_ble_eq_true rfl) (allVal.mem ⟨(by exact (v_val _)), trivial⟩) ?_
  unfold k30
  have nd : Nd [] := Nd_nil
  unfold X.record_RightSeal at hX
  refine TK.seq_k fun K2 hK2 => ?_
  refine TK.reg ?_
  refine TL.boxV (C := cx) (lu := [Enc.v (s1.Number : Int), Enc.v (s1.Index : Int), Enc.v (s1.Data : Int), Enc.v (s1.Parity : Int), Enc.v (s1.Labels : (List Int))]) nd rfl (Cells_v (s1 : Seal_api)) rfl ?_
  refine TL.p (C := cx) (gc := true) (p_mv rfl) rfl rfl ?_
  refine TL.nil ?_
  refine hK2 _ _ ?_
  refine TK.seq_k fun K3 hK3 => ?_
  refine TK.seq_k fun K4 hK4 => ?_
  refine TK.reg ?_
  refine TL.p (C := cx) (gc := true) (p_faR fs45_0 (by decide) rfl) rfl rfl ?_
  refine TL.p (C := cx) (gc := true) (p_ldR (v := Enc.v (s1.Number : Int)) ty3 rfl rfl rfl rfl rfl rfl) rfl rfl ?_
  obtain ⟨r5, hr5, hX⟩ := bind_some hX
  refine TL.cvX rfl rfl rfl (fun _ => ⟨rfl, ⟨rfl, ⟨rfl, ⟨rfl, trivial⟩⟩⟩⟩) (fun e => ok_record_within s1.Number (1 : Int) (1073741824 : Int) _ hr5) ?_
  refine TL.p (C := cx) (gc := true) (p_not rfl) rfl rfl ?_
  refine TL.p (C := cx) (gc := true) (p_mv rfl) rfl rfl ?_
  refine TL.p (C := cx) (gc := (!((!r5)))) (p_faR fs45_2 (by decide) rfl (hg := fun e => rfl)) (gcF1 rfl) rfl ?_
  refine TL.p (C := cx) (gc := (!((!r5)))) (p_ldR (v := Enc.v (s1.Data : Int)) ty3 rfl rfl rfl rfl rfl rfl (hg := fun e => e)) (gcF1 rfl) rfl ?_
  obtain ⟨r6, hr6, hX⟩ := bind_some hX
  refine TL.cvX (gcF1 rfl) rfl rfl (fun e => ⟨rfl, ⟨e, ⟨rfl, ⟨rfl, trivial⟩⟩⟩⟩) (fun e => ok_record_within s1.Data (1 : Int) (14 : Int) _ (optG_t hr6 e)) ?_
  refine TL.p (C := cx) (gc := (!((!r5)))) (p_not rfl (hg := fun e => e)) (gcF1 rfl) rfl ?_
  refine TL.p (C := cx) (gc := true) (p_or rfl rfl (fun e => ⟨rfl, fun h => (not_t h)⟩)) rfl rfl ?_
  refine TL.p (C := cx) (gc := true) (p_mv rfl) rfl rfl ?_
  refine TL.p (C := cx) (gc := (!(((!r5) || (!r6))))) (p_faR fs45_3 (by decide) rfl (hg := fun e => rfl)) (gcF1 rfl) rfl ?_
  refine TL.p (C := cx) (gc := (!(((!r5) || (!r6))))) (p_ldR (v := Enc.v (s1.Parity : Int)) ty3 rfl rfl rfl rfl rfl rfl (hg := fun e => e)) (gcF1 rfl) rfl ?_
  refine TL.p (C := cx) (gc := (!(((!r5) || (!r6))))) (p_faR fs45_2 (by decide) rfl (hg := fun e => rfl)) (gcF1 rfl) rfl ?_
  refine TL.p (C := cx) (gc := (!(((!r5) || (!r6))))) (p_ldR (v := Enc.v (s1.Data : Int)) ty3 rfl rfl rfl rfl rfl rfl (hg := fun e => e)) (gcF1 rfl) rfl ?_
  refine TL.p (C := cx) (gc := (!(((!r5) || (!r6))))) (p_sub rfl rfl (hg := fun e => ⟨rfl, e⟩)) (gcF1 rfl) rfl ?_
  obtain ⟨r7, hr7, hX⟩ := bind_some hX
  refine TL.cvX (gcF1 rfl) rfl rfl (fun e => ⟨rfl, ⟨e, ⟨rfl, ⟨e, trivial⟩⟩⟩⟩) (fun e => ok_record_within s1.Parity (1 : Int) (wr ((14 : Int) - s1.Data)) _ (optG_t hr7 e)) ?_
  refine TL.p (C := cx) (gc := (!(((!r5) || (!r6))))) (p_not rfl (hg := fun e => e)) (gcF1 rfl) rfl ?_
  refine TL.p (C := cx) (gc := true) (p_or rfl rfl (fun e => ⟨rfl, fun h => (not_t h)⟩)) rfl rfl ?_
  refine TL.nil ?_
  refine hK4 _ _ ?_
  refine TK.cond (b := (((!r5) || (!r6)) || (!r7))) rfl (fun hc => ?_) (fun hc => ?_)
  · have hX := ite_t hc hX
    refine TK.seq_k fun K8 hK8 => ?_
    refine TK.reg ?_
    refine TL.p (C := cx) (gc := true) (p_mv rfl) rfl rfl ?_
    refine TL.nil ?_
    refine hK8 _ _ ?_
    refine TK.ret ?_
    try dsimp only [thenQ]
    exact ret1 (v := Enc.v (false : Bool)) rfl (by obtain rfl := some_in hX; rfl) (v_val _)
  · have hX := ite_f hc hX
    refine TK.skip ?_
    refine hK3 _ _ ?_
    refine TK.seq_k fun K9 hK9 => ?_
    refine TK.reg ?_
    refine TL.p (C := cx) (gc := true) (p_faR fs45_2 (by decide) rfl) rfl rfl ?_
    refine TL.p (C := cx) (gc := true) (p_ldR (v := Enc.v (s1.Data : Int)) ty3 rfl rfl rfl rfl rfl rfl) rfl rfl ?_
    refine TL.p (C := cx) (gc := true) (p_faR fs45_3 (by decide) rfl) rfl rfl ?_
    refine TL.p (C := cx) (gc := true) (p_ldR (v := Enc.v (s1.Parity : Int)) ty3 rfl rfl rfl rfl rfl rfl) rfl rfl ?_
    refine TL.p (C := cx) (gc := true) (p_add rfl rfl) rfl rfl ?_
    refine TL.p (C := cx) (gc := true) (p_mv rfl) rfl rfl ?_
    refine TL.nil ?_
    refine hK9 _ _ ?_
    refine TK.seq_k fun K10 hK10 => ?_
    refine TK.seq_k fun K11 hK11 => ?_
    refine TK.reg ?_
    refine TL.p (C := cx) (gc := true) (p_faR fs45_1 (by decide) rfl) rfl rfl ?_
    refine TL.p (C := cx) (gc := true) (p_ldR (v := Enc.v (s1.Index : Int)) ty3 rfl rfl rfl rfl rfl rfl) rfl rfl ?_
    refine TL.p (C := cx) (gc := true) (p_mv rfl) rfl rfl ?_
    refine TL.p (C := cx) (gc := true) (p_sub rfl rfl) rfl rfl ?_
    obtain ⟨r12, hr12, hX⟩ := bind_some hX
    refine TL.cvX rfl rfl rfl (fun _ => ⟨rfl, ⟨rfl, ⟨rfl, ⟨rfl, trivial⟩⟩⟩⟩) (fun e => ok_record_within s1.Index (0 : Int) (wr ((wr (s1.Data + s1.Parity)) - (1 : Int))) _ hr12) ?_
    refine TL.p (C := cx) (gc := true) (p_not rfl) rfl rfl ?_
    refine TL.p (C := cx) (gc := true) (p_mv rfl) rfl rfl ?_
    refine TL.p (C := cx) (gc := (!((!r12)))) (p_faR fs45_4 (by decide) rfl (hg := fun e => rfl)) (gcF1 rfl) rfl ?_
    refine TL.p (C := cx) (gc := (!((!r12)))) (p_ldR (v := Enc.v (s1.Labels : (List Int))) ty43 rfl rfl rfl rfl rfl rfl (hg := fun e => e)) (gcF1 rfl) rfl ?_
    refine TL.p (C := cx) (gc := (!((!r12)))) (p_lenL (xs := s1.Labels) kd43 rfl (hg := fun e => e)) (gcF1 rfl) rfl ?_
    refine TL.p (C := cx) (gc := (!((!r12)))) (p_mv rfl (hg := fun e => rfl)) (gcF1 rfl) rfl ?_
    refine TL.p (C := cx) (gc := (!((!r12)))) (p_neq rfl rfl (hg := fun e => ⟨e, e⟩)) (gcF1 rfl) rfl ?_
    refine TL.p (C := cx) (gc := true) (p_or rfl rfl (fun e => ⟨rfl, fun h => (not_t h)⟩)) rfl rfl ?_
    refine TL.nil ?_
    refine hK11 _ _ ?_
    refine TK.cond (b := ((!r12) || ((s1.Labels.length : Int) != (wr (s1.Data + s1.Parity))))) rfl (fun hc => ?_) (fun hc => ?_)
    · have hX := ite_t hc hX
      refine TK.seq_k fun K13 hK13 => ?_
      refine TK.reg ?_
      refine TL.p (C := cx) (gc := true) (p_mv rfl) rfl rfl ?_
      refine TL.nil ?_
      refine hK13 _ _ ?_
      refine TK.ret ?_
      try dsimp only [thenQ]
      exact ret1 (v := Enc.v (false : Bool)) rfl (by obtain rfl := some_in hX; rfl) (v_val _)
    · have hX := ite_f hc hX
      refine TK.skip ?_
      refine hK10 _ _ ?_
      refine TK.seq_k fun K14 hK14 => ?_
      refine TK.seq_k fun K15 hK15 => ?_
      refine TK.reg ?_
      refine TL.p (C := cx) (gc := true) (p_faR fs45_4 (by decide) rfl) rfl rfl ?_
      refine TL.p (C := cx) (gc := true) (p_ldR (v := Enc.v (s1.Labels : (List Int))) ty43 rfl rfl rfl rfl rfl rfl) rfl rfl ?_
      refine TL.p (C := cx) (gc := true) (p_lenL (xs := s1.Labels) kd43 rfl) rfl rfl ?_
      refine TL.p (C := cx) (gc := true) (p_mv rfl) rfl rfl ?_
      refine TL.nil ?_
      refine hK15 _ _ ?_
      refine TK.block ?_
      obtain ⟨o16, hO16, hA16⟩ := bind_some hX
      have E16 : ∀ (env : Env) (h : Hp), (∃ _u : Unit, keepE [] env = [] ∧ Nd [] ∧ HSub [] h) → X.record_RightSeal_e16 = some r → K14 env h := by
        intro  env h hE hX
        obtain ⟨_u, henv, nd, hs⟩ := hE
        unfold X.record_RightSeal_e16 at hX
        refine hK14 _ _ (TK.keep [] ?_)
        rw [henv]
        refine TK.subH hs ?_
        refine TK.seq_k fun K18 hK18 => ?_
        refine TK.reg ?_
        refine TL.p (C := cx) (gc := true) (p_mv rfl) rfl rfl ?_
        refine TL.nil ?_
        refine hK18 _ _ ?_
        refine TK.ret ?_
        try dsimp only [thenQ]
        exact ret1 (v := Enc.v (true : Bool)) rfl (by obtain rfl := some_in hX; rfl) (v_val _)
      refine TK.iter [1, 44, 45, 46] (fun s env h => match s with | x17 => ∃ _u : Unit, env = [(1, true, .vref (ofL [Enc.v (s1.Number : Int), Enc.v (s1.Index : Int), Enc.v (s1.Data : Int), Enc.v (s1.Parity : Int), Enc.v (s1.Labels : (List Int))]) 5 0), (44, true, Enc.v (s1.Labels : (List Int))), (45, true, Enc.v ((s1.Labels.length : Int) : Int)), (46, true, Enc.v (x17 : Int))] ∧ Nd [] ∧ HSub [] h) hO16 ⟨(), rfl, Nd_nil, HSub.refl _⟩ ?_
      rintro x17 env h x16x ⟨_u, rfl, nd, hs⟩ hX hR16
      refine TK.subH hs ?_
      unfold X.record_RightSeal_s16 at hX
      try dsimp only at hX
      refine TK.seq_k fun K19 hK19 => ?_
      refine TK.reg ?_
      refine TL.p (C := cx) (gc := true) (p_lss rfl rfl) rfl rfl ?_
      refine TL.nil ?_
      refine hK19 _ _ ?_
      refine TK.seq_k fun K20 hK20 => ?_
      refine TK.cond (b := (decide (x17 < (s1.Labels.length : Int)))) rfl (fun hc => ?_) (fun hc => ?_)
      · have hX := ite_t hc hX
        refine TK.skip ?_
        refine hK20 _ _ ?_
        refine TK.seq_k fun K21 hK21 => ?_
        refine TK.block ?_
        refine TK.seq_k fun K22 hK22 => ?_
        refine TK.reg ?_
        refine TL.p (C := cx) (gc := true) (p_mv rfl) rfl rfl ?_
        obtain ⟨e23, he23, hX⟩ := bind_some hX
        refine TL.p (C := cx) (gc := true) (p_iaL (xs := s1.Labels) kd43 ty3 rfl rfl rfl (fun _ => he23)) rfl rfl ?_
        refine TL.p (C := cx) (gc := true) (p_ldE (xs := s1.Labels) (a := e23) (e23 : Int) ty3 rfl rfl (fun _ => he23) rfl rfl rfl) rfl rfl ?_
        refine TL.p (C := cx) (gc := true) (p_mv rfl) rfl rfl ?_
        refine TL.p (C := cx) (gc := true) (p_mv rfl) rfl rfl ?_
        refine TL.nil ?_
        refine hK22 _ _ ?_
        refine TK.seq_k fun K24 hK24 => ?_
        refine TK.reg ?_
        refine TL.p (C := cx) (gc := true) (p_mv rfl) rfl rfl ?_
        obtain ⟨r25, hr25, hX⟩ := bind_some hX
        refine TL.cvX rfl rfl rfl (fun _ => ⟨rfl, ⟨rfl, ⟨rfl, ⟨rfl, trivial⟩⟩⟩⟩) (fun e => ok_record_within e23 (1 : Int) (2147483647 : Int) _ hr25) ?_
        refine TL.p (C := cx) (gc := true) (p_not rfl) rfl rfl ?_
        refine TL.p (C := cx) (gc := true) (p_mv rfl) rfl rfl ?_
        refine TL.p (C := cx) (gc := (!((!r25)))) (p_faR fs45_4 (by decide) rfl (hg := fun e => rfl)) (gcF1 rfl) rfl ?_
        refine TL.p (C := cx) (gc := (!((!r25)))) (p_ldR (v := Enc.v (s1.Labels : (List Int))) ty43 rfl rfl rfl rfl rfl rfl (hg := fun e => e)) (gcF1 rfl) rfl ?_
        refine TL.p (C := cx) (gc := (!((!r25)))) (p_mv rfl (hg := fun e => rfl)) (gcF1 rfl) rfl ?_
        obtain ⟨u26, hu26, hX⟩ := bind_some hX
        refine TL.p (C := cx) (gc := (!((!r25)))) (p_sliL (xs := s1.Labels) (l := (0 : Int)) (k := x17) kd43 ty3 rfl rfl rfl rfl (fun e => need_t (optG_t hu26 e)) (hg := fun e => ⟨e, rfl, e⟩)) (gcF1 rfl) rfl ?_
        refine TL.p (C := cx) (gc := (!((!r25)))) (p_mv rfl (hg := fun e => rfl)) (gcF1 rfl) rfl ?_
        obtain ⟨r27, hr27, hX⟩ := bind_some hX
        refine TL.cvX (gcF1 rfl) rfl rfl (fun e => ⟨rfl, ⟨e, ⟨e, trivial⟩⟩⟩) (fun e => ok_slices_Contains_Lint_int (slc s1.Labels (0 : Int) x17) e23 _ (optG_t hr27 e)) ?_
        refine TL.p (C := cx) (gc := true) (p_or rfl rfl (fun e => ⟨rfl, fun h => (not_t h)⟩)) rfl rfl ?_
        refine TL.nil ?_
        refine hK24 _ _ ?_
        refine TK.cond (b := ((!r25) || r27)) rfl (fun hc => ?_) (fun hc => ?_)
        · have hX := ite_t hc hX
          refine TK.seq_k fun K28 hK28 => ?_
          refine TK.reg ?_
          refine TL.p (C := cx) (gc := true) (p_mv rfl) rfl rfl ?_
          refine TL.nil ?_
          refine hK28 _ _ ?_
          refine TK.ret ?_
          obtain rfl := hR16 _ (some_in hX).symm
          replace hX := hA16
          try dsimp only [thenQ]
          exact ret1 (v := Enc.v (false : Bool)) rfl (by obtain rfl := some_in hX; rfl) (v_val _)
        · have hX := ite_f hc hX
          refine TK.skip ?_
          refine hK21 _ _ ?_
          refine TK.reg ?_
          refine TL.p (C := cx) (gc := true) (p_add rfl rfl) rfl rfl ?_
          refine TL.p (C := cx) (gc := true) (p_mv rfl) rfl rfl ?_
          refine TL.nil ?_
          exact ⟨_, (some_in hX).symm, (), rfl, Nd_nil, HSub.refl _⟩
      · have hX := ite_f hc hX
        refine TK.exit ?_
        obtain rfl := hR16 _ (some_in hX).symm
        exact E16 _ _ ⟨(), rfl, Nd_nil, HSub.refl _⟩ hA16

/-- cartridge/record.SealBytes -/
theorem ok_record_SealBytes (s1 : Seal_api) (r : (List UInt8)) (hX : X.record_SealBytes s1 = some r) : Fun Tryd.prog 27 [Enc.v (s1 : Seal_api)] (· = Enc.v (r : (List UInt8))) := by
  refine Fun.of b27 (Nat.le_of_ble_eq_true rfl) (allVal.mem ⟨(by exact (v_val _)), trivial⟩) ?_
  unfold k27
  have nd : Nd [] := Nd_nil
  unfold X.record_SealBytes at hX
  refine TK.seq_k fun K2 hK2 => ?_
  refine TK.reg ?_
  refine TL.boxV (C := cx) (lu := [Enc.v (s1.Number : Int), Enc.v (s1.Index : Int), Enc.v (s1.Data : Int), Enc.v (s1.Parity : Int), Enc.v (s1.Labels : (List Int))]) nd rfl (Cells_v (s1 : Seal_api)) rfl ?_
  refine TL.p (C := cx) (gc := true) (p_mv rfl) rfl rfl ?_
  refine TL.nil ?_
  refine hK2 _ _ ?_
  refine TK.seq_k fun K3 hK3 => ?_
  refine TK.seq_k fun K4 hK4 => ?_
  refine TK.reg ?_
  refine TL.p (C := cx) (gc := true) (p_ldRa (l' := Enc.cl (s1 : Seal_api)) ty45 rfl rfl rfl rfl rfl (Nat.le_of_ble_eq_true rfl)) rfl rfl ?_
  obtain ⟨r5, hr5, hX⟩ := bind_some hX
  refine TL.cvX rfl rfl rfl (fun _ => ⟨rfl, ⟨rfl, trivial⟩⟩) (fun e => ok_record_RightSeal s1 _ hr5) ?_
  refine TL.p (C := cx) (gc := true) (p_not rfl) rfl rfl ?_
  refine TL.nil ?_
  refine hK4 _ _ ?_
  refine TK.cond (b := (!r5)) rfl (fun hc => ?_) (fun hc => ?_)
  · have hX := ite_t hc hX
    refine TK.seq_k fun K6 hK6 => ?_
    refine TK.reg ?_
    refine TL.p (C := cx) (gc := true) (p_mv rfl) rfl rfl ?_
    refine TL.nil ?_
    refine hK6 _ _ ?_
    refine TK.wk 2 (L ([] : (List UInt8))) rfl Wk_nil ?_
    refine TK.ret ?_
    try dsimp only [thenQ]
    exact ret1 (v := Enc.v (([] : (List UInt8)) : (List UInt8))) rfl (by obtain rfl := some_in hX; rfl) (v_val _)
  · have hX := ite_f hc hX
    refine TK.skip ?_
    refine hK3 _ _ ?_
    refine TK.seq_k fun K7 hK7 => ?_
    refine TK.reg ?_
    refine TL.p (C := cx) (gc := true) (p_bld (l := [.nils]) ty59 rfl all59 rfl (fun _ => trivial)) rfl rfl ?_
    refine TL.boxO (C := cx) (lu := [.nils]) nd rfl (Cells_agg rfl (allA.mem ⟨trivial, trivial⟩)) rfl fun b8 nd => ?_
    refine TL.p (C := cx) (gc := true) (p_mv rfl) rfl rfl ?_
    refine TL.nil ?_
    refine hK7 _ _ ?_
    refine TK.ownC (α := UInt8) nd (j := 0) rfl 0 5 (.inl rfl) fun b9 nd => ?_
    refine TK.seq_k fun K10 hK10 => ?_
    refine TK.reg ?_
    refine TL.p (C := cx) (gc := true) (p_mv rfl) rfl rfl ?_
    refine TL.p (C := cx) (gc := true) (p_faR fs45_0 (by decide) rfl) rfl rfl ?_
    refine TL.p (C := cx) (gc := true) (p_ldR (v := Enc.v (s1.Number : Int)) ty3 rfl rfl rfl rfl rfl rfl) rfl rfl ?_
    obtain ⟨r11, hr11, hX⟩ := bind_some hX
    refine TL.pick [1, 0] nd (by decide) fun nd => ?_
    refine TL.tcX [(b8, RV 59 [OL (α := UInt8) b9 ([] : List UInt8)]), (b9, RL (α := UInt8) 5 ([] : List UInt8))] [] rfl nd (dlt rfl) rfl ⟨rfl, ⟨rfl, ⟨rfl, trivial⟩⟩⟩ (ok_code_Writer_Int s1.Number ([] : List UInt8) b8 b9 (Nd.take nd 2 rfl) _ hr11) ?_
    rintro _ _ hQ nd
    obtain ⟨b13, rfl, rfl⟩ := hQ
    refine TL.nil ?_
    refine hK10 _ _ ?_
    refine TK.seq_k fun K14 hK14 => ?_
    refine TK.seq_k fun K15 hK15 => ?_
    refine TK.reg ?_
    refine TL.p (C := cx) (gc := true) (p_faR fs45_1 (by decide) rfl) rfl rfl ?_
    refine TL.p (C := cx) (gc := true) (p_ldR (v := Enc.v (s1.Index : Int)) ty3 rfl rfl rfl rfl rfl rfl) rfl rfl ?_
    refine TL.p (C := cx) (gc := true) (p_faR fs45_2 (by decide) rfl) rfl rfl ?_
    refine TL.p (C := cx) (gc := true) (p_ldR (v := Enc.v (s1.Data : Int)) ty3 rfl rfl rfl rfl rfl rfl) rfl rfl ?_
    refine TL.p (C := cx) (gc := true) (p_faR fs45_3 (by decide) rfl) rfl rfl ?_
    refine TL.p (C := cx) (gc := true) (p_ldR (v := Enc.v (s1.Parity : Int)) ty3 rfl rfl rfl rfl rfl rfl) rfl rfl ?_
    refine TL.lit (C := cx) ([s1.Index, s1.Data, s1.Parity] : List Int) kd43 ty3 rfl ⟨⟨rfl, rfl⟩, ⟨rfl, rfl⟩, ⟨rfl, rfl⟩, trivial⟩ rfl rfl rfl ?_
    refine TL.p (C := cx) (gc := true) (p_lenL (xs := ([s1.Index, s1.Data, s1.Parity] : List Int)) kd43 rfl) rfl rfl ?_
    refine TL.p (C := cx) (gc := true) (p_mv rfl) rfl rfl ?_
    refine TL.nil ?_
    refine hK15 _ _ ?_
    refine TK.block ?_
    obtain ⟨o16, hO16, hA16⟩ := bind_some hX
    have E16 : ∀ (l23 : List UInt8) (env : Env) (h : Hp), (∃ b22 b21, keepE [1, 3] env = [(1, true, .vref (ofL [Enc.v (s1.Number : Int), Enc.v (s1.Index : Int), Enc.v (s1.Data : Int), Enc.v (s1.Parity : Int), Enc.v (s1.Labels : (List Int))]) 5 0), (3, true, .ref b21 0 1)] ∧ Nd [(b22, RL (α := UInt8) 5 l23), (b21, RV 59 [OL (α := UInt8) b22 l23])] ∧ HSub [(b22, RL (α := UInt8) 5 l23), (b21, RV 59 [OL (α := UInt8) b22 l23])] h) → X.record_SealBytes_e16 s1 l23 = some r → K14 env h := by
      intro l23 env h hE hX
      obtain ⟨b22, b21, henv, nd, hs⟩ := hE
      unfold X.record_SealBytes_e16 at hX
      refine hK14 _ _ (TK.keep [1, 3] ?_)
      rw [henv]
      refine TK.subH hs ?_
      refine TK.seq_k fun K24 hK24 => ?_
      refine TK.seq_k fun K25 hK25 => ?_
      refine TK.reg ?_
      refine TL.p (C := cx) (gc := true) (p_faR fs45_4 (by decide) rfl) rfl rfl ?_
      refine TL.p (C := cx) (gc := true) (p_ldR (v := Enc.v (s1.Labels : (List Int))) ty43 rfl rfl rfl rfl rfl rfl) rfl rfl ?_
      refine TL.p (C := cx) (gc := true) (p_lenL (xs := s1.Labels) kd43 rfl) rfl rfl ?_
      refine TL.p (C := cx) (gc := true) (p_mv rfl) rfl rfl ?_
      refine TL.nil ?_
      refine hK25 _ _ ?_
      refine TK.block ?_
      obtain ⟨o26, hO26, hA26⟩ := bind_some hX
      have E26 : ∀ (l33 : List UInt8) (env : Env) (h : Hp), (∃ b32 b31, keepE [3] env = [(3, true, .ref b31 0 1)] ∧ Nd [(b32, RL (α := UInt8) 5 l33), (b31, RV 59 [OL (α := UInt8) b32 l33])] ∧ HSub [(b32, RL (α := UInt8) 5 l33), (b31, RV 59 [OL (α := UInt8) b32 l33])] h) → X.record_SealBytes_e26 l33 = some r → K24 env h := by
        intro l33 env h hE hX
        obtain ⟨b32, b31, henv, nd, hs⟩ := hE
        unfold X.record_SealBytes_e26 at hX
        refine hK24 _ _ (TK.keep [3] ?_)
        rw [henv]
        refine TK.subH hs ?_
        refine TK.seq_k fun K34 hK34 => ?_
        refine TK.reg ?_
        refine TL.p (C := cx) (gc := true) (p_mv rfl) rfl rfl ?_
        obtain ⟨r35, hr35, hX⟩ := bind_some hX
        refine TL.pick [1, 0] nd (by decide) fun nd => ?_
        refine TL.tcX [(b31, RV 59 [OL (α := UInt8) b32 l33]), (b32, RL (α := UInt8) 5 l33)] [] rfl nd (dlt rfl) rfl ⟨rfl, ⟨rfl, trivial⟩⟩ (ok_code_Writer_Bytes l33 b31 b32 (Nd.take nd 2 rfl) _ hr35) ?_
        rintro _ _ hQ nd
        obtain ⟨rfl, rfl⟩ := hQ
        refine TL.p (C := cx) (gc := true) (p_mv rfl) rfl rfl ?_
        refine TL.nil ?_
        refine hK34 _ _ ?_
        refine TK.ret ?_
        try dsimp only [thenQ]
        exact ret1 (v := Enc.v (r35 : (List UInt8))) rfl (by obtain rfl := some_in hX; rfl) (v_val _)
      refine TK.iter [3, 35, 36, 37] (fun s env h => match s with | (l29, x30) => ∃ b28 b27, env = [(3, true, .ref b27 0 1), (35, true, Enc.v (s1.Labels : (List Int))), (36, true, Enc.v ((s1.Labels.length : Int) : Int)), (37, true, Enc.v (x30 : Int))] ∧ Nd [(b28, RL (α := UInt8) 5 l29), (b27, RV 59 [OL (α := UInt8) b28 l29])] ∧ HSub [(b28, RL (α := UInt8) 5 l29), (b27, RV 59 [OL (α := UInt8) b28 l29])] h) hO26 ⟨b22, b21, rfl, (Nd.pick nd (is := [0, 1]) (by decide)), (HSub.pick nd (is := [0, 1]) (by decide))⟩ ?_
      rintro ⟨l29, x30⟩ env h x26x ⟨b28, b27, rfl, nd, hs⟩ hX hR26
      refine TK.subH hs ?_
      unfold X.record_SealBytes_s26 at hX
      try dsimp only at hX
      refine TK.seq_k fun K36 hK36 => ?_
      refine TK.reg ?_
      refine TL.p (C := cx) (gc := true) (p_lss rfl rfl) rfl rfl ?_
      refine TL.nil ?_
      refine hK36 _ _ ?_
      refine TK.seq_k fun K37 hK37 => ?_
      refine TK.cond (b := (decide (x30 < (s1.Labels.length : Int)))) rfl (fun hc => ?_) (fun hc => ?_)
      · have hX := ite_t hc hX
        refine TK.skip ?_
        refine hK37 _ _ ?_
        refine TK.seq_k fun K38 hK38 => ?_
        refine TK.block ?_
        refine TK.seq_k fun K39 hK39 => ?_
        refine TK.reg ?_
        obtain ⟨e40, he40, hX⟩ := bind_some hX
        refine TL.p (C := cx) (gc := true) (p_iaL (xs := s1.Labels) kd43 ty3 rfl rfl rfl (fun _ => he40)) rfl rfl ?_
        refine TL.p (C := cx) (gc := true) (p_ldE (xs := s1.Labels) (a := e40) (e40 : Int) ty3 rfl rfl (fun _ => he40) rfl rfl rfl) rfl rfl ?_
        refine TL.p (C := cx) (gc := true) (p_mv rfl) rfl rfl ?_
        refine TL.nil ?_
        refine hK39 _ _ ?_
        refine TK.reg ?_
        refine TL.p (C := cx) (gc := true) (p_mv rfl) rfl rfl ?_
        refine TL.p (C := cx) (gc := true) (p_mv rfl) rfl rfl ?_
        obtain ⟨r41, hr41, hX⟩ := bind_some hX
        refine TL.pick [1, 0] nd (by decide) fun nd => ?_
        refine TL.tcX [(b27, RV 59 [OL (α := UInt8) b28 l29]), (b28, RL (α := UInt8) 5 l29)] [] rfl nd (dlt rfl) rfl ⟨rfl, ⟨rfl, ⟨rfl, trivial⟩⟩⟩ (ok_code_Writer_Int e40 l29 b27 b28 (Nd.take nd 2 rfl) _ hr41) ?_
        rintro _ _ hQ nd
        obtain ⟨b43, rfl, rfl⟩ := hQ
        refine TL.nil ?_
        refine hK38 _ _ ?_
        refine TK.reg ?_
        refine TL.p (C := cx) (gc := true) (p_add rfl rfl) rfl rfl ?_
        refine TL.p (C := cx) (gc := true) (p_mv rfl) rfl rfl ?_
        refine TL.nil ?_
        exact ⟨_, (some_in hX).symm, b43, b27, rfl, (Nd.pick nd (is := [1, 0]) (by decide)), (HSub.pick nd (is := [1, 0]) (by decide))⟩
      · have hX := ite_f hc hX
        refine TK.exit ?_
        obtain rfl := hR26 _ (some_in hX).symm
        exact E26 l29 _ _ ⟨b28, b27, rfl, (Nd.pick nd (is := [0, 1]) (by decide)), (HSub.pick nd (is := [0, 1]) (by decide))⟩ hA26
    refine TK.iter [1, 3, 23, 24, 25] (fun s env h => match s with | (l19, x20) => ∃ b18 b17, env = [(1, true, .vref (ofL [Enc.v (s1.Number : Int), Enc.v (s1.Index : Int), Enc.v (s1.Data : Int), Enc.v (s1.Parity : Int), Enc.v (s1.Labels : (List Int))]) 5 0), (3, true, .ref b17 0 1), (23, true, Enc.v (([s1.Index, s1.Data, s1.Parity] : List Int) : (List Int))), (24, true, Enc.v ((([s1.Index, s1.Data, s1.Parity] : List Int).length : Int) : Int)), (25, true, Enc.v (x20 : Int))] ∧ Nd [(b18, RL (α := UInt8) 5 l19), (b17, RV 59 [OL (α := UInt8) b18 l19])] ∧ HSub [(b18, RL (α := UInt8) 5 l19), (b17, RV 59 [OL (α := UInt8) b18 l19])] h) hO16 ⟨b13, b8, rfl, (Nd.pick nd (is := [1, 0]) (by decide)), (HSub.pick nd (is := [1, 0]) (by decide))⟩ ?_
    rintro ⟨l19, x20⟩ env h x16x ⟨b18, b17, rfl, nd, hs⟩ hX hR16
    refine TK.subH hs ?_
    unfold X.record_SealBytes_s16 at hX
    try dsimp only at hX
    refine TK.seq_k fun K44 hK44 => ?_
    refine TK.reg ?_
    refine TL.p (C := cx) (gc := true) (p_lss rfl rfl) rfl rfl ?_
    refine TL.nil ?_
    refine hK44 _ _ ?_
    refine TK.seq_k fun K45 hK45 => ?_
    refine TK.cond (b := (decide (x20 < (([s1.Index, s1.Data, s1.Parity] : List Int).length : Int)))) rfl (fun hc => ?_) (fun hc => ?_)
    · have hX := ite_t hc hX
      refine TK.skip ?_
      refine hK45 _ _ ?_
      refine TK.seq_k fun K46 hK46 => ?_
      refine TK.block ?_
      refine TK.seq_k fun K47 hK47 => ?_
      refine TK.reg ?_
      obtain ⟨e48, he48, hX⟩ := bind_some hX
      refine TL.p (C := cx) (gc := true) (p_iaL (xs := ([s1.Index, s1.Data, s1.Parity] : List Int)) kd43 ty3 rfl rfl rfl (fun _ => he48)) rfl rfl ?_
      refine TL.p (C := cx) (gc := true) (p_ldE (xs := ([s1.Index, s1.Data, s1.Parity] : List Int)) (a := e48) (e48 : Int) ty3 rfl rfl (fun _ => he48) rfl rfl rfl) rfl rfl ?_
      refine TL.p (C := cx) (gc := true) (p_mv rfl) rfl rfl ?_
      refine TL.nil ?_
      refine hK47 _ _ ?_
      refine TK.reg ?_
      refine TL.p (C := cx) (gc := true) (p_mv rfl) rfl rfl ?_
      refine TL.p (C := cx) (gc := true) (p_mv rfl) rfl rfl ?_
      refine TL.p (C := cx) (gc := true) (p_cvt src3 kd5 rfl (cv_u8 _)) rfl rfl ?_
      obtain ⟨r49, hr49, hX⟩ := bind_some hX
      refine TL.pick [1, 0] nd (by decide) fun nd => ?_
      refine TL.tcX [(b17, RV 59 [OL (α := UInt8) b18 l19]), (b18, RL (α := UInt8) 5 l19)] [] rfl nd (dlt rfl) rfl ⟨rfl, ⟨rfl, ⟨rfl, trivial⟩⟩⟩ (ok_code_Writer_Byte (u8 e48) l19 b17 b18 (Nd.take nd 2 rfl) _ hr49) ?_
      rintro _ _ hQ nd
      obtain ⟨b51, rfl, rfl⟩ := hQ
      refine TL.nil ?_
      refine hK46 _ _ ?_
      refine TK.reg ?_
      refine TL.p (C := cx) (gc := true) (p_add rfl rfl) rfl rfl ?_
      refine TL.p (C := cx) (gc := true) (p_mv rfl) rfl rfl ?_
      refine TL.nil ?_
      exact ⟨_, (some_in hX).symm, b51, b17, rfl, (Nd.pick nd (is := [1, 0]) (by decide)), (HSub.pick nd (is := [1, 0]) (by decide))⟩
    · have hX := ite_f hc hX
      refine TK.exit ?_
      obtain rfl := hR16 _ (some_in hX).symm
      exact E16 l19 _ _ ⟨b18, b17, rfl, (Nd.pick nd (is := [0, 1]) (by decide)), (HSub.pick nd (is := [0, 1]) (by decide))⟩ hA16

/-- (*cartridge/code.Reader).Left -/
theorem ok_code_Reader_Left (b1 : (List UInt8)) (bad2 : Bool) (r : Int) (hX : X.code_Reader_Left b1 bad2 = some r) : Fun Tryd.prog 55 [.vref (ofL [Enc.v (b1 : (List UInt8)), Enc.v (bad2 : Bool)]) 2 0] (· = Enc.v (r : Int)) := by
  refine Fun.of b55 (Nat.le_of_ble_eq_true rfl) (allVal.mem ⟨(by exact (vref_val (l := [Enc.v (b1 : (List UInt8)), Enc.v (bad2 : Bool)]) rfl ⟨(v_val _), (v_val _), trivial⟩)), trivial⟩) ?_
  unfold k55
  have nd : Nd [] := Nd_nil
  unfold X.code_Reader_Left at hX
  refine TK.seq_k fun K3 hK3 => ?_
  refine TK.reg ?_
  refine TL.p (C := cx) (gc := true) (p_mv rfl) rfl rfl ?_
  refine TL.nil ?_
  refine hK3 _ _ ?_
  refine TK.seq_k fun K4 hK4 => ?_
  refine TK.seq_k fun K5 hK5 => ?_
  refine TK.reg ?_
  refine TL.p (C := cx) (gc := true) (p_mv rfl) rfl rfl ?_
  refine TL.p (C := cx) (gc := true) (p_eqV kd64 rfl rfl) rfl rfl ?_
  refine TL.nil ?_
  refine hK5 _ _ ?_
  refine TK.cond (b := false) rfl (fun hc => by simp at hc) (fun _ => ?_)
  refine TK.skip ?_
  refine hK4 _ _ ?_
  refine TK.seq_k fun K6 hK6 => ?_
  refine TK.reg ?_
  refine TL.p (C := cx) (gc := true) (p_mv rfl) rfl rfl ?_
  refine TL.p (C := cx) (gc := true) (p_ncV rfl) rfl rfl ?_
  refine TL.p (C := cx) (gc := true) (p_faR fs87_0 (by decide) rfl) rfl rfl ?_
  refine TL.p (C := cx) (gc := true) (p_ldR (v := Enc.v (b1 : (List UInt8))) ty32 rfl rfl rfl rfl rfl rfl) rfl rfl ?_
  refine TL.p (C := cx) (gc := true) (p_lenL (xs := b1) kd32 rfl) rfl rfl ?_
  refine TL.p (C := cx) (gc := true) (p_mv rfl) rfl rfl ?_
  refine TL.nil ?_
  refine hK6 _ _ ?_
  refine TK.ret ?_
  try dsimp only [thenQ]
  exact ret1 (v := Enc.v ((b1.length : Int) : Int)) rfl (by obtain rfl := some_in hX; rfl) (v_val _)

/-- cartridge/record.ReadSeal -/
theorem bc28 : BodyC cx 28 47 [.c 2 45, .t 3] k28 := ⟨Enters.of Tryd.func28 (by kernel_rfl) (by kernel_rfl), _, _, Tryd.func28, rfl, by kernel_rfl, rfl, rfl⟩
theorem ok_record_ReadSeal (b1 : (List UInt8)) (r : (Seal_api × Int)) (hX : X.record_ReadSeal b1 = some r) : Fun Tryd.prog 28 [Enc.v (b1 : (List UInt8))] (· = .tup 2 (ofL [Enc.v r.1, Enc.v r.2])) := by
  refine Fun.ofC (C := cx) bc28 (Nat.le_of_ble_eq_true rfl) (allVal.mem ⟨(by exact (v_val _)), trivial⟩) ?_
  unfold k28
  have nd : Nd [] := Nd_nil
  unfold X.record_ReadSeal at hX
  refine TK.seq_k fun K2 hK2 => ?_
  refine TK.reg ?_
  refine TL.alO (C := cx) (l := [Enc.v ((0 : Int) : Int), Enc.v ((0 : Int) : Int), Enc.v ((0 : Int) : Int), Enc.v ((0 : Int) : Int), .nils]) nd ty45 ti45_z rfl rfl fun b3 nd => ?_
  refine TL.p (C := cx) (gc := true) (p_mv rfl) rfl rfl ?_
  refine TL.nil ?_
  refine hK2 _ _ ?_
  refine TK.ownC (α := Int) nd (j := 0) rfl 4 3 (.inl rfl) fun b4 nd => ?_
  refine TK.seq_k fun K5 hK5 => ?_
  refine TK.reg ?_
  refine TL.p (C := cx) (gc := true) (p_mv rfl) rfl rfl ?_
  obtain ⟨r6, hr6, hX⟩ := bind_some hX
  refine TL.tcX [] [(b4, RL (α := Int) 3 ([] : List Int)), (b3, RV 45 [Enc.v ((0 : Int) : Int), Enc.v ((0 : Int) : Int), Enc.v ((0 : Int) : Int), Enc.v ((0 : Int) : Int), OL (α := Int) b4 ([] : List Int)])] rfl nd (dlt rfl) rfl ⟨rfl, ⟨rfl, trivial⟩⟩ (ok_code_NewReader b1 (Nd.take nd 0 rfl) _ hr6) ?_
  rintro _ _ hQ nd
  obtain ⟨b7, rfl, rfl⟩ := hQ
  refine TL.p (C := cx) (gc := true) (p_mv rfl) rfl rfl ?_
  refine TL.nil ?_
  refine hK5 _ _ ?_
  refine TK.seq_k fun K8 hK8 => ?_
  refine TK.reg ?_
  refine TL.p (C := cx) (gc := true) (p_mv rfl) rfl rfl ?_
  obtain ⟨r9, hr9, hX⟩ := bind_some hX
  refine TL.tcX [(b7, RV 87 [Enc.v (r6.1 : (List UInt8)), Enc.v (r6.2 : Bool)])] [(b4, RL (α := Int) 3 ([] : List Int)), (b3, RV 45 [Enc.v ((0 : Int) : Int), Enc.v ((0 : Int) : Int), Enc.v ((0 : Int) : Int), Enc.v ((0 : Int) : Int), OL (α := Int) b4 ([] : List Int)])] rfl nd (dlt rfl) rfl ⟨rfl, ⟨rfl, trivial⟩⟩ (ok_code_Reader_Int r6.1 r6.2 b7 (Nd.take nd 1 rfl) _ hr9) ?_
  rintro _ _ hQ nd
  obtain ⟨rfl, rfl⟩ := hQ
  refine TL.p (C := cx) (gc := true) (p_bld (l := [Enc.v (r9.1 : Int), Enc.v ((0 : Int) : Int), Enc.v ((0 : Int) : Int), Enc.v ((0 : Int) : Int), .nils]) ty45 rfl all45 rfl (fun _ => ⟨⟨rfl, trivial, rfl⟩, trivial⟩)) rfl rfl ?_
  refine TL.alO (C := cx) (l := [Enc.v ((0 : Int) : Int), Enc.v ((0 : Int) : Int), Enc.v ((0 : Int) : Int), Enc.v ((0 : Int) : Int), .nils]) nd ty45 ti45_z rfl rfl fun b11 nd => ?_
  refine TL.stV (C := cx) (lu := [Enc.v (r9.1 : Int), Enc.v ((0 : Int) : Int), Enc.v ((0 : Int) : Int), Enc.v ((0 : Int) : Int), .nils]) nd ty45 rfl (j := 0) rfl rfl rfl (Cells_agg rfl (allA.mem ⟨trivial, trivial, trivial, trivial, trivial, trivial⟩)) rfl rfl [Enc.v (r9.1 : Int), Enc.v ((0 : Int) : Int), Enc.v ((0 : Int) : Int), Enc.v ((0 : Int) : Int), .nils] rfl fun nd => ?_
  refine TL.nil ?_
  refine hK8 _ _ ?_
  refine TK.ownC (α := Int) nd (j := 0) rfl 4 3 (.inl rfl) fun b12 nd => ?_
  refine TK.seq_k fun K13 hK13 => ?_
  refine TK.seq_k fun K14 hK14 => ?_
  refine TK.reg ?_
  refine TL.p (C := cx) (gc := true) (p_faV fs45_1 (by decide) rfl nd (j := 1) rfl rfl) rfl rfl ?_
  refine TL.p (C := cx) (gc := true) (p_faV fs45_2 (by decide) rfl nd (j := 1) rfl rfl) rfl rfl ?_
  refine TL.p (C := cx) (gc := true) (p_faV fs45_3 (by decide) rfl nd (j := 1) rfl rfl) rfl rfl ?_
  refine TL.litR (C := cx) [.ref b11 1 5, .ref b11 2 5, .ref b11 3 5] kd68 ty67 rfl ⟨⟨rfl, rfl, refOK_of nd (j := 1) rfl rfl⟩, ⟨rfl, rfl, refOK_of nd (j := 1) rfl rfl⟩, ⟨rfl, rfl, refOK_of nd (j := 1) rfl rfl⟩, trivial⟩ rfl rfl rfl ?_
  refine TL.p (C := cx) (gc := true) (p_lenR' kd68 rfl) rfl rfl ?_
  refine TL.p (C := cx) (gc := true) (p_mv rfl) rfl rfl ?_
  refine TL.nil ?_
  refine hK14 _ _ ?_
  refine TK.block ?_
  refine TK.unroll 16 ?_
  refine unr_s ?_
  refine TK.seq_k fun K16 hK16 => ?_
  refine TK.reg ?_
  refine TL.p (C := cx) (gc := true) (p_lss rfl rfl) rfl rfl ?_
  refine TL.nil ?_
  refine hK16 _ _ ?_
  refine TK.seq_k fun K17 hK17 => ?_
  refine TK.cond (b := true) rfl (fun _ => ?_) (fun hc => by simp at hc)
  refine TK.skip ?_
  refine hK17 _ _ ?_
  refine TK.seq_k fun K18 hK18 => ?_
  refine TK.block ?_
  refine TK.seq_k fun K19 hK19 => ?_
  refine TK.reg ?_
  refine TL.p (C := cx) (gc := true) (p_iaR kd68 ty67 rfl rfl rfl (by decide) (by decide)) rfl rfl ?_
  refine TL.p (C := cx) (gc := true) (p_ldR (v := .ref b11 1 5) ty67 rfl rfl rfl rfl rfl rfl) rfl rfl ?_
  refine TL.p (C := cx) (gc := true) (p_mv rfl) rfl rfl ?_
  refine TL.nil ?_
  refine hK19 _ _ ?_
  refine TK.reg ?_
  refine TL.p (C := cx) (gc := true) (p_mv rfl) rfl rfl ?_
  refine TL.p (C := cx) (gc := true) (p_mv rfl) rfl rfl ?_
  obtain ⟨r20, hr20, hX⟩ := bind_some hX
  refine TL.pick [2, 0, 1, 3, 4] nd (by decide) fun nd => ?_
  refine TL.tcX [(b7, RV 87 [Enc.v (r9.2.1 : (List UInt8)), Enc.v (r9.2.2 : Bool)])] [(b12, RL (α := Int) 3 ([] : List Int)), (b11, RV 45 [Enc.v (r9.1 : Int), Enc.v ((0 : Int) : Int), Enc.v ((0 : Int) : Int), Enc.v ((0 : Int) : Int), OL (α := Int) b12 ([] : List Int)]), (b4, RL (α := Int) 3 ([] : List Int)), (b3, RV 45 [Enc.v ((0 : Int) : Int), Enc.v ((0 : Int) : Int), Enc.v ((0 : Int) : Int), Enc.v ((0 : Int) : Int), OL (α := Int) b4 ([] : List Int)])] rfl nd (dlt rfl) rfl ⟨rfl, ⟨rfl, trivial⟩⟩ (ok_code_Reader_Byte r9.2.1 r9.2.2 b7 (Nd.take nd 1 rfl) _ hr20) ?_
  rintro _ _ hQ nd
  obtain ⟨rfl, rfl⟩ := hQ
  refine TL.p (C := cx) (gc := true) (p_cvt src5 kd3 rfl (cv_8 r20.1)) rfl rfl ?_
  refine TL.p (C := cx) (gc := true) (p_ncR rfl (fun _ => refOK_of nd (j := 2) rfl rfl)) rfl rfl ?_
  refine TL.stV (C := cx) (lu := Enc.cl ((r20.1.toNat : Int) : Int)) nd ty3 rfl (j := 2) rfl rfl rfl (Cells_v ((r20.1.toNat : Int) : Int)) rfl rfl [Enc.v (r9.1 : Int), Enc.v ((r20.1.toNat : Int) : Int), Enc.v ((0 : Int) : Int), Enc.v ((0 : Int) : Int), OL (α := Int) b12 ([] : List Int)] rfl fun nd => ?_
  refine TL.nil ?_
  refine hK18 _ _ ?_
  refine TK.reg ?_
  refine TL.p (C := cx) (gc := true) (p_add rfl rfl) rfl rfl ?_
  refine TL.p (C := cx) (gc := true) (p_mv rfl) rfl rfl ?_
  refine TL.nil ?_
  try dsimp only [thenQ]
  refine unr_s ?_
  refine TK.seq_k fun K22 hK22 => ?_
  refine TK.reg ?_
  refine TL.p (C := cx) (gc := true) (p_lss rfl rfl) rfl rfl ?_
  refine TL.nil ?_
  refine hK22 _ _ ?_
  refine TK.seq_k fun K23 hK23 => ?_
  refine TK.cond (b := true) rfl (fun _ => ?_) (fun hc => by simp at hc)
  refine TK.skip ?_
  refine hK23 _ _ ?_
  refine TK.seq_k fun K24 hK24 => ?_
  refine TK.block ?_
  refine TK.seq_k fun K25 hK25 => ?_
  refine TK.reg ?_
  refine TL.p (C := cx) (gc := true) (p_iaR kd68 ty67 rfl rfl rfl (by decide) (by decide)) rfl rfl ?_
  refine TL.p (C := cx) (gc := true) (p_ldR (v := .ref b11 2 5) ty67 rfl rfl rfl rfl rfl rfl) rfl rfl ?_
  refine TL.p (C := cx) (gc := true) (p_mv rfl) rfl rfl ?_
  refine TL.nil ?_
  refine hK25 _ _ ?_
  refine TK.reg ?_
  refine TL.p (C := cx) (gc := true) (p_mv rfl) rfl rfl ?_
  refine TL.p (C := cx) (gc := true) (p_mv rfl) rfl rfl ?_
  obtain ⟨r26, hr26, hX⟩ := bind_some hX
  refine TL.tcX [(b7, RV 87 [Enc.v (r20.2.1 : (List UInt8)), Enc.v (r20.2.2 : Bool)])] [(b12, RL (α := Int) 3 ([] : List Int)), (b11, RV 45 [Enc.v (r9.1 : Int), Enc.v ((r20.1.toNat : Int) : Int), Enc.v ((0 : Int) : Int), Enc.v ((0 : Int) : Int), OL (α := Int) b12 ([] : List Int)]), (b4, RL (α := Int) 3 ([] : List Int)), (b3, RV 45 [Enc.v ((0 : Int) : Int), Enc.v ((0 : Int) : Int), Enc.v ((0 : Int) : Int), Enc.v ((0 : Int) : Int), OL (α := Int) b4 ([] : List Int)])] rfl nd (dlt rfl) rfl ⟨rfl, ⟨rfl, trivial⟩⟩ (ok_code_Reader_Byte r20.2.1 r20.2.2 b7 (Nd.take nd 1 rfl) _ hr26) ?_
  rintro _ _ hQ nd
  obtain ⟨rfl, rfl⟩ := hQ
  refine TL.p (C := cx) (gc := true) (p_cvt src5 kd3 rfl (cv_8 r26.1)) rfl rfl ?_
  refine TL.p (C := cx) (gc := true) (p_ncR rfl (fun _ => refOK_of nd (j := 2) rfl rfl)) rfl rfl ?_
  refine TL.stV (C := cx) (lu := Enc.cl ((r26.1.toNat : Int) : Int)) nd ty3 rfl (j := 2) rfl rfl rfl (Cells_v ((r26.1.toNat : Int) : Int)) rfl rfl [Enc.v (r9.1 : Int), Enc.v ((r20.1.toNat : Int) : Int), Enc.v ((r26.1.toNat : Int) : Int), Enc.v ((0 : Int) : Int), OL (α := Int) b12 ([] : List Int)] rfl fun nd => ?_
  refine TL.nil ?_
  refine hK24 _ _ ?_
  refine TK.reg ?_
  refine TL.p (C := cx) (gc := true) (p_add rfl rfl) rfl rfl ?_
  refine TL.p (C := cx) (gc := true) (p_mv rfl) rfl rfl ?_
  refine TL.nil ?_
  try dsimp only [thenQ]
  refine unr_s ?_
  refine TK.seq_k fun K28 hK28 => ?_
  refine TK.reg ?_
  refine TL.p (C := cx) (gc := true) (p_lss rfl rfl) rfl rfl ?_
  refine TL.nil ?_
  refine hK28 _ _ ?_
  refine TK.seq_k fun K29 hK29 => ?_
  refine TK.cond (b := true) rfl (fun _ => ?_) (fun hc => by simp at hc)
  refine TK.skip ?_
  refine hK29 _ _ ?_
  refine TK.seq_k fun K30 hK30 => ?_
  refine TK.block ?_
  refine TK.seq_k fun K31 hK31 => ?_
  refine TK.reg ?_
  refine TL.p (C := cx) (gc := true) (p_iaR kd68 ty67 rfl rfl rfl (by decide) (by decide)) rfl rfl ?_
  refine TL.p (C := cx) (gc := true) (p_ldR (v := .ref b11 3 5) ty67 rfl rfl rfl rfl rfl rfl) rfl rfl ?_
  refine TL.p (C := cx) (gc := true) (p_mv rfl) rfl rfl ?_
  refine TL.nil ?_
  refine hK31 _ _ ?_
  refine TK.reg ?_
  refine TL.p (C := cx) (gc := true) (p_mv rfl) rfl rfl ?_
  refine TL.p (C := cx) (gc := true) (p_mv rfl) rfl rfl ?_
  obtain ⟨r32, hr32, hX⟩ := bind_some hX
  refine TL.tcX [(b7, RV 87 [Enc.v (r26.2.1 : (List UInt8)), Enc.v (r26.2.2 : Bool)])] [(b12, RL (α := Int) 3 ([] : List Int)), (b11, RV 45 [Enc.v (r9.1 : Int), Enc.v ((r20.1.toNat : Int) : Int), Enc.v ((r26.1.toNat : Int) : Int), Enc.v ((0 : Int) : Int), OL (α := Int) b12 ([] : List Int)]), (b4, RL (α := Int) 3 ([] : List Int)), (b3, RV 45 [Enc.v ((0 : Int) : Int), Enc.v ((0 : Int) : Int), Enc.v ((0 : Int) : Int), Enc.v ((0 : Int) : Int), OL (α := Int) b4 ([] : List Int)])] rfl nd (dlt rfl) rfl ⟨rfl, ⟨rfl, trivial⟩⟩ (ok_code_Reader_Byte r26.2.1 r26.2.2 b7 (Nd.take nd 1 rfl) _ hr32) ?_
  rintro _ _ hQ nd
  obtain ⟨rfl, rfl⟩ := hQ
  refine TL.p (C := cx) (gc := true) (p_cvt src5 kd3 rfl (cv_8 r32.1)) rfl rfl ?_
  refine TL.p (C := cx) (gc := true) (p_ncR rfl (fun _ => refOK_of nd (j := 2) rfl rfl)) rfl rfl ?_
  refine TL.stV (C := cx) (lu := Enc.cl ((r32.1.toNat : Int) : Int)) nd ty3 rfl (j := 2) rfl rfl rfl (Cells_v ((r32.1.toNat : Int) : Int)) rfl rfl [Enc.v (r9.1 : Int), Enc.v ((r20.1.toNat : Int) : Int), Enc.v ((r26.1.toNat : Int) : Int), Enc.v ((r32.1.toNat : Int) : Int), OL (α := Int) b12 ([] : List Int)] rfl fun nd => ?_
  refine TL.nil ?_
  refine hK30 _ _ ?_
  refine TK.reg ?_
  refine TL.p (C := cx) (gc := true) (p_add rfl rfl) rfl rfl ?_
  refine TL.p (C := cx) (gc := true) (p_mv rfl) rfl rfl ?_
  refine TL.nil ?_
  try dsimp only [thenQ]
  refine unr_s ?_
  refine TK.seq_k fun K34 hK34 => ?_
  refine TK.reg ?_
  refine TL.p (C := cx) (gc := true) (p_lss rfl rfl) rfl rfl ?_
  refine TL.nil ?_
  refine hK34 _ _ ?_
  refine TK.seq_k fun K35 hK35 => ?_
  refine TK.cond (b := false) rfl (fun hc => by simp at hc) (fun _ => ?_)
  refine TK.exit ?_
  refine hK13 _ _ ?_
  refine TK.seq_k fun K36 hK36 => ?_
  refine TK.block ?_
  obtain ⟨o37, hO37, hA37⟩ := bind_some hX
  have E37 : ∀ (c53 : (List UInt8)) (c54 : Bool) (c56 : Int) (c57 : Int) (c58 : Int) (c59 : Int) (l61 : List Int) (env : Env) (h : Hp), (∃ b51 b50 b52 b60 b55, keepE [2, 4, 5] env = [(2, true, .ref b50 0 5), (4, true, .ref b52 0 2), (5, true, .ref b55 0 5)] ∧ Nd [(b51, RL (α := Int) 3 ([] : List Int)), (b50, RV 45 [Enc.v ((0 : Int) : Int), Enc.v ((0 : Int) : Int), Enc.v ((0 : Int) : Int), Enc.v ((0 : Int) : Int), OL (α := Int) b51 ([] : List Int)]), (b52, RV 87 [Enc.v (c53 : (List UInt8)), Enc.v (c54 : Bool)]), (b60, RL (α := Int) 3 l61), (b55, RV 45 [Enc.v (c56 : Int), Enc.v (c57 : Int), Enc.v (c58 : Int), Enc.v (c59 : Int), OL (α := Int) b60 l61])] ∧ HSub [(b51, RL (α := Int) 3 ([] : List Int)), (b50, RV 45 [Enc.v ((0 : Int) : Int), Enc.v ((0 : Int) : Int), Enc.v ((0 : Int) : Int), Enc.v ((0 : Int) : Int), OL (α := Int) b51 ([] : List Int)]), (b52, RV 87 [Enc.v (c53 : (List UInt8)), Enc.v (c54 : Bool)]), (b60, RL (α := Int) 3 l61), (b55, RV 45 [Enc.v (c56 : Int), Enc.v (c57 : Int), Enc.v (c58 : Int), Enc.v (c59 : Int), OL (α := Int) b60 l61])] h) → X.record_ReadSeal_e37 c53 c54 c56 c57 c58 c59 l61 = some r → K36 env h := by
    intro c53 c54 c56 c57 c58 c59 l61 env h hE hX
    obtain ⟨b51, b50, b52, b60, b55, henv, nd, hs⟩ := hE
    unfold X.record_ReadSeal_e37 at hX
    refine hK36 _ _ (TK.keep [2, 4, 5] ?_)
    rw [henv]
    refine TK.subH hs ?_
    refine TK.seq_k fun K62 hK62 => ?_
    refine TK.seq_k fun K63 hK63 => ?_
    refine TK.reg ?_
    refine TL.p (C := cx) (gc := true) (p_mv rfl) rfl rfl ?_
    obtain ⟨r64, hr64, hX⟩ := bind_some hX
    refine TL.lookX [.vref (ofL [Enc.v (c53 : (List UInt8)), Enc.v (c54 : Bool)]) 2 0] rfl rfl rfl (fun _ => ⟨rfl, ⟨rfl, trivial⟩⟩) ⟨look_ref (l := [Enc.v (c53 : (List UInt8)), Enc.v (c54 : Bool)]) nd (j := 2) rfl ⟨look_v (v := Enc.v (c53 : (List UInt8))) (v_val _), look_v (v := Enc.v (c54 : Bool)) (v_val _), trivial⟩, trivial⟩ (fun e => ok_code_Reader_Bad c53 c54 _ hr64) (trivial) ?_
    refine TL.p (C := cx) (gc := true) (p_mv rfl) rfl rfl ?_
    refine TL.layR (l2' := [Enc.v (c56 : Int), Enc.v (c57 : Int), Enc.v (c58 : Int), Enc.v (c59 : Int), Enc.v (l61 : (List Int))]) [] nd (j := 3) rfl 4 rfl rfl ⟨fix_id _, fix_id _, fix_id _, fix_id _, fix_OL nd (j := 3) rfl, trivial⟩ trivial fun nd => ?_
    refine TL.p (C := cx) (gc := (!r64)) (p_ldVa (l' := Enc.cl ((Seal_api.mk c56 c57 c58 c59 l61) : Seal_api)) ty45 rfl rfl nd (j := 3) rfl rfl rfl rfl (Nat.le_of_ble_eq_true rfl) (hg := fun e => rfl)) (gcF1 rfl) rfl ?_
    obtain ⟨r65, hr65, hX⟩ := bind_some hX
    refine TL.cvX (gcF1 rfl) rfl rfl (fun e => ⟨rfl, ⟨e, trivial⟩⟩) (fun e => ok_record_RightSeal (Seal_api.mk c56 c57 c58 c59 l61) _ (optG_t hr65 e)) ?_
    refine TL.p (C := cx) (gc := (!r64)) (p_not rfl (hg := fun e => e)) (gcF1 rfl) rfl ?_
    refine TL.p (C := cx) (gc := true) (p_or rfl rfl (fun e => ⟨rfl, fun h => (not_t h)⟩)) rfl rfl ?_
    refine TL.nil ?_
    refine hK63 _ _ ?_
    refine TK.cond (b := (r64 || (!r65))) rfl (fun hc => ?_) (fun hc => ?_)
    · have hX := ite_t hc hX
      refine TK.seq_k fun K66 hK66 => ?_
      refine TK.reg ?_
      refine TL.p (C := cx) (gc := true) (p_bld (l := [Enc.v ((0 : Int) : Int), Enc.v ((0 : Int) : Int), Enc.v ((0 : Int) : Int), Enc.v ((0 : Int) : Int), .nils]) ty45 rfl all45 rfl (fun _ => trivial)) rfl rfl ?_
      refine TL.stV (C := cx) (lu := [Enc.v ((0 : Int) : Int), Enc.v ((0 : Int) : Int), Enc.v ((0 : Int) : Int), Enc.v ((0 : Int) : Int), .nils]) nd ty45 rfl (j := 1) rfl rfl rfl (Cells_agg rfl (allA.mem ⟨trivial, trivial, trivial, trivial, trivial, trivial⟩)) rfl rfl [Enc.v ((0 : Int) : Int), Enc.v ((0 : Int) : Int), Enc.v ((0 : Int) : Int), Enc.v ((0 : Int) : Int), .nils] rfl fun nd => ?_
      refine TL.p (C := cx) (gc := true) (p_mv rfl) rfl rfl ?_
      refine TL.nil ?_
      refine hK66 _ _ ?_
      refine TK.ownC (α := Int) nd (j := 1) rfl 4 3 (.inl rfl) fun b67 nd => ?_
      refine TK.layR (l2' := [Enc.v ((0 : Int) : Int), Enc.v ((0 : Int) : Int), Enc.v ((0 : Int) : Int), Enc.v ((0 : Int) : Int), Enc.v (([] : List Int) : (List Int))]) [] nd (j := 0) rfl 2 rfl rfl ⟨fix_id _, fix_id _, fix_id _, fix_id _, fix_OL nd (j := 0) rfl, trivial⟩ trivial fun nd => ?_
      refine TK.ret ?_
      try dsimp only [thenQ]
      exact retC [Enc.v ((Seal_api.mk (0 : Int) (0 : Int) (0 : Int) (0 : Int) ([] : List Int)) : Seal_api), Enc.v ((2 : Int) : Int)] ⟨p_ldVa (l' := Enc.cl ((Seal_api.mk (0 : Int) (0 : Int) (0 : Int) (0 : Int) ([] : List Int)) : Seal_api)) ty45 rfl rfl nd (j := 1) rfl rfl rfl rfl (Nat.le_of_ble_eq_true rfl), p_mv rfl, trivial⟩ (by obtain rfl := some_in hX; rfl) (tup_val (allVal.mem ⟨v_val _, v_val _, trivial⟩))
    · have hX := ite_f hc hX
      refine TK.skip ?_
      refine hK62 _ _ ?_
      refine TK.seq_k fun K68 hK68 => ?_
      refine TK.reg ?_
      refine TL.p (C := cx) (gc := true) (p_ldVa (l' := Enc.cl ((Seal_api.mk c56 c57 c58 c59 l61) : Seal_api)) ty45 rfl rfl nd (j := 3) rfl rfl rfl rfl (Nat.le_of_ble_eq_true rfl)) rfl rfl ?_
      refine TL.stV (C := cx) (lu := Enc.cl ((Seal_api.mk c56 c57 c58 c59 l61) : Seal_api)) nd ty45 rfl (j := 1) rfl rfl rfl (Cells_v ((Seal_api.mk c56 c57 c58 c59 l61) : Seal_api)) rfl rfl [Enc.v ((Seal_api.mk c56 c57 c58 c59 l61).Number : Int), Enc.v ((Seal_api.mk c56 c57 c58 c59 l61).Index : Int), Enc.v ((Seal_api.mk c56 c57 c58 c59 l61).Data : Int), Enc.v ((Seal_api.mk c56 c57 c58 c59 l61).Parity : Int), Enc.v ((Seal_api.mk c56 c57 c58 c59 l61).Labels : (List Int))] rfl fun nd => ?_
      refine TL.p (C := cx) (gc := true) (p_mv rfl) rfl rfl ?_
      refine TL.nil ?_
      refine hK68 _ _ ?_
      refine TK.ret ?_
      try dsimp only [thenQ]
      exact retC [Enc.v ((Seal_api.mk c56 c57 c58 c59 l61) : Seal_api), Enc.v ((0 : Int) : Int)] ⟨p_ldVa (l' := Enc.cl ((Seal_api.mk c56 c57 c58 c59 l61) : Seal_api)) ty45 rfl rfl nd (j := 1) rfl rfl rfl rfl (Nat.le_of_ble_eq_true rfl), p_mv rfl, trivial⟩ (by obtain rfl := some_in hX; rfl) (tup_val (allVal.mem ⟨v_val _, v_val _, trivial⟩))
  refine TK.iter [2, 4, 5] (fun s env h => match s with | (c41, c42, c44, c45, c46, c47, l49) => ∃ b39 b38 b40 b48 b43, env = [(2, true, .ref b38 0 5), (4, true, .ref b40 0 2), (5, true, .ref b43 0 5)] ∧ Nd [(b39, RL (α := Int) 3 ([] : List Int)), (b38, RV 45 [Enc.v ((0 : Int) : Int), Enc.v ((0 : Int) : Int), Enc.v ((0 : Int) : Int), Enc.v ((0 : Int) : Int), OL (α := Int) b39 ([] : List Int)]), (b40, RV 87 [Enc.v (c41 : (List UInt8)), Enc.v (c42 : Bool)]), (b48, RL (α := Int) 3 l49), (b43, RV 45 [Enc.v (c44 : Int), Enc.v (c45 : Int), Enc.v (c46 : Int), Enc.v (c47 : Int), OL (α := Int) b48 l49])] ∧ HSub [(b39, RL (α := Int) 3 ([] : List Int)), (b38, RV 45 [Enc.v ((0 : Int) : Int), Enc.v ((0 : Int) : Int), Enc.v ((0 : Int) : Int), Enc.v ((0 : Int) : Int), OL (α := Int) b39 ([] : List Int)]), (b40, RV 87 [Enc.v (c41 : (List UInt8)), Enc.v (c42 : Bool)]), (b48, RL (α := Int) 3 l49), (b43, RV 45 [Enc.v (c44 : Int), Enc.v (c45 : Int), Enc.v (c46 : Int), Enc.v (c47 : Int), OL (α := Int) b48 l49])] h) hO37 ⟨b4, b3, b7, b12, b11, rfl, (Nd.pick nd (is := [3, 4, 0, 1, 2]) (by decide)), (HSub.pick nd (is := [3, 4, 0, 1, 2]) (by decide))⟩ ?_
  rintro ⟨c41, c42, c44, c45, c46, c47, l49⟩ env h x37x ⟨b39, b38, b40, b48, b43, rfl, nd, hs⟩ hX hR37
  refine TK.subH hs ?_
  unfold X.record_ReadSeal_s37 at hX
  try dsimp only at hX
  refine TK.seq_k fun K69 hK69 => ?_
  refine TK.seq_k fun K70 hK70 => ?_
  refine TK.reg ?_
  refine TL.p (C := cx) (gc := true) (p_mv rfl) rfl rfl ?_
  obtain ⟨r71, hr71, hX⟩ := bind_some hX
  refine TL.lookX [.vref (ofL [Enc.v (c41 : (List UInt8)), Enc.v (c42 : Bool)]) 2 0] rfl rfl rfl (fun _ => ⟨rfl, ⟨rfl, trivial⟩⟩) ⟨look_ref (l := [Enc.v (c41 : (List UInt8)), Enc.v (c42 : Bool)]) nd (j := 2) rfl ⟨look_v (v := Enc.v (c41 : (List UInt8))) (v_val _), look_v (v := Enc.v (c42 : Bool)) (v_val _), trivial⟩, trivial⟩ (fun e => ok_code_Reader_Left c41 c42 _ hr71) (trivial) ?_
  refine TL.p (C := cx) (gc := true) (p_gtr rfl rfl) rfl rfl ?_
  refine TL.nil ?_
  refine hK70 _ _ ?_
  refine TK.cond (b := (decide (r71 > (0 : Int)))) rfl (fun hc => ?_) (fun hc => ?_)
  · have hX := ite_t hc hX
    refine TK.skip ?_
    refine hK69 _ _ ?_
    refine TK.block ?_
    refine TK.pick [2, 3, 0, 1, 4] nd (by decide) fun nd => ?_
    have ndS : Nd [(b39, RL (α := Int) 3 ([] : List Int)), (b38, RV 45 [Enc.v ((0 : Int) : Int), Enc.v ((0 : Int) : Int), Enc.v ((0 : Int) : Int), Enc.v ((0 : Int) : Int), OL (α := Int) b39 ([] : List Int)]), (b43, RV 45 [Enc.v (c44 : Int), Enc.v (c45 : Int), Enc.v (c46 : Int), Enc.v (c47 : Int), OL (α := Int) b48 l49])] := Nd.pick nd (is := [2, 3, 4]) (by decide)
    refine TK.drwX (h := [(b40, RV 87 [Enc.v (c41 : (List UInt8)), Enc.v (c42 : Bool)]), (b48, RL (α := Int) 3 l49)]) (hS := [(b39, RL (α := Int) 3 ([] : List Int)), (b38, RV 45 [Enc.v ((0 : Int) : Int), Enc.v ((0 : Int) : Int), Enc.v ((0 : Int) : Int), Enc.v ((0 : Int) : Int), OL (α := Int) b39 ([] : List Int)]), (b43, RV 45 [Enc.v (c44 : Int), Enc.v (c45 : Int), Enc.v (c46 : Int), Enc.v (c47 : Int), OL (α := Int) b48 l49])]) [(0, 0), (0, 1), (0, 2), (2, 3), (0, 4), (2, 5), (0, 6), (3, 7)] mixed (by kernel_rfl) (HSub_app nd) ?_
    refine DR0 (gc := true) rfl (vok_p (C := cx) (p_faV fs45_4 (by decide) rfl ndS (j := 2) rfl rfl)) rfl rfl ?_
    refine DR0 (gc := true) rfl (vok_p (C := cx) (p_ldV (v := OL (α := Int) b48 l49) ty43 rfl rfl ndS (j := 2) rfl rfl rfl rfl rfl)) rfl rfl ?_
    refine DR0 (gc := true) rfl (vok_p (C := cx) (p_mv rfl)) rfl rfl ?_
    obtain ⟨r72, hr72, hX⟩ := bind_some hX
    refine DR2 rfl rfl ?_
    refine TL.tcX [(b40, RV 87 [Enc.v (c41 : (List UInt8)), Enc.v (c42 : Bool)])] [(b48, RL (α := Int) 3 l49), (b39, RL (α := Int) 3 ([] : List Int)), (b38, RV 45 [Enc.v ((0 : Int) : Int), Enc.v ((0 : Int) : Int), Enc.v ((0 : Int) : Int), Enc.v ((0 : Int) : Int), OL (α := Int) b39 ([] : List Int)]), (b43, RV 45 [Enc.v (c44 : Int), Enc.v (c45 : Int), Enc.v (c46 : Int), Enc.v (c47 : Int), OL (α := Int) b48 l49])] rfl nd (dlt rfl) rfl ⟨rfl, ⟨rfl, trivial⟩⟩ (ok_code_Reader_Int c41 c42 b40 (Nd.take nd 1 rfl) _ hr72) ?_
    rintro _ _ hQ nd
    obtain ⟨rfl, rfl⟩ := hQ
    refine TL.nil ⟨_, [(b40, RV 87 [Enc.v (r72.2.1 : (List UInt8)), Enc.v (r72.2.2 : Bool)]), (b48, RL (α := Int) 3 l49)], rfl, rfl, HSub_app nd, ?_⟩
    refine DR0 (gc := true) rfl (vok_lit (C := cx) ([r72.1] : List Int) kd43 ty3 rfl ⟨⟨rfl, rfl⟩, trivial⟩ rfl rfl) rfl rfl ?_
    obtain ⟨u74, hu74, hX⟩ := bind_some hX
    refine DR2 rfl rfl ?_
    refine TL.appO (C := cx) nd kd43 bo43 ty3 rfl rfl (j := 1) rfl rfl (Src_L _) (by decide) (need_t hu74) rfl fun nd => ?_
    refine TL.nil ⟨_, [(b40, RV 87 [Enc.v (r72.2.1 : (List UInt8)), Enc.v (r72.2.2 : Bool)]), (b48, RL (α := Int) 3 (l49 ++ ([r72.1] : List Int)))], rfl, rfl, HSub_app nd, ?_⟩
    refine DR0 (gc := true) rfl (vok_p (C := cx) (p_faV fs45_4 (by decide) rfl ndS (j := 2) rfl rfl)) rfl rfl ?_
    refine DR3n rfl ?_
    refine TL.stV (C := cx) (lu := [OL (α := Int) b48 (l49 ++ ([r72.1] : List Int))]) nd ty43 rfl (j := 4) rfl rfl rfl (Cells_rs (refOK_of nd (j := 1) rfl rfl)) rfl rfl [Enc.v (c44 : Int), Enc.v (c45 : Int), Enc.v (c46 : Int), Enc.v (c47 : Int), OL (α := Int) b48 (l49 ++ ([r72.1] : List Int))] rfl fun nd => ?_
    refine TL.nil ⟨rfl, ?_⟩
    refine DRende ?_
    exact ⟨_, (some_in hX).symm, b39, b38, b40, b48, b43, rfl, (Nd.pick nd (is := [2, 3, 0, 1, 4]) (by decide)), (HSub.pick nd (is := [2, 3, 0, 1, 4]) (by decide))⟩
  · have hX := ite_f hc hX
    refine TK.exit ?_
    obtain rfl := hR37 _ (some_in hX).symm
    exact E37 c41 c42 c44 c45 c46 c47 l49 _ _ ⟨b39, b38, b40, b48, b43, rfl, (Nd.pick nd (is := [0, 1, 2, 3, 4]) (by decide)), (HSub.pick nd (is := [0, 1, 2, 3, 4]) (by decide))⟩ hA37

end Go.Proofs.YtpipaggkbiapjaaDoor
