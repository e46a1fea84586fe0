import Derived.Test.YtpipaggkbiapjaaDoorXFn
import Derived.Test.YtpipaggkbiapjaaDoorXS
import Derived.Test.YtpipaggkbiapjaaDoorAmK0
import Derived.Test.YtpipaggkbiapjaaDoorSh
/- That they do. -/
namespace Go.Proofs.YtpipaggkbiapjaaDoor
open Go.AM Go.AX
set_option linter.unusedVariables false
set_option maxRecDepth 20000

/-- strings.Count -/
theorem ok_strings_Count_k47 (s1 : Str) (r : Int) (hX : X.strings_Count_k47 s1 = some r) : Fun Tryd.prog 68 [Enc.v (s1 : Str), Enc.v ((Str.mk [47]) : Str)] (· = Enc.v (r : Int)) := by
  refine Fun.of b68 (Nat.le_of_ble_eq_true rfl) (allVal.mem ⟨(by exact (v_val _)), (by exact (v_val _)), trivial⟩) ?_
  unfold k68
  have nd : Nd [] := Nd_nil
  unfold X.strings_Count_k47 at hX
  refine TK.seq_k fun K2 hK2 => ?_
  refine TK.reg ?_
  refine TL.p (C := cx) (gc := true) (p_mv rfl) rfl rfl ?_
  refine TL.nil ?_
  refine hK2 _ _ ?_
  refine TK.seq_k fun K3 hK3 => ?_
  refine TK.seq_k fun K4 hK4 => ?_
  refine TK.reg ?_
  refine TL.p (C := cx) (gc := true) (p_mv rfl) rfl rfl ?_
  refine TL.p (C := cx) (gc := true) (p_lenS (s := (Str.mk [47])) kd9 rfl) rfl rfl ?_
  refine TL.p (C := cx) (gc := true) (p_eql rfl rfl) rfl rfl ?_
  refine TL.nil ?_
  refine hK4 _ _ ?_
  refine TK.cond (b := false) rfl (fun hc => by simp at hc) (fun _ => ?_)
  refine TK.skip ?_
  refine hK3 _ _ ?_
  refine TK.seq_k fun K5 hK5 => ?_
  refine TK.seq_k fun K6 hK6 => ?_
  refine TK.reg ?_
  refine TL.p (C := cx) (gc := true) (p_mv rfl) rfl rfl ?_
  refine TL.p (C := cx) (gc := true) (p_lenS (s := (Str.mk [47])) kd9 rfl) rfl rfl ?_
  refine TL.p (C := cx) (gc := true) (p_eql rfl rfl) rfl rfl ?_
  refine TL.nil ?_
  refine hK6 _ _ ?_
  refine TK.cond (b := true) rfl (fun _ => ?_) (fun hc => by simp at hc)
  refine TK.seq_k fun K7 hK7 => ?_
  refine TK.reg ?_
  refine TL.p (C := cx) (gc := true) (p_mv rfl) rfl rfl ?_
  refine TL.p (C := cx) (gc := true) (p_mv rfl) rfl rfl ?_
  obtain ⟨x8, hx8, hX⟩ := bind_some hX
  refine TL.p (C := cx) (gc := true) (p_ix kd9 rfl rfl (fun _ => hx8)) rfl rfl ?_
  refine TL.ofV (gc := true) (vok_countS (C := cx) ex73 rfl (fun _ => ⟨rfl, ⟨rfl, ⟨rfl, trivial⟩⟩⟩)) rfl rfl ?_
  refine TL.p (C := cx) (gc := true) (p_mv rfl) rfl rfl ?_
  refine TL.nil ?_
  refine hK7 _ _ ?_
  refine TK.ret ?_
  try dsimp only [thenQ]
  exact ret1 (v := Enc.v (((s1.l.count x8 : Nat) : Int) : Int)) rfl (by obtain rfl := some_in hX; rfl) (v_val _)

/-- internal/stringslite.IndexByte -/
theorem ok_stringslite_IndexByte (s1 : Str) (c2 : UInt8) (r : Int) (hX : X.stringslite_IndexByte s1 c2 = some r) : Fun Tryd.prog 77 [Enc.v (s1 : Str), Enc.v (c2 : UInt8)] (· = Enc.v (r : Int)) := by
  refine Fun.of b77 (Nat.le_of_ble_eq_true rfl) (allVal.mem ⟨(by exact (v_val _)), (by exact (v_val _)), trivial⟩) ?_
  unfold k77
  have nd : Nd [] := Nd_nil
  unfold X.stringslite_IndexByte at hX
  refine TK.seq_k fun K3 hK3 => ?_
  refine TK.reg ?_
  refine TL.p (C := cx) (gc := true) (p_mv rfl) rfl rfl ?_
  refine TL.nil ?_
  refine hK3 _ _ ?_
  refine TK.seq_k fun K4 hK4 => ?_
  refine TK.reg ?_
  refine TL.p (C := cx) (gc := true) (p_mv rfl) rfl rfl ?_
  refine TL.p (C := cx) (gc := true) (p_mv rfl) rfl rfl ?_
  refine TL.ofV (gc := true) (vok_indexS (C := cx) ex81 rfl (fun _ => ⟨rfl, ⟨rfl, ⟨rfl, trivial⟩⟩⟩)) rfl rfl ?_
  refine TL.p (C := cx) (gc := true) (p_mv rfl) rfl rfl ?_
  refine TL.nil ?_
  refine hK4 _ _ ?_
  refine TK.ret ?_
  try dsimp only [thenQ]
  exact ret1 (v := Enc.v ((Lib.indexByte s1.l c2) : Int)) rfl (by obtain rfl := some_in hX; rfl) (v_val _)

/-- internal/stringslite.Index -/
theorem ok_stringslite_Index_k47 (s1 : Str) (r : Int) (hX : X.stringslite_Index_k47 s1 = some r) : Fun Tryd.prog 74 [Enc.v (s1 : Str), Enc.v ((Str.mk [47]) : Str)] (· = Enc.v (r : Int)) := by
  refine Fun.of b74 (Nat.le_of_ble_eq_true rfl) (allVal.mem ⟨(by exact (v_val _)), (by exact (v_val _)), trivial⟩) ?_
  unfold k74
  have nd : Nd [] := Nd_nil
  unfold X.stringslite_Index_k47 at hX
  refine TK.seq_k fun K2 hK2 => ?_
  refine TK.reg ?_
  refine TL.p (C := cx) (gc := true) (p_mv rfl) rfl rfl ?_
  refine TL.nil ?_
  refine hK2 _ _ ?_
  refine TK.seq_k fun K3 hK3 => ?_
  refine TK.reg ?_
  refine TL.p (C := cx) (gc := true) (p_mv rfl) rfl rfl ?_
  refine TL.p (C := cx) (gc := true) (p_lenS (s := (Str.mk [47])) kd9 rfl) rfl rfl ?_
  refine TL.p (C := cx) (gc := true) (p_mv rfl) rfl rfl ?_
  refine TL.nil ?_
  refine hK3 _ _ ?_
  refine TK.seq_k fun K4 hK4 => ?_
  refine TK.block ?_
  refine TK.seq_k fun K5 hK5 => ?_
  refine TK.reg ?_
  refine TL.p (C := cx) (gc := true) (p_mv rfl) rfl rfl ?_
  refine TL.p (C := cx) (gc := true) (p_eql rfl rfl) rfl rfl ?_
  refine TL.p (C := cx) (gc := true) (p_mv rfl) rfl rfl ?_
  refine TL.guardT rfl ?_
  refine TL.p (C := cx) (gc := true) (p_mv rfl) rfl rfl ?_
  refine TL.guardT rfl ?_
  refine TL.p (C := cx) (gc := true) (p_mv rfl) rfl rfl ?_
  refine TL.guardT rfl ?_
  refine TL.p (C := cx) (gc := true) (ps_eql (s := (Str.mk [47])) (r := s1) rfl rfl) rfl rfl ?_
  refine TL.p (C := cx) (gc := true) (p_or rfl rfl (fun e => ⟨rfl, fun h => rfl⟩)) rfl rfl ?_
  refine TL.p (C := cx) (gc := true) (p_mv rfl) rfl rfl ?_
  refine TL.nil ?_
  refine hK5 _ _ ?_
  refine TK.cond (b := ((Str.mk [47]).l == s1.l)) rfl (fun hc => ?_) (fun hc => ?_)
  · have hX := ite_t hc hX
    refine TK.seq_k fun K6 hK6 => ?_
    refine TK.reg ?_
    refine TL.p (C := cx) (gc := true) (p_mv rfl) rfl rfl ?_
    refine TL.nil ?_
    refine hK6 _ _ ?_
    refine TK.ret ?_
    try dsimp only [thenQ]
    exact ret1 (v := Enc.v ((0 : Int) : Int)) rfl (by obtain rfl := some_in hX; rfl) (v_val _)
  · have hX := ite_f hc hX
    refine TK.seq_k fun K7 hK7 => ?_
    refine TK.reg ?_
    refine TL.p (C := cx) (gc := true) (p_mv rfl) rfl rfl ?_
    refine TL.p (C := cx) (gc := true) (p_eql rfl rfl) rfl rfl ?_
    refine TL.p (C := cx) (gc := true) (p_mv rfl) rfl rfl ?_
    refine TL.nil ?_
    refine hK7 _ _ ?_
    refine TK.cond (b := true) rfl (fun _ => ?_) (fun hc => by simp at hc)
    refine TK.seq_k fun K8 hK8 => ?_
    refine TK.reg ?_
    refine TL.p (C := cx) (gc := true) (p_mv rfl) rfl rfl ?_
    refine TL.p (C := cx) (gc := true) (p_mv rfl) rfl rfl ?_
    obtain ⟨x9, hx9, hX⟩ := bind_some hX
    refine TL.p (C := cx) (gc := true) (p_ix kd9 rfl rfl (fun _ => hx9)) rfl rfl ?_
    obtain ⟨r10, hr10, hX⟩ := bind_some hX
    refine TL.cvX rfl rfl rfl (fun _ => ⟨rfl, ⟨rfl, ⟨rfl, trivial⟩⟩⟩) (fun e => ok_stringslite_IndexByte s1 x9 _ hr10) ?_
    refine TL.p (C := cx) (gc := true) (p_mv rfl) rfl rfl ?_
    refine TL.nil ?_
    refine hK8 _ _ ?_
    refine TK.ret ?_
    try dsimp only [thenQ]
    exact ret1 (v := Enc.v (r10 : Int)) rfl (by obtain rfl := some_in hX; rfl) (v_val _)

/-- strings.Index -/
theorem ok_strings_Index_k47 (s1 : Str) (r : Int) (hX : X.strings_Index_k47 s1 = some r) : Fun Tryd.prog 69 [Enc.v (s1 : Str), Enc.v ((Str.mk [47]) : Str)] (· = Enc.v (r : Int)) := by
  refine Fun.of b69 (Nat.le_of_ble_eq_true rfl) (allVal.mem ⟨(by exact (v_val _)), (by exact (v_val _)), trivial⟩) ?_
  unfold k69
  have nd : Nd [] := Nd_nil
  unfold X.strings_Index_k47 at hX
  refine TK.seq_k fun K2 hK2 => ?_
  refine TK.reg ?_
  refine TL.p (C := cx) (gc := true) (p_mv rfl) rfl rfl ?_
  refine TL.nil ?_
  refine hK2 _ _ ?_
  refine TK.seq_k fun K3 hK3 => ?_
  refine TK.reg ?_
  refine TL.p (C := cx) (gc := true) (p_mv rfl) rfl rfl ?_
  refine TL.p (C := cx) (gc := true) (p_mv rfl) rfl rfl ?_
  obtain ⟨r4, hr4, hX⟩ := bind_some hX
  refine TL.cvX rfl rfl rfl (fun _ => ⟨rfl, ⟨rfl, ⟨rfl, trivial⟩⟩⟩) (fun e => ok_stringslite_Index_k47 s1 _ hr4) ?_
  refine TL.p (C := cx) (gc := true) (p_mv rfl) rfl rfl ?_
  refine TL.nil ?_
  refine hK3 _ _ ?_
  refine TK.ret ?_
  try dsimp only [thenQ]
  exact ret1 (v := Enc.v (r4 : Int)) rfl (by obtain rfl := some_in hX; rfl) (v_val _)

/-- strings.genSplit -/
theorem ok_strings_genSplit_k47_0_1 (s1 : Str) (r : (List Str)) (hX : X.strings_genSplit_k47_0_1 s1 = some r) : Fun Tryd.prog 59 [Enc.v (s1 : Str), Enc.v ((Str.mk [47]) : Str), Enc.v ((0 : Int) : Int), Enc.v (((-1) : Int) : Int)] (· = Enc.v (r : (List Str))) := by
  refine Fun.of b59 (Nat.le_of_ble_eq_true rfl) (allVal.mem ⟨(by exact (v_val _)), (by exact (v_val _)), (by exact (v_val _)), (by exact (v_val _)), trivial⟩) ?_
  unfold k59
  have nd : Nd [] := Nd_nil
  unfold X.strings_genSplit_k47_0_1 at hX
  refine TK.seq_k fun K2 hK2 => ?_
  refine TK.reg ?_
  refine TL.p (C := cx) (gc := true) (p_mv rfl) rfl rfl ?_
  refine TL.nil ?_
  refine hK2 _ _ ?_
  refine TK.seq_k fun K3 hK3 => ?_
  refine TK.seq_k fun K4 hK4 => ?_
  refine TK.reg ?_
  refine TL.p (C := cx) (gc := true) (p_mv rfl) rfl rfl ?_
  refine TL.p (C := cx) (gc := true) (p_eql rfl rfl) rfl rfl ?_
  refine TL.nil ?_
  refine hK4 _ _ ?_
  refine TK.cond (b := false) rfl (fun hc => by simp at hc) (fun _ => ?_)
  refine TK.skip ?_
  refine hK3 _ _ ?_
  refine TK.seq_k fun K5 hK5 => ?_
  refine TK.seq_k fun K6 hK6 => ?_
  refine TK.reg ?_
  refine TL.p (C := cx) (gc := true) (p_mv rfl) rfl rfl ?_
  refine TL.p (C := cx) (gc := true) (ps_eql (s := (Str.mk [47])) (r := (Str.mk [])) rfl rfl) rfl rfl ?_
  refine TL.nil ?_
  refine hK6 _ _ ?_
  refine TK.cond (b := false) rfl (fun hc => by simp at hc) (fun _ => ?_)
  refine TK.skip ?_
  refine hK5 _ _ ?_
  refine TK.seq_k fun K7 hK7 => ?_
  refine TK.seq_k fun K8 hK8 => ?_
  refine TK.reg ?_
  refine TL.p (C := cx) (gc := true) (p_mv rfl) rfl rfl ?_
  refine TL.p (C := cx) (gc := true) (p_lss rfl rfl) rfl rfl ?_
  refine TL.nil ?_
  refine hK8 _ _ ?_
  refine TK.cond (b := true) rfl (fun _ => ?_) (fun hc => by simp at hc)
  refine TK.reg ?_
  refine TL.p (C := cx) (gc := true) (p_mv rfl) rfl rfl ?_
  refine TL.p (C := cx) (gc := true) (p_mv rfl) rfl rfl ?_
  obtain ⟨r9, hr9, hX⟩ := bind_some hX
  refine TL.cvX rfl rfl rfl (fun _ => ⟨rfl, ⟨rfl, ⟨rfl, trivial⟩⟩⟩) (fun e => ok_strings_Count_k47 s1 _ hr9) ?_
  refine TL.p (C := cx) (gc := true) (p_add rfl rfl) rfl rfl ?_
  refine TL.p (C := cx) (gc := true) (p_mv rfl) rfl rfl ?_
  refine TL.nil ?_
  refine hK7 _ _ ?_
  refine TK.seq_k fun K10 hK10 => ?_
  refine TK.reg ?_
  refine TL.p (C := cx) (gc := true) (p_mv rfl) rfl rfl ?_
  refine TL.p (C := cx) (gc := true) (p_mv rfl) rfl rfl ?_
  refine TL.p (C := cx) (gc := true) (p_lenS (s := s1) kd9 rfl) rfl rfl ?_
  refine TL.p (C := cx) (gc := true) (p_add rfl rfl) rfl rfl ?_
  refine TL.p (C := cx) (gc := true) (p_min rfl rfl) rfl rfl ?_
  refine TL.p (C := cx) (gc := true) (p_mv rfl) rfl rfl ?_
  refine TL.nil ?_
  refine hK10 _ _ ?_
  refine TK.seq_k fun K11 hK11 => ?_
  refine TK.reg ?_
  refine TL.p (C := cx) (gc := true) (p_mv rfl) rfl rfl ?_
  obtain ⟨u12, hu12, hX⟩ := bind_some hX
  refine TL.mkO (C := cx) nd (Str.mk []) kd25 ty9 rfl (fun j hj => by (have : j = 0 := by simpa [Enc.sz] using hj); subst this; rfl) rfl rfl (by decide) (need_t hu12) rfl fun b13 nd => ?_
  refine TL.p (C := cx) (gc := true) (p_mv rfl) rfl rfl ?_
  refine TL.nil ?_
  refine hK11 _ _ ?_
  refine TK.seq_k fun K14 hK14 => ?_
  refine TK.reg ?_
  refine TL.p (C := cx) (gc := true) (p_mv rfl) rfl rfl ?_
  refine TL.p (C := cx) (gc := true) (p_sub rfl rfl) rfl rfl ?_
  refine TL.p (C := cx) (gc := true) (p_mv rfl) rfl rfl ?_
  refine TL.nil ?_
  refine hK14 _ _ ?_
  refine TK.seq_k fun K15 hK15 => ?_
  refine TK.reg ?_
  refine TL.p (C := cx) (gc := true) (p_mv rfl) rfl rfl ?_
  refine TL.nil ?_
  refine hK15 _ _ ?_
  refine TK.seq_k fun K16 hK16 => ?_
  refine TK.block ?_
  obtain ⟨o17, hO17, hA17⟩ := bind_some hX
  have E17 : ∀ (s22 : Str) (l24 : List Str) (i25 : Int) (env : Env) (h : Hp), (∃ b23, keepE [0, 9, 10] env = [(0, true, Enc.v (s22 : Str)), (9, true, OL (α := Str) b23 l24), (10, true, Enc.v (i25 : Int))] ∧ Nd [(b23, RL (α := Str) 9 l24)] ∧ HSub [(b23, RL (α := Str) 9 l24)] h) → X.strings_genSplit_k47_0_1_e17 s22 l24 i25 = some r → K16 env h := by
    intro s22 l24 i25 env h hE hX
    obtain ⟨b23, henv, nd, hs⟩ := hE
    unfold X.strings_genSplit_k47_0_1_e17 at hX
    refine hK16 _ _ (TK.keep [0, 9, 10] ?_)
    rw [henv]
    refine TK.subH hs ?_
    refine TK.seq_k fun K26 hK26 => ?_
    refine TK.reg ?_
    refine TL.p (C := cx) (gc := true) (p_mv rfl) rfl rfl ?_
    refine TL.p (C := cx) (gc := true) (p_mv rfl) rfl rfl ?_
    refine TL.p (C := cx) (gc := true) (p_mv rfl) rfl rfl ?_
    obtain ⟨e27, he27, hX⟩ := bind_some hX
    refine TL.p (C := cx) (gc := true) (p_iaO (xs := l24) kd25 ty9 rfl rfl rfl nd (j := 0) rfl (fun _ => he27)) rfl rfl ?_
    refine TL.stW (C := cx) (xs := l24) (i := i25) (lu := Enc.cl (s22 : Str)) (a' := s22) nd ty9 rfl (j := 0) rfl (by simp [Enc.sz]) (inb_of he27 (by simp)) rfl (Cells_v (s22 : Str)) rfl (WkL_refl _) fun nd => ?_
    refine TL.cv 9 (OL b23 (l24.set i25.toNat s22)) rfl (Wk_eq (OL_len (by simp))) ?_
    refine TL.nil ?_
    refine hK26 _ _ ?_
    refine TK.seq_k fun K28 hK28 => ?_
    refine TK.reg ?_
    refine TL.p (C := cx) (gc := true) (p_mv rfl) rfl rfl ?_
    refine TL.p (C := cx) (gc := true) (p_mv rfl) rfl rfl ?_
    refine TL.p (C := cx) (gc := true) (p_add rfl rfl) rfl rfl ?_
    obtain ⟨u29, hu29, hX⟩ := bind_some hX
    refine TL.p (C := cx) (gc := true) (p_sliO (xs := (l24.set i25.toNat s22)) (l := (0 : Int)) (k := (wr (i25 + (1 : Int)))) kd25 ty9 rfl rfl nd (j := 0) rfl rfl rfl (fun e => need_t hu29)) rfl rfl ?_
    refine TL.p (C := cx) (gc := true) (p_mv rfl) rfl rfl ?_
    refine TL.nil ?_
    refine hK28 _ _ ?_
    refine TK.lay [(8, L (slc (l24.set i25.toNat s22) (0 : Int) (wr (i25 + (1 : Int)))))] nd (j := 0) rfl ⟨⟨_, rfl, fix_OS nd (j := 0) rfl (need_t hu29).1, rfl⟩, trivial⟩ fun nd => ?_
    refine TK.ret ?_
    try dsimp only [thenQ]
    exact ret1 (v := Enc.v ((slc (l24.set i25.toNat s22) (0 : Int) (wr (i25 + (1 : Int)))) : (List Str))) rfl (by obtain rfl := some_in hX; rfl) (v_val _)
  refine TK.iter [0, 1, 2, 3, 9, 10] (fun s env h => match s with | (s18, a20, i21) => ∃ b19, env = [(0, true, Enc.v (s18 : Str)), (1, true, Enc.v ((Str.mk [47]) : Str)), (2, true, Enc.v ((0 : Int) : Int)), (3, true, Enc.v ((wr ((min (wr (r9 + (1 : Int))) (wr ((s1.l.length : Int) + (1 : Int)))) - (1 : Int))) : Int)), (9, true, OL (α := Str) b19 a20), (10, true, Enc.v (i21 : Int))] ∧ Nd [(b19, RL (α := Str) 9 a20)] ∧ HSub [(b19, RL (α := Str) 9 a20)] h) hO17 ⟨b13, rfl, (Nd.pick nd (is := [0]) (by decide)), (HSub.pick nd (is := [0]) (by decide))⟩ ?_
  rintro ⟨s18, a20, i21⟩ env h x17x ⟨b19, rfl, nd, hs⟩ hX hR17
  refine TK.subH hs ?_
  unfold X.strings_genSplit_k47_0_1_s17 at hX
  try dsimp only at hX
  refine TK.seq_k fun K30 hK30 => ?_
  refine TK.seq_k fun K31 hK31 => ?_
  refine TK.reg ?_
  refine TL.p (C := cx) (gc := true) (p_mv rfl) rfl rfl ?_
  refine TL.p (C := cx) (gc := true) (p_mv rfl) rfl rfl ?_
  refine TL.p (C := cx) (gc := true) (p_lss rfl rfl) rfl rfl ?_
  refine TL.nil ?_
  refine hK31 _ _ ?_
  refine TK.cond (b := (decide (i21 < (wr ((min (wr (r9 + (1 : Int))) (wr ((s1.l.length : Int) + (1 : Int)))) - (1 : Int)))))) rfl (fun hc => ?_) (fun hc => ?_)
  · have hX := ite_t hc hX
    refine TK.skip ?_
    refine hK30 _ _ ?_
    refine TK.block ?_
    refine TK.seq_k fun K32 hK32 => ?_
    refine TK.reg ?_
    refine TL.p (C := cx) (gc := true) (p_mv rfl) rfl rfl ?_
    refine TL.p (C := cx) (gc := true) (p_mv rfl) rfl rfl ?_
    obtain ⟨r33, hr33, hX⟩ := bind_some hX
    refine TL.cvX rfl rfl rfl (fun _ => ⟨rfl, ⟨rfl, ⟨rfl, trivial⟩⟩⟩) (fun e => ok_strings_Index_k47 s18 _ hr33) ?_
    refine TL.p (C := cx) (gc := true) (p_mv rfl) rfl rfl ?_
    refine TL.nil ?_
    refine hK32 _ _ ?_
    refine TK.seq_k fun K34 hK34 => ?_
    refine TK.seq_k fun K35 hK35 => ?_
    refine TK.reg ?_
    refine TL.p (C := cx) (gc := true) (p_mv rfl) rfl rfl ?_
    refine TL.p (C := cx) (gc := true) (p_lss rfl rfl) rfl rfl ?_
    refine TL.nil ?_
    refine hK35 _ _ ?_
    refine TK.cond (b := (decide (r33 < (0 : Int)))) rfl (fun hc => ?_) (fun hc => ?_)
    · have hX := ite_t hc hX
      refine TK.exit ?_
      obtain rfl := hR17 _ (some_in hX).symm
      exact E17 s18 a20 i21 _ _ ⟨b19, rfl, (Nd.pick nd (is := [0]) (by decide)), (HSub.pick nd (is := [0]) (by decide))⟩ hA17
    · have hX := ite_f hc hX
      refine TK.skip ?_
      refine hK34 _ _ ?_
      refine TK.seq_k fun K36 hK36 => ?_
      refine TK.reg ?_
      refine TL.p (C := cx) (gc := true) (p_mv rfl) rfl rfl ?_
      refine TL.p (C := cx) (gc := true) (p_mv rfl) rfl rfl ?_
      refine TL.p (C := cx) (gc := true) (p_mv rfl) rfl rfl ?_
      refine TL.p (C := cx) (gc := true) (p_mv rfl) rfl rfl ?_
      refine TL.p (C := cx) (gc := true) (p_mv rfl) rfl rfl ?_
      refine TL.p (C := cx) (gc := true) (p_add rfl rfl) rfl rfl ?_
      obtain ⟨u37, hu37, hX⟩ := bind_some hX
      refine TL.p (C := cx) (gc := true) (p_sliS (s := s18) (l := (0 : Int)) (k := (wr (r33 + (0 : Int)))) kd9 rfl rfl (fun n hn => rfl) (fun e => need_t hu37)) rfl rfl ?_
      obtain ⟨e38, he38, hX⟩ := bind_some hX
      refine TL.p (C := cx) (gc := true) (p_iaO (xs := a20) kd25 ty9 rfl rfl rfl nd (j := 0) rfl (fun _ => he38)) rfl rfl ?_
      refine TL.stW (C := cx) (xs := a20) (i := i21) (lu := Enc.cl ((Str.mk (slc s18.l (0 : Int) (wr (r33 + (0 : Int))))) : Str)) (a' := (Str.mk (slc s18.l (0 : Int) (wr (r33 + (0 : Int)))))) nd ty9 rfl (j := 0) rfl (by simp [Enc.sz]) (inb_of he38 (by simp)) rfl (Cells_v ((Str.mk (slc s18.l (0 : Int) (wr (r33 + (0 : Int))))) : Str)) rfl (WkL_refl _) fun nd => ?_
      refine TL.cv 9 (OL b19 (a20.set i21.toNat (Str.mk (slc s18.l (0 : Int) (wr (r33 + (0 : Int))))))) rfl (Wk_eq (OL_len (by simp))) ?_
      refine TL.nil ?_
      refine hK36 _ _ ?_
      refine TK.seq_k fun K39 hK39 => ?_
      refine TK.reg ?_
      refine TL.p (C := cx) (gc := true) (p_mv rfl) rfl rfl ?_
      refine TL.p (C := cx) (gc := true) (p_mv rfl) rfl rfl ?_
      refine TL.p (C := cx) (gc := true) (p_mv rfl) rfl rfl ?_
      refine TL.p (C := cx) (gc := true) (p_lenS (s := (Str.mk [47])) kd9 rfl) rfl rfl ?_
      refine TL.p (C := cx) (gc := true) (p_add rfl rfl) rfl rfl ?_
      obtain ⟨u40, hu40, hX⟩ := bind_some hX
      refine TL.p (C := cx) (gc := true) (p_sliS (s := s18) (l := (wr (r33 + (1 : Int)))) (k := (s18.l.length : Int)) kd9 rfl rfl (fun n hn => by subst hn; rfl) (fun e => need_t hu40)) rfl rfl ?_
      refine TL.p (C := cx) (gc := true) (p_mv rfl) rfl rfl ?_
      refine TL.nil ?_
      refine hK39 _ _ ?_
      refine TK.reg ?_
      refine TL.p (C := cx) (gc := true) (p_mv rfl) rfl rfl ?_
      refine TL.p (C := cx) (gc := true) (p_add rfl rfl) rfl rfl ?_
      refine TL.p (C := cx) (gc := true) (p_mv rfl) rfl rfl ?_
      refine TL.nil ?_
      exact ⟨_, (some_in hX).symm, b19, rfl, (Nd.pick nd (is := [0]) (by decide)), (HSub.pick nd (is := [0]) (by decide))⟩
  · have hX := ite_f hc hX
    refine TK.exit ?_
    obtain rfl := hR17 _ (some_in hX).symm
    exact E17 s18 a20 i21 _ _ ⟨b19, rfl, (Nd.pick nd (is := [0]) (by decide)), (HSub.pick nd (is := [0]) (by decide))⟩ hA17

/-- strings.Split -/
theorem ok_strings_Split_k47 (s1 : Str) (r : (List Str)) (hX : X.strings_Split_k47 s1 = some r) : Fun Tryd.prog 34 [Enc.v (s1 : Str), Enc.v ((Str.mk [47]) : Str)] (· = Enc.v (r : (List Str))) := by
  refine Fun.of b34 (Nat.le_of_ble_eq_true rfl) (allVal.mem ⟨(by exact (v_val _)), (by exact (v_val _)), trivial⟩) ?_
  unfold k34
  have nd : Nd [] := Nd_nil
  unfold X.strings_Split_k47 at hX
  refine TK.seq_k fun K2 hK2 => ?_
  refine TK.reg ?_
  refine TL.p (C := cx) (gc := true) (p_mv rfl) rfl rfl ?_
  refine TL.nil ?_
  refine hK2 _ _ ?_
  refine TK.seq_k fun K3 hK3 => ?_
  refine TK.reg ?_
  refine TL.p (C := cx) (gc := true) (p_mv rfl) rfl rfl ?_
  refine TL.p (C := cx) (gc := true) (p_mv rfl) rfl rfl ?_
  obtain ⟨r4, hr4, hX⟩ := bind_some hX
  refine TL.cvX rfl rfl rfl (fun _ => ⟨rfl, ⟨rfl, ⟨rfl, ⟨rfl, ⟨rfl, trivial⟩⟩⟩⟩⟩) (fun e => ok_strings_genSplit_k47_0_1 s1 _ hr4) ?_
  refine TL.p (C := cx) (gc := true) (p_mv rfl) rfl rfl ?_
  refine TL.nil ?_
  refine hK3 _ _ ?_
  refine TK.ret ?_
  try dsimp only [thenQ]
  exact ret1 (v := Enc.v (r4 : (List Str))) rfl (by obtain rfl := some_in hX; rfl) (v_val _)

/-- slices.IndexFunc[[]string,string] -/
theorem ok_slices_IndexFunc_Lstring_string (s1 : (List Str)) (g2 : Str → Option Bool) (r : Int) (hX : X.slices_IndexFunc_Lstring_string s1 g2 = some r) {g2V : AV} (hg2V : ∃ f m c, g2V = .fn f m c ∧ (∀ i, i < m → (c i).val) ∧ ∀ (a0 : Str) r, g2 a0 = some r → Fun Tryd.prog f ([Enc.v a0] ++ (List.range m).map c) (· = Enc.v r)) : Fun Tryd.prog 58 [Enc.v (s1 : (List Str)), g2V] (· = Enc.v (r : Int)) := by
  obtain ⟨g2f, g2m, g2c, rfl, hg2v, hg2⟩ := hg2V
  refine Fun.of b58 (Nat.le_of_ble_eq_true rfl) (allVal.mem ⟨(by exact (v_val _)), hg2v, trivial⟩) ?_
  unfold k58
  have nd : Nd [] := Nd_nil
  unfold X.slices_IndexFunc_Lstring_string at hX
  refine TK.seq_k fun K3 hK3 => ?_
  refine TK.reg ?_
  refine TL.p (C := cx) (gc := true) (p_mv rfl) rfl rfl ?_
  refine TL.nil ?_
  refine hK3 _ _ ?_
  refine TK.seq_k fun K4 hK4 => ?_
  refine TK.seq_k fun K5 hK5 => ?_
  refine TK.reg ?_
  refine TL.p (C := cx) (gc := true) (p_mv rfl) rfl rfl ?_
  refine TL.p (C := cx) (gc := true) (p_lenL (xs := s1) kd25 rfl) rfl rfl ?_
  refine TL.p (C := cx) (gc := true) (p_mv rfl) rfl rfl ?_
  refine TL.nil ?_
  refine hK5 _ _ ?_
  refine TK.block ?_
  obtain ⟨o6, hO6, hA6⟩ := bind_some hX
  have E6 : ∀ (env : Env) (h : Hp), (∃ _u : Unit, keepE [] env = [] ∧ Nd [] ∧ HSub [] h) → X.slices_IndexFunc_Lstring_string_e6 = some r → K4 env h := by
    intro  env h hE hX
    obtain ⟨_u, henv, nd, hs⟩ := hE
    unfold X.slices_IndexFunc_Lstring_string_e6 at hX
    refine hK4 _ _ (TK.keep [] ?_)
    rw [henv]
    refine TK.subH hs ?_
    refine TK.seq_k fun K8 hK8 => ?_
    refine TK.reg ?_
    refine TL.p (C := cx) (gc := true) (p_mv rfl) rfl rfl ?_
    refine TL.nil ?_
    refine hK8 _ _ ?_
    refine TK.ret ?_
    try dsimp only [thenQ]
    exact ret1 (v := Enc.v (((-1) : Int) : Int)) rfl (by obtain rfl := some_in hX; rfl) (v_val _)
  refine TK.iter [0, 1, 7, 8] (fun s env h => match s with | x7 => ∃ _u : Unit, env = [(0, true, Enc.v (s1 : (List Str))), (1, true, .fn g2f g2m g2c), (7, true, Enc.v ((s1.length : Int) : Int)), (8, true, Enc.v (x7 : Int))] ∧ Nd [] ∧ HSub [] h) hO6 ⟨(), rfl, Nd_nil, HSub.refl _⟩ ?_
  rintro x7 env h x6x ⟨_u, rfl, nd, hs⟩ hX hR6
  refine TK.subH hs ?_
  unfold X.slices_IndexFunc_Lstring_string_s6 at hX
  try dsimp only at hX
  refine TK.seq_k fun K9 hK9 => ?_
  refine TK.reg ?_
  refine TL.p (C := cx) (gc := true) (p_lss rfl rfl) rfl rfl ?_
  refine TL.nil ?_
  refine hK9 _ _ ?_
  refine TK.seq_k fun K10 hK10 => ?_
  refine TK.cond (b := (decide (x7 < (s1.length : Int)))) rfl (fun hc => ?_) (fun hc => ?_)
  · have hX := ite_t hc hX
    refine TK.skip ?_
    refine hK10 _ _ ?_
    refine TK.seq_k fun K11 hK11 => ?_
    refine TK.block ?_
    refine TK.seq_k fun K12 hK12 => ?_
    refine TK.reg ?_
    refine TL.p (C := cx) (gc := true) (p_mv rfl) rfl rfl ?_
    refine TL.p (C := cx) (gc := true) (p_mv rfl) rfl rfl ?_
    refine TL.nil ?_
    refine hK12 _ _ ?_
    refine TK.seq_k fun K13 hK13 => ?_
    refine TK.reg ?_
    refine TL.p (C := cx) (gc := true) (p_mv rfl) rfl rfl ?_
    refine TL.p (C := cx) (gc := true) (p_mv rfl) rfl rfl ?_
    refine TL.p (C := cx) (gc := true) (p_mv rfl) rfl rfl ?_
    obtain ⟨e14, he14, hX⟩ := bind_some hX
    refine TL.p (C := cx) (gc := true) (p_iaL (xs := s1) kd25 ty9 rfl rfl rfl (fun _ => he14)) rfl rfl ?_
    refine TL.p (C := cx) (gc := true) (p_ldE (xs := s1) (a := e14) (e14 : Str) ty9 rfl rfl (fun _ => he14) rfl rfl rfl) rfl rfl ?_
    obtain ⟨r15, hr15, hX⟩ := bind_some hX
    refine TL.cvX rfl rfl rfl (fun _ => ⟨rfl, ⟨rfl, trivial⟩⟩) (fun e => hg2 e14 _ hr15) ?_
    refine TL.nil ?_
    refine hK13 _ _ ?_
    refine TK.cond (b := r15) rfl (fun hc => ?_) (fun hc => ?_)
    · have hX := ite_t hc hX
      refine TK.seq_k fun K16 hK16 => ?_
      refine TK.reg ?_
      refine TL.p (C := cx) (gc := true) (p_mv rfl) rfl rfl ?_
      refine TL.p (C := cx) (gc := true) (p_mv rfl) rfl rfl ?_
      refine TL.nil ?_
      refine hK16 _ _ ?_
      refine TK.ret ?_
      obtain rfl := hR6 _ (some_in hX).symm
      replace hX := hA6
      try dsimp only [thenQ]
      exact ret1 (v := Enc.v (x7 : Int)) rfl (by obtain rfl := some_in hX; rfl) (v_val _)
    · have hX := ite_f hc hX
      refine TK.skip ?_
      refine hK11 _ _ ?_
      refine TK.reg ?_
      refine TL.p (C := cx) (gc := true) (p_add rfl rfl) rfl rfl ?_
      refine TL.p (C := cx) (gc := true) (p_mv rfl) rfl rfl ?_
      refine TL.nil ?_
      exact ⟨_, (some_in hX).symm, (), rfl, Nd_nil, HSub.refl _⟩
  · have hX := ite_f hc hX
    refine TK.exit ?_
    obtain rfl := hR6 _ (some_in hX).symm
    exact E6 _ _ ⟨(), rfl, Nd_nil, HSub.refl _⟩ hA6

/-- slices.ContainsFunc[[]string,string] -/
theorem ok_slices_ContainsFunc_Lstring_string (s1 : (List Str)) (g2 : Str → Option Bool) (r : Bool) (hX : X.slices_ContainsFunc_Lstring_string s1 g2 = some r) {g2V : AV} (hg2V : ∃ f m c, g2V = .fn f m c ∧ (∀ i, i < m → (c i).val) ∧ ∀ (a0 : Str) r, g2 a0 = some r → Fun Tryd.prog f ([Enc.v a0] ++ (List.range m).map c) (· = Enc.v r)) : Fun Tryd.prog 33 [Enc.v (s1 : (List Str)), g2V] (· = Enc.v (r : Bool)) := by
  obtain ⟨g2f, g2m, g2c, rfl, hg2v, hg2⟩ := hg2V
  refine Fun.of b33 (Nat.le_of_ble_eq_true rfl) (allVal.mem ⟨(by exact (v_val _)), hg2v, trivial⟩) ?_
  unfold k33
  have nd : Nd [] := Nd_nil
  unfold X.slices_ContainsFunc_Lstring_string at hX
  refine TK.seq_k fun K3 hK3 => ?_
  refine TK.reg ?_
  refine TL.p (C := cx) (gc := true) (p_mv rfl) rfl rfl ?_
  refine TL.nil ?_
  refine hK3 _ _ ?_
  refine TK.seq_k fun K4 hK4 => ?_
  refine TK.reg ?_
  refine TL.p (C := cx) (gc := true) (p_mv rfl) rfl rfl ?_
  refine TL.p (C := cx) (gc := true) (p_mv rfl) rfl rfl ?_
  obtain ⟨r5, hr5, hX⟩ := bind_some hX
  refine TL.cvX rfl rfl rfl (fun _ => ⟨rfl, ⟨rfl, ⟨rfl, trivial⟩⟩⟩) (fun e => ok_slices_IndexFunc_Lstring_string s1 g2 _ hr5 ⟨_, _, _, rfl, hg2v, hg2⟩) ?_
  refine TL.p (C := cx) (gc := true) (p_geq rfl rfl) rfl rfl ?_
  refine TL.p (C := cx) (gc := true) (p_mv rfl) rfl rfl ?_
  refine TL.nil ?_
  refine hK4 _ _ ?_
  refine TK.ret ?_
  try dsimp only [thenQ]
  exact ret1 (v := Enc.v ((decide (r5 ≥ (0 : Int))) : Bool)) rfl (by obtain rfl := some_in hX; rfl) (v_val _)

/-- strings.indexFunc -/
theorem ok_strings_indexFunc (s1 : Str) (g2 : I32 → Option Bool) (truth3 : Bool) (r : Int) (hX : X.strings_indexFunc s1 g2 truth3 = some r) {g2V : AV} (hg2V : ∃ f m c, g2V = .fn f m c ∧ (∀ i, i < m → (c i).val) ∧ ∀ (a0 : I32) r, g2 a0 = some r → Fun Tryd.prog f ([Enc.v a0] ++ (List.range m).map c) (· = Enc.v r)) : Fun Tryd.prog 75 [Enc.v s1, g2V, Enc.v truth3] (· = Enc.v r) := by
  unfold X.strings_indexFunc at hX
  split at hX
  · rename_i ht
    injection hX with hX
    subst hX
    exact fun_indexFunc (Enters.of Tryd.func75 (by kernel_rfl) (by kernel_rfl)) (fun g lb eg p truth s w hp => Go.Proofs.Tryd.strings_indexFunc_grows g lb eg p truth s w hp) hg2V ht
  · cases hX

/-- strings.IndexFunc -/
theorem ok_strings_IndexFunc (s1 : Str) (g2 : I32 → Option Bool) (r : Int) (hX : X.strings_IndexFunc s1 g2 = some r) {g2V : AV} (hg2V : ∃ f m c, g2V = .fn f m c ∧ (∀ i, i < m → (c i).val) ∧ ∀ (a0 : I32) r, g2 a0 = some r → Fun Tryd.prog f ([Enc.v a0] ++ (List.range m).map c) (· = Enc.v r)) : Fun Tryd.prog 70 [Enc.v (s1 : Str), g2V] (· = Enc.v (r : Int)) := by
  obtain ⟨g2f, g2m, g2c, rfl, hg2v, hg2⟩ := hg2V
  refine Fun.of b70 (Nat.le_of_ble_eq_true rfl) (allVal.mem ⟨(by exact (v_val _)), hg2v, trivial⟩) ?_
  unfold k70
  have nd : Nd [] := Nd_nil
  unfold X.strings_IndexFunc at hX
  refine TK.seq_k fun K3 hK3 => ?_
  refine TK.reg ?_
  refine TL.p (C := cx) (gc := true) (p_mv rfl) rfl rfl ?_
  refine TL.nil ?_
  refine hK3 _ _ ?_
  refine TK.seq_k fun K4 hK4 => ?_
  refine TK.reg ?_
  refine TL.p (C := cx) (gc := true) (p_mv rfl) rfl rfl ?_
  refine TL.p (C := cx) (gc := true) (p_mv rfl) rfl rfl ?_
  obtain ⟨r5, hr5, hX⟩ := bind_some hX
  refine TL.cvX rfl rfl rfl (fun _ => ⟨rfl, ⟨rfl, ⟨rfl, ⟨rfl, trivial⟩⟩⟩⟩) (fun e => ok_strings_indexFunc s1 g2 true _ hr5 ⟨_, _, _, rfl, hg2v, hg2⟩) ?_
  refine TL.p (C := cx) (gc := true) (p_mv rfl) rfl rfl ?_
  refine TL.nil ?_
  refine hK4 _ _ ?_
  refine TK.ret ?_
  try dsimp only [thenQ]
  exact ret1 (v := Enc.v (r5 : Int)) rfl (by obtain rfl := some_in hX; rfl) (v_val _)

/-- strings.ContainsFunc -/
theorem ok_strings_ContainsFunc (s1 : Str) (g2 : I32 → Option Bool) (r : Bool) (hX : X.strings_ContainsFunc s1 g2 = some r) {g2V : AV} (hg2V : ∃ f m c, g2V = .fn f m c ∧ (∀ i, i < m → (c i).val) ∧ ∀ (a0 : I32) r, g2 a0 = some r → Fun Tryd.prog f ([Enc.v a0] ++ (List.range m).map c) (· = Enc.v r)) : Fun Tryd.prog 60 [Enc.v (s1 : Str), g2V] (· = Enc.v (r : Bool)) := by
  obtain ⟨g2f, g2m, g2c, rfl, hg2v, hg2⟩ := hg2V
  refine Fun.of b60 (Nat.le_of_ble_eq_true rfl) (allVal.mem ⟨(by exact (v_val _)), hg2v, trivial⟩) ?_
  unfold k60
  have nd : Nd [] := Nd_nil
  unfold X.strings_ContainsFunc at hX
  refine TK.seq_k fun K3 hK3 => ?_
  refine TK.reg ?_
  refine TL.p (C := cx) (gc := true) (p_mv rfl) rfl rfl ?_
  refine TL.nil ?_
  refine hK3 _ _ ?_
  refine TK.seq_k fun K4 hK4 => ?_
  refine TK.reg ?_
  refine TL.p (C := cx) (gc := true) (p_mv rfl) rfl rfl ?_
  refine TL.p (C := cx) (gc := true) (p_mv rfl) rfl rfl ?_
  obtain ⟨r5, hr5, hX⟩ := bind_some hX
  refine TL.cvX rfl rfl rfl (fun _ => ⟨rfl, ⟨rfl, ⟨rfl, trivial⟩⟩⟩) (fun e => ok_strings_IndexFunc s1 g2 _ hr5 ⟨_, _, _, rfl, hg2v, hg2⟩) ?_
  refine TL.p (C := cx) (gc := true) (p_geq rfl rfl) rfl rfl ?_
  refine TL.p (C := cx) (gc := true) (p_mv rfl) rfl rfl ?_
  refine TL.nil ?_
  refine hK4 _ _ ?_
  refine TK.ret ?_
  try dsimp only [thenQ]
  exact ret1 (v := Enc.v ((decide (r5 ≥ (0 : Int))) : Bool)) rfl (by obtain rfl := some_in hX; rfl) (v_val _)

/-- cartridge/path.other -/
theorem ok_path_other (c1 : I32) (r : Bool) (hX : X.path_other c1 = some r) : Fun Tryd.prog 61 [Enc.v (c1 : I32)] (· = Enc.v (r : Bool)) := by
  refine Fun.of b61 (Nat.le_of_ble_eq_true rfl) (allVal.mem ⟨(by exact (v_val _)), trivial⟩) ?_
  unfold k61
  have nd : Nd [] := Nd_nil
  unfold X.path_other at hX
  refine TK.seq_k fun K2 hK2 => ?_
  refine TK.reg ?_
  refine TL.p (C := cx) (gc := true) (p_mv rfl) rfl rfl ?_
  refine TL.nil ?_
  refine hK2 _ _ ?_
  refine TK.seq_k fun K3 hK3 => ?_
  refine TK.reg ?_
  refine TL.p (C := cx) (gc := true) (p_mv rfl) rfl rfl ?_
  refine TL.p (C := cx) (gc := true) (p_lss (a := c1.n) (b := (I32.mk (97)).n) rfl rfl) rfl rfl ?_
  refine TL.p (C := cx) (gc := true) (p_mv rfl) rfl rfl ?_
  refine TL.p (C := cx) (gc := (!((decide (c1.n < (I32.mk (97)).n))))) (p_mv rfl (hg := fun e => rfl)) (gcF1 rfl) rfl ?_
  refine TL.p (C := cx) (gc := (!((decide (c1.n < (I32.mk (97)).n))))) (p_gtr (a := c1.n) (b := (I32.mk (122)).n) rfl rfl (hg := fun e => ⟨e, rfl⟩)) (gcF1 rfl) rfl ?_
  refine TL.p (C := cx) (gc := true) (p_or rfl rfl (fun e => ⟨rfl, fun h => (not_t h)⟩)) rfl rfl ?_
  refine TL.p (C := cx) (gc := true) (p_mv rfl) rfl rfl ?_
  refine TL.p (C := cx) (gc := (((decide (c1.n < (I32.mk (97)).n)) || (decide (c1.n > (I32.mk (122)).n))))) (p_mv rfl (hg := fun e => rfl)) (gcT1 rfl) rfl ?_
  refine TL.p (C := cx) (gc := (((decide (c1.n < (I32.mk (97)).n)) || (decide (c1.n > (I32.mk (122)).n))))) (p_lss (a := c1.n) (b := (I32.mk (48)).n) rfl rfl (hg := fun e => ⟨e, rfl⟩)) (gcT1 rfl) rfl ?_
  refine TL.p (C := cx) (gc := (((decide (c1.n < (I32.mk (97)).n)) || (decide (c1.n > (I32.mk (122)).n))))) (p_mv rfl (hg := fun e => e)) (gcT1 rfl) rfl ?_
  refine TL.p (C := cx) (gc := ((((decide (c1.n < (I32.mk (97)).n)) || (decide (c1.n > (I32.mk (122)).n)))) && (!((decide (c1.n < (I32.mk (48)).n)))))) (p_mv rfl (hg := fun e => rfl)) (gcF rfl) rfl ?_
  refine TL.p (C := cx) (gc := ((((decide (c1.n < (I32.mk (97)).n)) || (decide (c1.n > (I32.mk (122)).n)))) && (!((decide (c1.n < (I32.mk (48)).n)))))) (p_gtr (a := c1.n) (b := (I32.mk (57)).n) rfl rfl (hg := fun e => ⟨e, rfl⟩)) (gcF rfl) rfl ?_
  refine TL.p (C := cx) (gc := (((decide (c1.n < (I32.mk (97)).n)) || (decide (c1.n > (I32.mk (122)).n))))) (p_or rfl rfl (fun e => ⟨e, fun h => (and_i e (not_t h))⟩)) (gcT1 rfl) rfl ?_
  refine TL.p (C := cx) (gc := true) (p_and rfl rfl (fun e => ⟨rfl, fun h => h⟩)) rfl rfl ?_
  refine TL.p (C := cx) (gc := true) (p_mv rfl) rfl rfl ?_
  refine TL.p (C := cx) (gc := ((((decide (c1.n < (I32.mk (97)).n)) || (decide (c1.n > (I32.mk (122)).n))) && ((decide (c1.n < (I32.mk (48)).n)) || (decide (c1.n > (I32.mk (57)).n)))))) (p_mv rfl (hg := fun e => rfl)) (gcT1 rfl) rfl ?_
  refine TL.p (C := cx) (gc := ((((decide (c1.n < (I32.mk (97)).n)) || (decide (c1.n > (I32.mk (122)).n))) && ((decide (c1.n < (I32.mk (48)).n)) || (decide (c1.n > (I32.mk (57)).n)))))) (p_neq (a := c1.n) (b := (I32.mk (46)).n) rfl rfl (hg := fun e => ⟨e, rfl⟩)) (gcT1 rfl) rfl ?_
  refine TL.p (C := cx) (gc := true) (p_and rfl rfl (fun e => ⟨rfl, fun h => h⟩)) rfl rfl ?_
  refine TL.p (C := cx) (gc := true) (p_mv rfl) rfl rfl ?_
  refine TL.p (C := cx) (gc := (((((decide (c1.n < (I32.mk (97)).n)) || (decide (c1.n > (I32.mk (122)).n))) && ((decide (c1.n < (I32.mk (48)).n)) || (decide (c1.n > (I32.mk (57)).n)))) && (c1.n != (I32.mk (46)).n)))) (p_mv rfl (hg := fun e => rfl)) (gcT1 rfl) rfl ?_
  refine TL.p (C := cx) (gc := (((((decide (c1.n < (I32.mk (97)).n)) || (decide (c1.n > (I32.mk (122)).n))) && ((decide (c1.n < (I32.mk (48)).n)) || (decide (c1.n > (I32.mk (57)).n)))) && (c1.n != (I32.mk (46)).n)))) (p_neq (a := c1.n) (b := (I32.mk (45)).n) rfl rfl (hg := fun e => ⟨e, rfl⟩)) (gcT1 rfl) rfl ?_
  refine TL.p (C := cx) (gc := true) (p_and rfl rfl (fun e => ⟨rfl, fun h => h⟩)) rfl rfl ?_
  refine TL.p (C := cx) (gc := true) (p_mv rfl) rfl rfl ?_
  refine TL.p (C := cx) (gc := ((((((decide (c1.n < (I32.mk (97)).n)) || (decide (c1.n > (I32.mk (122)).n))) && ((decide (c1.n < (I32.mk (48)).n)) || (decide (c1.n > (I32.mk (57)).n)))) && (c1.n != (I32.mk (46)).n)) && (c1.n != (I32.mk (45)).n)))) (p_mv rfl (hg := fun e => rfl)) (gcT1 rfl) rfl ?_
  refine TL.p (C := cx) (gc := ((((((decide (c1.n < (I32.mk (97)).n)) || (decide (c1.n > (I32.mk (122)).n))) && ((decide (c1.n < (I32.mk (48)).n)) || (decide (c1.n > (I32.mk (57)).n)))) && (c1.n != (I32.mk (46)).n)) && (c1.n != (I32.mk (45)).n)))) (p_neq (a := c1.n) (b := (I32.mk (95)).n) rfl rfl (hg := fun e => ⟨e, rfl⟩)) (gcT1 rfl) rfl ?_
  refine TL.p (C := cx) (gc := true) (p_and rfl rfl (fun e => ⟨rfl, fun h => h⟩)) rfl rfl ?_
  refine TL.p (C := cx) (gc := true) (p_mv rfl) rfl rfl ?_
  refine TL.nil ?_
  refine hK3 _ _ ?_
  refine TK.ret ?_
  try dsimp only [thenQ]
  exact ret1 (v := Enc.v (((((((decide (c1.n < (I32.mk (97)).n)) || (decide (c1.n > (I32.mk (122)).n))) && ((decide (c1.n < (I32.mk (48)).n)) || (decide (c1.n > (I32.mk (57)).n)))) && (c1.n != (I32.mk (46)).n)) && (c1.n != (I32.mk (45)).n)) && (c1.n != (I32.mk (95)).n)) : Bool)) rfl (by obtain rfl := some_in hX; rfl) (v_val _)

/-- cartridge/path.wrong -/
theorem ok_path_wrong (s1 : Str) (r : Bool) (hX : X.path_wrong s1 = some r) : Fun Tryd.prog 35 [Enc.v (s1 : Str)] (· = Enc.v (r : Bool)) := by
  refine Fun.of b35 (Nat.le_of_ble_eq_true rfl) (allVal.mem ⟨(by exact (v_val _)), trivial⟩) ?_
  unfold k35
  have nd : Nd [] := Nd_nil
  unfold X.path_wrong at hX
  refine TK.seq_k fun K2 hK2 => ?_
  refine TK.reg ?_
  refine TL.p (C := cx) (gc := true) (p_mv rfl) rfl rfl ?_
  refine TL.nil ?_
  refine hK2 _ _ ?_
  refine TK.seq_k fun K3 hK3 => ?_
  refine TK.reg ?_
  refine TL.p (C := cx) (gc := true) (p_mv rfl) rfl rfl ?_
  refine TL.p (C := cx) (gc := true) (ps_eql (s := s1) (r := (Str.mk [])) rfl rfl) rfl rfl ?_
  refine TL.p (C := cx) (gc := true) (p_mv rfl) rfl rfl ?_
  refine TL.p (C := cx) (gc := (!((s1.l == (Str.mk []).l)))) (p_mv rfl (hg := fun e => rfl)) (gcF1 rfl) rfl ?_
  refine TL.p (C := cx) (gc := (!((s1.l == (Str.mk []).l)))) (ps_eql (s := s1) (r := (Str.mk [46])) rfl rfl (hg := fun e => ⟨e, rfl⟩)) (gcF1 rfl) rfl ?_
  refine TL.p (C := cx) (gc := true) (p_or rfl rfl (fun e => ⟨rfl, fun h => (not_t h)⟩)) rfl rfl ?_
  refine TL.p (C := cx) (gc := true) (p_mv rfl) rfl rfl ?_
  refine TL.p (C := cx) (gc := (!(((s1.l == (Str.mk []).l) || (s1.l == (Str.mk [46]).l))))) (p_mv rfl (hg := fun e => rfl)) (gcF1 rfl) rfl ?_
  refine TL.p (C := cx) (gc := (!(((s1.l == (Str.mk []).l) || (s1.l == (Str.mk [46]).l))))) (ps_eql (s := s1) (r := (Str.mk [46, 46])) rfl rfl (hg := fun e => ⟨e, rfl⟩)) (gcF1 rfl) rfl ?_
  refine TL.p (C := cx) (gc := true) (p_or rfl rfl (fun e => ⟨rfl, fun h => (not_t h)⟩)) rfl rfl ?_
  refine TL.p (C := cx) (gc := true) (p_mv rfl) rfl rfl ?_
  refine TL.p (C := cx) (gc := (!((((s1.l == (Str.mk []).l) || (s1.l == (Str.mk [46]).l)) || (s1.l == (Str.mk [46, 46]).l))))) (p_mv rfl (hg := fun e => rfl)) (gcF1 rfl) rfl ?_
  obtain ⟨r4, hr4, hX⟩ := bind_some hX
  refine TL.cvX (gcF1 rfl) rfl rfl (fun e => ⟨rfl, ⟨e, ⟨rfl, trivial⟩⟩⟩) (fun e => ok_strings_ContainsFunc s1 (fun a1 => X.path_other a1) _ (optG_t hr4 e) ⟨61, 0, ofL [], rfl, (fun i hi => by cases hi), fun a1 r hr => ok_path_other a1 r hr⟩) ?_
  refine TL.p (C := cx) (gc := true) (p_or rfl rfl (fun e => ⟨rfl, fun h => (not_t h)⟩)) rfl rfl ?_
  refine TL.p (C := cx) (gc := true) (p_mv rfl) rfl rfl ?_
  refine TL.nil ?_
  refine hK3 _ _ ?_
  refine TK.ret ?_
  try dsimp only [thenQ]
  exact ret1 (v := Enc.v (((((s1.l == (Str.mk []).l) || (s1.l == (Str.mk [46]).l)) || (s1.l == (Str.mk [46, 46]).l)) || r4) : Bool)) rfl (by obtain rfl := some_in hX; rfl) (v_val _)

/-- cartridge/path.Right -/
theorem ok_path_Right (s1 : Str) (r : Bool) (hX : X.path_Right s1 = some r) : Fun Tryd.prog 11 [Enc.v (s1 : Str)] (· = Enc.v (r : Bool)) := by
  refine Fun.of b11 (Nat.le_of_ble_eq_true rfl) (allVal.mem ⟨(by exact (v_val _)), trivial⟩) ?_
  unfold k11
  have nd : Nd [] := Nd_nil
  unfold X.path_Right at hX
  refine TK.seq_k fun K2 hK2 => ?_
  refine TK.reg ?_
  refine TL.p (C := cx) (gc := true) (p_mv rfl) rfl rfl ?_
  refine TL.nil ?_
  refine hK2 _ _ ?_
  refine TK.seq_k fun K3 hK3 => ?_
  refine TK.reg ?_
  refine TL.p (C := cx) (gc := true) (p_mv rfl) rfl rfl ?_
  refine TL.p (C := cx) (gc := true) (p_lenS (s := s1) kd9 rfl) rfl rfl ?_
  refine TL.p (C := cx) (gc := true) (p_leq rfl rfl) rfl rfl ?_
  refine TL.p (C := cx) (gc := true) (p_mv rfl) rfl rfl ?_
  refine TL.p (C := cx) (gc := ((decide ((s1.l.length : Int) ≤ (24 : Int))))) (p_mv rfl (hg := fun e => rfl)) (gcT1 rfl) rfl ?_
  obtain ⟨r4, hr4, hX⟩ := bind_some hX
  refine TL.cvX (gcT1 rfl) rfl rfl (fun e => ⟨rfl, ⟨e, ⟨rfl, trivial⟩⟩⟩) (fun e => ok_strings_Split_k47 s1 _ (optG_t hr4 e)) ?_
  obtain ⟨r5, hr5, hX⟩ := bind_some hX
  refine TL.cvX (gcT1 rfl) rfl rfl (fun e => ⟨rfl, ⟨e, ⟨rfl, trivial⟩⟩⟩) (fun e => ok_slices_ContainsFunc_Lstring_string r4 (fun a1 => X.path_wrong a1) _ (optG_t hr5 e) ⟨35, 0, ofL [], rfl, (fun i hi => by cases hi), fun a1 r hr => ok_path_wrong a1 r hr⟩) ?_
  refine TL.p (C := cx) (gc := ((decide ((s1.l.length : Int) ≤ (24 : Int))))) (p_not rfl (hg := fun e => e)) (gcT1 rfl) rfl ?_
  refine TL.p (C := cx) (gc := true) (p_and rfl rfl (fun e => ⟨rfl, fun h => h⟩)) rfl rfl ?_
  refine TL.p (C := cx) (gc := true) (p_mv rfl) rfl rfl ?_
  refine TL.nil ?_
  refine hK3 _ _ ?_
  refine TK.ret ?_
  try dsimp only [thenQ]
  exact ret1 (v := Enc.v (((decide ((s1.l.length : Int) ≤ (24 : Int))) && (!r5)) : Bool)) rfl (by obtain rfl := some_in hX; rfl) (v_val _)

/-- internal/stringslite.HasPrefix -/
theorem ok_stringslite_HasPrefix (s1 : Str) (prefix2 : Str) (r : Bool) (hX : X.stringslite_HasPrefix s1 prefix2 = some r) : Fun Tryd.prog 62 [Enc.v (s1 : Str), Enc.v (prefix2 : Str)] (· = Enc.v (r : Bool)) := by
  refine Fun.of b62 (Nat.le_of_ble_eq_true rfl) (allVal.mem ⟨(by exact (v_val _)), (by exact (v_val _)), trivial⟩) ?_
  unfold k62
  have nd : Nd [] := Nd_nil
  unfold X.stringslite_HasPrefix at hX
  refine TK.seq_k fun K3 hK3 => ?_
  refine TK.reg ?_
  refine TL.p (C := cx) (gc := true) (p_mv rfl) rfl rfl ?_
  refine TL.nil ?_
  refine hK3 _ _ ?_
  refine TK.seq_k fun K4 hK4 => ?_
  refine TK.reg ?_
  refine TL.p (C := cx) (gc := true) (p_mv rfl) rfl rfl ?_
  refine TL.p (C := cx) (gc := true) (p_lenS (s := s1) kd9 rfl) rfl rfl ?_
  refine TL.p (C := cx) (gc := true) (p_mv rfl) rfl rfl ?_
  refine TL.p (C := cx) (gc := true) (p_lenS (s := prefix2) kd9 rfl) rfl rfl ?_
  refine TL.p (C := cx) (gc := true) (p_geq rfl rfl) rfl rfl ?_
  refine TL.p (C := cx) (gc := true) (p_mv rfl) rfl rfl ?_
  refine TL.p (C := cx) (gc := ((decide ((s1.l.length : Int) ≥ (prefix2.l.length : Int))))) (p_mv rfl (hg := fun e => rfl)) (gcT1 rfl) rfl ?_
  refine TL.p (C := cx) (gc := ((decide ((s1.l.length : Int) ≥ (prefix2.l.length : Int))))) (p_mv rfl (hg := fun e => rfl)) (gcT1 rfl) rfl ?_
  refine TL.p (C := cx) (gc := ((decide ((s1.l.length : Int) ≥ (prefix2.l.length : Int))))) (p_lenS (s := prefix2) kd9 rfl (hg := fun e => e)) (gcT1 rfl) rfl ?_
  obtain ⟨u5, hu5, hX⟩ := bind_some hX
  refine TL.p (C := cx) (gc := ((decide ((s1.l.length : Int) ≥ (prefix2.l.length : Int))))) (p_sliS (s := s1) (l := (0 : Int)) (k := (prefix2.l.length : Int)) kd9 rfl rfl (fun n hn => rfl) (fun e => need_t (optG_t hu5 e)) (hg := fun e => ⟨e, rfl, e⟩)) (gcT1 rfl) rfl ?_
  refine TL.p (C := cx) (gc := ((decide ((s1.l.length : Int) ≥ (prefix2.l.length : Int))))) (p_mv rfl (hg := fun e => rfl)) (gcT1 rfl) rfl ?_
  refine TL.p (C := cx) (gc := ((decide ((s1.l.length : Int) ≥ (prefix2.l.length : Int))))) (ps_eql (s := (Str.mk (slc s1.l (0 : Int) (prefix2.l.length : Int)))) (r := prefix2) rfl rfl (hg := fun e => ⟨e, e⟩)) (gcT1 rfl) rfl ?_
  refine TL.p (C := cx) (gc := true) (p_and rfl rfl (fun e => ⟨rfl, fun h => h⟩)) rfl rfl ?_
  refine TL.p (C := cx) (gc := true) (p_mv rfl) rfl rfl ?_
  refine TL.nil ?_
  refine hK4 _ _ ?_
  refine TK.ret ?_
  try dsimp only [thenQ]
  exact ret1 (v := Enc.v (((decide ((s1.l.length : Int) ≥ (prefix2.l.length : Int))) && ((Str.mk (slc s1.l (0 : Int) (prefix2.l.length : Int))).l == prefix2.l)) : Bool)) rfl (by obtain rfl := some_in hX; rfl) (v_val _)

/-- strings.HasPrefix -/
theorem ok_strings_HasPrefix (s1 : Str) (prefix2 : Str) (r : Bool) (hX : X.strings_HasPrefix s1 prefix2 = some r) : Fun Tryd.prog 36 [Enc.v (s1 : Str), Enc.v (prefix2 : Str)] (· = Enc.v (r : Bool)) := by
  refine Fun.of b36 (Nat.le_of_ble_eq_true rfl) (allVal.mem ⟨(by exact (v_val _)), (by exact (v_val _)), trivial⟩) ?_
  unfold k36
  have nd : Nd [] := Nd_nil
  unfold X.strings_HasPrefix at hX
  refine TK.seq_k fun K3 hK3 => ?_
  refine TK.reg ?_
  refine TL.p (C := cx) (gc := true) (p_mv rfl) rfl rfl ?_
  refine TL.nil ?_
  refine hK3 _ _ ?_
  refine TK.seq_k fun K4 hK4 => ?_
  refine TK.reg ?_
  refine TL.p (C := cx) (gc := true) (p_mv rfl) rfl rfl ?_
  refine TL.p (C := cx) (gc := true) (p_mv rfl) rfl rfl ?_
  obtain ⟨r5, hr5, hX⟩ := bind_some hX
  refine TL.cvX rfl rfl rfl (fun _ => ⟨rfl, ⟨rfl, ⟨rfl, trivial⟩⟩⟩) (fun e => ok_stringslite_HasPrefix s1 prefix2 _ hr5) ?_
  refine TL.p (C := cx) (gc := true) (p_mv rfl) rfl rfl ?_
  refine TL.nil ?_
  refine hK4 _ _ ?_
  refine TK.ret ?_
  try dsimp only [thenQ]
  exact ret1 (v := Enc.v (r5 : Bool)) rfl (by obtain rfl := some_in hX; rfl) (v_val _)

/-- cartridge/path.Within -/
theorem ok_path_Within (s1 : Str) (dir2 : Str) (r : Bool) (hX : X.path_Within s1 dir2 = some r) : Fun Tryd.prog 16 [Enc.v (s1 : Str), Enc.v (dir2 : Str)] (· = Enc.v (r : Bool)) := by
  refine Fun.of b16 (Nat.le_of_ble_eq_true rfl) (allVal.mem ⟨(by exact (v_val _)), (by exact (v_val _)), trivial⟩) ?_
  unfold k16
  have nd : Nd [] := Nd_nil
  unfold X.path_Within at hX
  refine TK.seq_k fun K3 hK3 => ?_
  refine TK.reg ?_
  refine TL.p (C := cx) (gc := true) (p_mv rfl) rfl rfl ?_
  refine TL.nil ?_
  refine hK3 _ _ ?_
  refine TK.seq_k fun K4 hK4 => ?_
  refine TK.reg ?_
  refine TL.p (C := cx) (gc := true) (p_mv rfl) rfl rfl ?_
  obtain ⟨r5, hr5, hX⟩ := bind_some hX
  refine TL.cvX rfl rfl rfl (fun _ => ⟨rfl, ⟨rfl, trivial⟩⟩) (fun e => ok_path_Right s1 _ hr5) ?_
  refine TL.p (C := cx) (gc := true) (p_mv rfl) rfl rfl ?_
  refine TL.p (C := cx) (gc := r5) (p_mv rfl (hg := fun e => rfl)) (gcT1 rfl) rfl ?_
  obtain ⟨r6, hr6, hX⟩ := bind_some hX
  refine TL.cvX (gcT1 rfl) rfl rfl (fun e => ⟨rfl, ⟨e, trivial⟩⟩) (fun e => ok_path_Right dir2 _ (optG_t hr6 e)) ?_
  refine TL.p (C := cx) (gc := true) (p_and rfl rfl (fun e => ⟨rfl, fun h => h⟩)) rfl rfl ?_
  refine TL.p (C := cx) (gc := true) (p_mv rfl) rfl rfl ?_
  refine TL.p (C := cx) (gc := ((r5 && r6))) (p_mv rfl (hg := fun e => rfl)) (gcT1 rfl) rfl ?_
  refine TL.p (C := cx) (gc := ((r5 && r6))) (p_mv rfl (hg := fun e => rfl)) (gcT1 rfl) rfl ?_
  refine TL.p (C := cx) (gc := ((r5 && r6))) (ps_eql (s := s1) (r := dir2) rfl rfl (hg := fun e => ⟨e, e⟩)) (gcT1 rfl) rfl ?_
  refine TL.p (C := cx) (gc := ((r5 && r6))) (p_mv rfl (hg := fun e => e)) (gcT1 rfl) rfl ?_
  refine TL.p (C := cx) (gc := (((r5 && r6)) && (!((s1.l == dir2.l))))) (p_mv rfl (hg := fun e => rfl)) (gcF rfl) rfl ?_
  refine TL.p (C := cx) (gc := (((r5 && r6)) && (!((s1.l == dir2.l))))) (p_mv rfl (hg := fun e => rfl)) (gcF rfl) rfl ?_
  obtain ⟨u7, hu7, hX⟩ := bind_some hX
  refine TL.p (C := cx) (gc := (((r5 && r6)) && (!((s1.l == dir2.l))))) (ps_add (s := dir2) (r := (Str.mk [47])) rfl rfl (hg := fun e => ⟨e, rfl⟩) (hl := fun e => need_t (optG_t hu7 e))) (gcF rfl) rfl ?_
  obtain ⟨r8, hr8, hX⟩ := bind_some hX
  refine TL.cvX (gcF rfl) rfl rfl (fun e => ⟨rfl, ⟨e, ⟨e, trivial⟩⟩⟩) (fun e => ok_strings_HasPrefix s1 (Str.mk (dir2.l ++ (Str.mk [47]).l)) _ (optG_t hr8 e)) ?_
  refine TL.p (C := cx) (gc := ((r5 && r6))) (p_or rfl rfl (fun e => ⟨e, fun h => (and_i e (not_t h))⟩)) (gcT1 rfl) rfl ?_
  refine TL.p (C := cx) (gc := true) (p_and rfl rfl (fun e => ⟨rfl, fun h => h⟩)) rfl rfl ?_
  refine TL.p (C := cx) (gc := true) (p_mv rfl) rfl rfl ?_
  refine TL.nil ?_
  refine hK4 _ _ ?_
  refine TK.ret ?_
  try dsimp only [thenQ]
  exact ret1 (v := Enc.v (((r5 && r6) && ((s1.l == dir2.l) || r8)) : Bool)) rfl (by obtain rfl := some_in hX; rfl) (v_val _)

/-- cartridge/path.Parts -/
theorem ok_path_Parts (s1 : Str) (r : (List Str)) (hX : X.path_Parts s1 = some r) : Fun Tryd.prog 14 [Enc.v (s1 : Str)] (· = Enc.v (r : (List Str))) := by
  refine Fun.of b14 (Nat.le_of_ble_eq_true rfl) (allVal.mem ⟨(by exact (v_val _)), trivial⟩) ?_
  unfold k14
  have nd : Nd [] := Nd_nil
  unfold X.path_Parts at hX
  refine TK.seq_k fun K2 hK2 => ?_
  refine TK.reg ?_
  refine TL.p (C := cx) (gc := true) (p_mv rfl) rfl rfl ?_
  refine TL.nil ?_
  refine hK2 _ _ ?_
  refine TK.seq_k fun K3 hK3 => ?_
  refine TK.seq_k fun K4 hK4 => ?_
  refine TK.reg ?_
  refine TL.p (C := cx) (gc := true) (p_mv rfl) rfl rfl ?_
  obtain ⟨r5, hr5, hX⟩ := bind_some hX
  refine TL.cvX rfl rfl rfl (fun _ => ⟨rfl, ⟨rfl, trivial⟩⟩) (fun e => ok_path_Right s1 _ hr5) ?_
  refine TL.p (C := cx) (gc := true) (p_not rfl) rfl rfl ?_
  refine TL.nil ?_
  refine hK4 _ _ ?_
  refine TK.cond (b := (!r5)) rfl (fun hc => ?_) (fun hc => ?_)
  · have hX := ite_t hc hX
    refine TK.seq_k fun K6 hK6 => ?_
    refine TK.reg ?_
    refine TL.p (C := cx) (gc := true) (p_mv rfl) rfl rfl ?_
    refine TL.nil ?_
    refine hK6 _ _ ?_
    refine TK.wk 2 (L ([] : (List Str))) rfl Wk_nil ?_
    refine TK.ret ?_
    try dsimp only [thenQ]
    exact ret1 (v := Enc.v (([] : (List Str)) : (List Str))) rfl (by obtain rfl := some_in hX; rfl) (v_val _)
  · have hX := ite_f hc hX
    refine TK.skip ?_
    refine hK3 _ _ ?_
    refine TK.seq_k fun K7 hK7 => ?_
    refine TK.reg ?_
    refine TL.p (C := cx) (gc := true) (p_mv rfl) rfl rfl ?_
    obtain ⟨r8, hr8, hX⟩ := bind_some hX
    refine TL.cvX rfl rfl rfl (fun _ => ⟨rfl, ⟨rfl, ⟨rfl, trivial⟩⟩⟩) (fun e => ok_strings_Split_k47 s1 _ hr8) ?_
    refine TL.p (C := cx) (gc := true) (p_mv rfl) rfl rfl ?_
    refine TL.nil ?_
    refine hK7 _ _ ?_
    refine TK.ret ?_
    try dsimp only [thenQ]
    exact ret1 (v := Enc.v (r8 : (List Str))) rfl (by obtain rfl := some_in hX; rfl) (v_val _)

/-- cartridge/cartridgelaw5.alive -/
theorem ok_cartridgelaw5_alive  (r : Bool) (hX : X.cartridgelaw5_alive = some r) : Fun Tryd.prog 10 [] (· = Enc.v (r : Bool)) := by
  refine Fun.of b10 (Nat.le_of_ble_eq_true rfl) (fun x hx => by cases hx) ?_
  unfold k10
  have nd : Nd [] := Nd_nil
  unfold X.cartridgelaw5_alive at hX
  refine TK.seq_k fun K1 hK1 => ?_
  refine TK.reg ?_
  refine TL.p (C := cx) (gc := true) (p_mv rfl) rfl rfl ?_
  refine TL.nil ?_
  refine hK1 _ _ ?_
  refine TK.seq_k fun K2 hK2 => ?_
  refine TK.reg ?_
  obtain ⟨r3, hr3, hX⟩ := bind_some hX
  refine TL.cvX rfl rfl rfl (fun _ => ⟨rfl, ⟨rfl, trivial⟩⟩) (fun e => ok_path_Right (Str.mk [97, 47, 98]) _ hr3) ?_
  refine TL.p (C := cx) (gc := true) (p_mv rfl) rfl rfl ?_
  obtain ⟨r4, hr4, hX⟩ := bind_some hX
  refine TL.cvX (gcT1 rfl) rfl rfl (fun e => ⟨rfl, ⟨rfl, trivial⟩⟩) (fun e => ok_path_Right (Str.mk [97, 47, 47, 98]) _ (optG_t hr4 e)) ?_
  refine TL.p (C := cx) (gc := r3) (p_not rfl (hg := fun e => e)) (gcT1 rfl) rfl ?_
  refine TL.p (C := cx) (gc := true) (p_and rfl rfl (fun e => ⟨rfl, fun h => h⟩)) rfl rfl ?_
  refine TL.p (C := cx) (gc := true) (p_mv rfl) rfl rfl ?_
  obtain ⟨r5, hr5, hX⟩ := bind_some hX
  refine TL.cvX (gcT1 rfl) rfl rfl (fun e => ⟨rfl, ⟨rfl, ⟨rfl, trivial⟩⟩⟩) (fun e => ok_path_Within (Str.mk [97, 47, 98]) (Str.mk [97]) _ (optG_t hr5 e)) ?_
  refine TL.p (C := cx) (gc := true) (p_and rfl rfl (fun e => ⟨rfl, fun h => h⟩)) rfl rfl ?_
  refine TL.p (C := cx) (gc := true) (p_mv rfl) rfl rfl ?_
  obtain ⟨r6, hr6, hX⟩ := bind_some hX
  refine TL.cvX (gcT1 rfl) rfl rfl (fun e => ⟨rfl, ⟨rfl, trivial⟩⟩) (fun e => ok_path_Parts (Str.mk [97, 47, 98]) _ (optG_t hr6 e)) ?_
  refine TL.p (C := cx) (gc := (((r3 && (!r4)) && r5))) (p_lenL (xs := r6) kd25 rfl (hg := fun e => e)) (gcT1 rfl) rfl ?_
  refine TL.p (C := cx) (gc := (((r3 && (!r4)) && r5))) (p_eql rfl rfl (hg := fun e => ⟨e, rfl⟩)) (gcT1 rfl) rfl ?_
  refine TL.p (C := cx) (gc := true) (p_and rfl rfl (fun e => ⟨rfl, fun h => h⟩)) rfl rfl ?_
  refine TL.p (C := cx) (gc := true) (p_mv rfl) rfl rfl ?_
  refine TL.nil ?_
  refine hK2 _ _ ?_
  refine TK.ret ?_
  try dsimp only [thenQ]
  exact ret1 (v := Enc.v ((((r3 && (!r4)) && r5) && ((r6.length : Int) == (2 : Int))) : Bool)) rfl (by obtain rfl := some_in hX; rfl) (v_val _)

/-- cartridge/cartridgelaw5.PathWrong -/
theorem ok_cartridgelaw5_PathWrong (which1 : Int) (r : Bool) (hX : X.cartridgelaw5_PathWrong which1 = some r) : Fun Tryd.prog 4 [Enc.v (which1 : Int)] (· = Enc.v (r : Bool)) := by
  refine Fun.of b4 (Nat.le_of_ble_eq_true rfl) (allVal.mem ⟨(by exact (v_val _)), trivial⟩) ?_
  unfold k4
  have nd : Nd [] := Nd_nil
  unfold X.cartridgelaw5_PathWrong at hX
  refine TK.seq_k fun K2 hK2 => ?_
  refine TK.reg ?_
  refine TL.p (C := cx) (gc := true) (p_mv rfl) rfl rfl ?_
  refine TL.nil ?_
  refine hK2 _ _ ?_
  refine TK.seq_k fun K3 hK3 => ?_
  refine TK.reg ?_
  obtain ⟨r4, hr4, hX⟩ := bind_some hX
  refine TL.cvX rfl rfl rfl (fun _ => ⟨rfl, trivial⟩) (fun e => ok_cartridgelaw5_alive  _ hr4) ?_
  refine TL.p (C := cx) (gc := true) (p_mv rfl) rfl rfl ?_
  refine TL.nil ?_
  refine hK3 _ _ ?_
  refine TK.seq_k fun K5 hK5 => ?_
  refine TK.reg ?_
  refine TL.lit (C := cx) ([(Str.mk []), (Str.mk [97]), (Str.mk [47]), (Str.mk [47, 97]), (Str.mk [97, 47]), (Str.mk [97, 47, 98]), (Str.mk [97, 47, 47, 98]), (Str.mk [46]), (Str.mk [46, 46]), (Str.mk [46, 46, 46]), (Str.mk [97, 47, 46]), (Str.mk [97, 47, 46, 46]), (Str.mk [97, 47, 46, 46, 46]), (Str.mk [46, 97]), (Str.mk [45]), (Str.mk [95]), (Str.mk [65]), (Str.mk [97, 32, 98]), (Str.mk [195, 169]), (Str.mk [97, 47, 98, 47, 99, 47, 100]), (Str.mk [97, 98, 99, 100, 101, 102, 103, 104, 105, 106, 107, 108, 109, 110, 111, 112, 113, 114, 115, 116, 117, 118, 119, 120]), (Str.mk [97, 98, 99, 100, 101, 102, 103, 104, 105, 106, 107, 108, 109, 110, 111, 112, 113, 114, 115, 116, 117, 118, 119, 120, 121]), (Str.mk [97, 0]), (Str.mk [57])] : List Str) kd25 ty9 rfl ⟨⟨rfl, rfl⟩, ⟨rfl, rfl⟩, ⟨rfl, rfl⟩, ⟨rfl, rfl⟩, ⟨rfl, rfl⟩, ⟨rfl, rfl⟩, ⟨rfl, rfl⟩, ⟨rfl, rfl⟩, ⟨rfl, rfl⟩, ⟨rfl, rfl⟩, ⟨rfl, rfl⟩, ⟨rfl, rfl⟩, ⟨rfl, rfl⟩, ⟨rfl, rfl⟩, ⟨rfl, rfl⟩, ⟨rfl, rfl⟩, ⟨rfl, rfl⟩, ⟨rfl, rfl⟩, ⟨rfl, rfl⟩, ⟨rfl, rfl⟩, ⟨rfl, rfl⟩, ⟨rfl, rfl⟩, ⟨rfl, rfl⟩, ⟨rfl, rfl⟩, trivial⟩ rfl rfl rfl ?_
  refine TL.p (C := cx) (gc := true) (p_mv rfl) rfl rfl ?_
  refine TL.nil ?_
  refine hK5 _ _ ?_
  refine TK.seq_k fun K6 hK6 => ?_
  refine TK.reg ?_
  refine TL.lit (C := cx) ([false, true, false, false, false, true, false, false, false, true, false, false, true, true, true, true, false, false, false, true, true, false, false, true] : List Bool) kd28 ty4 rfl ⟨⟨rfl, rfl⟩, ⟨rfl, rfl⟩, ⟨rfl, rfl⟩, ⟨rfl, rfl⟩, ⟨rfl, rfl⟩, ⟨rfl, rfl⟩, ⟨rfl, rfl⟩, ⟨rfl, rfl⟩, ⟨rfl, rfl⟩, ⟨rfl, rfl⟩, ⟨rfl, rfl⟩, ⟨rfl, rfl⟩, ⟨rfl, rfl⟩, ⟨rfl, rfl⟩, ⟨rfl, rfl⟩, ⟨rfl, rfl⟩, ⟨rfl, rfl⟩, ⟨rfl, rfl⟩, ⟨rfl, rfl⟩, ⟨rfl, rfl⟩, ⟨rfl, rfl⟩, ⟨rfl, rfl⟩, ⟨rfl, rfl⟩, ⟨rfl, rfl⟩, trivial⟩ rfl rfl rfl ?_
  refine TL.p (C := cx) (gc := true) (p_mv rfl) rfl rfl ?_
  refine TL.nil ?_
  refine hK6 _ _ ?_
  refine TK.seq_k fun K7 hK7 => ?_
  refine TK.seq_k fun K8 hK8 => ?_
  refine TK.reg ?_
  refine TL.p (C := cx) (gc := true) (p_mv rfl) rfl rfl ?_
  refine TL.p (C := cx) (gc := true) (p_not rfl) rfl rfl ?_
  refine TL.p (C := cx) (gc := true) (p_mv rfl) rfl rfl ?_
  refine TL.p (C := cx) (gc := (!((!r4)))) (p_mv rfl (hg := fun e => rfl)) (gcF1 rfl) rfl ?_
  refine TL.p (C := cx) (gc := (!((!r4)))) (p_lss rfl rfl (hg := fun e => ⟨e, rfl⟩)) (gcF1 rfl) rfl ?_
  refine TL.p (C := cx) (gc := true) (p_or rfl rfl (fun e => ⟨rfl, fun h => (not_t h)⟩)) rfl rfl ?_
  refine TL.p (C := cx) (gc := true) (p_mv rfl) rfl rfl ?_
  refine TL.p (C := cx) (gc := (!(((!r4) || (decide (which1 < (0 : Int))))))) (p_mv rfl (hg := fun e => rfl)) (gcF1 rfl) rfl ?_
  refine TL.p (C := cx) (gc := (!(((!r4) || (decide (which1 < (0 : Int))))))) (p_mv rfl (hg := fun e => rfl)) (gcF1 rfl) rfl ?_
  refine TL.p (C := cx) (gc := (!(((!r4) || (decide (which1 < (0 : Int))))))) (p_lenL (xs := ([(Str.mk []), (Str.mk [97]), (Str.mk [47]), (Str.mk [47, 97]), (Str.mk [97, 47]), (Str.mk [97, 47, 98]), (Str.mk [97, 47, 47, 98]), (Str.mk [46]), (Str.mk [46, 46]), (Str.mk [46, 46, 46]), (Str.mk [97, 47, 46]), (Str.mk [97, 47, 46, 46]), (Str.mk [97, 47, 46, 46, 46]), (Str.mk [46, 97]), (Str.mk [45]), (Str.mk [95]), (Str.mk [65]), (Str.mk [97, 32, 98]), (Str.mk [195, 169]), (Str.mk [97, 47, 98, 47, 99, 47, 100]), (Str.mk [97, 98, 99, 100, 101, 102, 103, 104, 105, 106, 107, 108, 109, 110, 111, 112, 113, 114, 115, 116, 117, 118, 119, 120]), (Str.mk [97, 98, 99, 100, 101, 102, 103, 104, 105, 106, 107, 108, 109, 110, 111, 112, 113, 114, 115, 116, 117, 118, 119, 120, 121]), (Str.mk [97, 0]), (Str.mk [57])] : List Str)) kd25 rfl (hg := fun e => e)) (gcF1 rfl) rfl ?_
  refine TL.p (C := cx) (gc := (!(((!r4) || (decide (which1 < (0 : Int))))))) (p_geq rfl rfl (hg := fun e => ⟨e, e⟩)) (gcF1 rfl) rfl ?_
  refine TL.p (C := cx) (gc := true) (p_or rfl rfl (fun e => ⟨rfl, fun h => (not_t h)⟩)) rfl rfl ?_
  refine TL.nil ?_
  refine hK8 _ _ ?_
  refine TK.cond (b := (((!r4) || (decide (which1 < (0 : Int)))) || (decide (which1 ≥ (([(Str.mk []), (Str.mk [97]), (Str.mk [47]), (Str.mk [47, 97]), (Str.mk [97, 47]), (Str.mk [97, 47, 98]), (Str.mk [97, 47, 47, 98]), (Str.mk [46]), (Str.mk [46, 46]), (Str.mk [46, 46, 46]), (Str.mk [97, 47, 46]), (Str.mk [97, 47, 46, 46]), (Str.mk [97, 47, 46, 46, 46]), (Str.mk [46, 97]), (Str.mk [45]), (Str.mk [95]), (Str.mk [65]), (Str.mk [97, 32, 98]), (Str.mk [195, 169]), (Str.mk [97, 47, 98, 47, 99, 47, 100]), (Str.mk [97, 98, 99, 100, 101, 102, 103, 104, 105, 106, 107, 108, 109, 110, 111, 112, 113, 114, 115, 116, 117, 118, 119, 120]), (Str.mk [97, 98, 99, 100, 101, 102, 103, 104, 105, 106, 107, 108, 109, 110, 111, 112, 113, 114, 115, 116, 117, 118, 119, 120, 121]), (Str.mk [97, 0]), (Str.mk [57])] : List Str).length : Int))))) rfl (fun hc => ?_) (fun hc => ?_)
  · have hX := ite_t hc hX
    refine TK.seq_k fun K9 hK9 => ?_
    refine TK.reg ?_
    refine TL.p (C := cx) (gc := true) (p_mv rfl) rfl rfl ?_
    refine TL.p (C := cx) (gc := true) (p_mv rfl) rfl rfl ?_
    refine TL.nil ?_
    refine hK9 _ _ ?_
    refine TK.ret ?_
    try dsimp only [thenQ]
    exact ret1 (v := Enc.v (r4 : Bool)) rfl (by obtain rfl := some_in hX; rfl) (v_val _)
  · have hX := ite_f hc hX
    refine TK.skip ?_
    refine hK7 _ _ ?_
    refine TK.seq_k fun K10 hK10 => ?_
    have ndS : Nd [] := Nd.pick nd (is := []) (by decide)
    refine TK.drwX (h := []) (hS := []) [(0, 0), (0, 1), (0, 2), (0, 3), (0, 4), (0, 5), (0, 6), (0, 7), (0, 8), (0, 9), (0, 10)] mixed (by kernel_rfl) (HSub_app nd) ?_
    refine DR0 (gc := true) rfl (vok_p (C := cx) (p_mv rfl)) rfl rfl ?_
    refine DR0 (gc := true) rfl (vok_p (C := cx) (p_mv rfl)) rfl rfl ?_
    obtain ⟨e11, he11, hX⟩ := bind_some hX
    refine DR0 (gc := true) rfl (vok_p (C := cx) (p_iaL (xs := ([(Str.mk []), (Str.mk [97]), (Str.mk [47]), (Str.mk [47, 97]), (Str.mk [97, 47]), (Str.mk [97, 47, 98]), (Str.mk [97, 47, 47, 98]), (Str.mk [46]), (Str.mk [46, 46]), (Str.mk [46, 46, 46]), (Str.mk [97, 47, 46]), (Str.mk [97, 47, 46, 46]), (Str.mk [97, 47, 46, 46, 46]), (Str.mk [46, 97]), (Str.mk [45]), (Str.mk [95]), (Str.mk [65]), (Str.mk [97, 32, 98]), (Str.mk [195, 169]), (Str.mk [97, 47, 98, 47, 99, 47, 100]), (Str.mk [97, 98, 99, 100, 101, 102, 103, 104, 105, 106, 107, 108, 109, 110, 111, 112, 113, 114, 115, 116, 117, 118, 119, 120]), (Str.mk [97, 98, 99, 100, 101, 102, 103, 104, 105, 106, 107, 108, 109, 110, 111, 112, 113, 114, 115, 116, 117, 118, 119, 120, 121]), (Str.mk [97, 0]), (Str.mk [57])] : List Str)) kd25 ty9 rfl rfl rfl (fun _ => he11))) rfl rfl ?_
    refine DR0 (gc := true) rfl (vok_p (C := cx) (p_ldE (xs := ([(Str.mk []), (Str.mk [97]), (Str.mk [47]), (Str.mk [47, 97]), (Str.mk [97, 47]), (Str.mk [97, 47, 98]), (Str.mk [97, 47, 47, 98]), (Str.mk [46]), (Str.mk [46, 46]), (Str.mk [46, 46, 46]), (Str.mk [97, 47, 46]), (Str.mk [97, 47, 46, 46]), (Str.mk [97, 47, 46, 46, 46]), (Str.mk [46, 97]), (Str.mk [45]), (Str.mk [95]), (Str.mk [65]), (Str.mk [97, 32, 98]), (Str.mk [195, 169]), (Str.mk [97, 47, 98, 47, 99, 47, 100]), (Str.mk [97, 98, 99, 100, 101, 102, 103, 104, 105, 106, 107, 108, 109, 110, 111, 112, 113, 114, 115, 116, 117, 118, 119, 120]), (Str.mk [97, 98, 99, 100, 101, 102, 103, 104, 105, 106, 107, 108, 109, 110, 111, 112, 113, 114, 115, 116, 117, 118, 119, 120, 121]), (Str.mk [97, 0]), (Str.mk [57])] : List Str)) (a := e11) (e11 : Str) ty9 rfl rfl (fun _ => he11) rfl rfl rfl)) rfl rfl ?_
    obtain ⟨r12, hr12, hX⟩ := bind_some hX
    refine DR0 (gc := true) rfl (vok_c rfl (fun _ => ⟨rfl, ⟨rfl, trivial⟩⟩) (fun e => ok_path_Right e11 _ hr12)) rfl rfl ?_
    refine DR0 (gc := true) rfl (vok_p (C := cx) (p_mv rfl)) rfl rfl ?_
    refine DR0 (gc := true) rfl (vok_p (C := cx) (p_mv rfl)) rfl rfl ?_
    obtain ⟨e13, he13, hX⟩ := bind_some hX
    refine DR0 (gc := true) rfl (vok_p (C := cx) (p_iaL (xs := ([false, true, false, false, false, true, false, false, false, true, false, false, true, true, true, true, false, false, false, true, true, false, false, true] : List Bool)) kd28 ty4 rfl rfl rfl (fun _ => he13))) rfl rfl ?_
    refine DR0 (gc := true) rfl (vok_p (C := cx) (p_ldE (xs := ([false, true, false, false, false, true, false, false, false, true, false, false, true, true, true, true, false, false, false, true, true, false, false, true] : List Bool)) (a := e13) (e13 : Bool) ty4 rfl rfl (fun _ => he13) rfl rfl rfl)) rfl rfl ?_
    refine DR0 (gc := true) rfl (vok_p (C := cx) (p_eqB kd4 rfl rfl)) rfl rfl ?_
    refine DR0 (gc := true) rfl (vok_p (C := cx) (p_mv rfl)) rfl rfl ?_
    refine DRend ?_
    refine hK10 _ _ ?_
    refine TK.ret ?_
    try dsimp only [thenQ]
    exact ret1 (v := Enc.v ((r12 == e13) : Bool)) rfl (by obtain rfl := some_in hX; rfl) (v_val _)

end Go.Proofs.YtpipaggkbiapjaaDoor
