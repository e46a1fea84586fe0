import Derived.Test.YtliahlgkinhjlaaDoorXFn
import Derived.Test.YtliahlgkinhjlaaDoorXS
import Derived.Test.YtliahlgkinhjlaaDoorAmK0
import Derived.Test.YtliahlgkinhjlaaDoorSh
/- That they do. -/
namespace Go.Proofs.YtliahlgkinhjlaaDoor
open Go.AM Go.AX
set_option linter.unusedVariables false
set_option maxRecDepth 20000

/-- strings.Count -/
theorem ok_strings_Count_k47 (s1 : Str) (r : Int) (hX : X.strings_Count_k47 s1 = some r) : Fun Tryd.prog 153 [Enc.v (s1 : Str), Enc.v ((Str.mk [47]) : Str)] (· = Enc.v (r : Int)) := by
  refine Fun.of b153 (Nat.le_of_ble_eq_true rfl) (allVal.mem ⟨(by exact (v_val _)), (by exact (v_val _)), trivial⟩) ?_
  unfold k153
  have nd : Nd [] := Nd_nil
  unfold X.strings_Count_k47 at hX
  refine SR fun K2 hK2 => M rfl rfl (TL.nil (hK2 _ _ ?_))
  refine TK.seq_k fun K3 hK3 => ?_
  refine SR fun K4 hK4 => M rfl rfl (P1 (p_lenS (s := (Str.mk [47])) kd9 rfl) rfl rfl (P1 (p_eql rfl rfl) rfl rfl (TL.nil (hK4 _ _ ?_))))
  refine TK.cond (b := false) rfl (fun hc => by simp at hc) (fun _ => ?_)
  refine TK.skip ?_
  refine hK3 _ _ ?_
  refine TK.seq_k fun K5 hK5 => ?_
  refine SR fun K6 hK6 => M rfl rfl (P1 (p_lenS (s := (Str.mk [47])) kd9 rfl) rfl rfl (P1 (p_eql rfl rfl) rfl rfl (TL.nil (hK6 _ _ ?_))))
  refine TK.cond (b := true) rfl (fun _ => ?_) (fun hc => by simp at hc)
  refine SR fun K7 hK7 => M rfl rfl (M rfl rfl ?_)
  obtain ⟨x8, hx8, hX⟩ := bind_some hX
  refine P1 (p_ix kd9 rfl rfl (fun _ => hx8)) rfl rfl ?_
  refine TL.ofV (gc := true) (vok_countS (C := cx) ex167 rfl (fun _ => ⟨rfl, ⟨rfl, ⟨rfl, trivial⟩⟩⟩)) rfl rfl ?_
  refine M rfl rfl (TL.nil (hK7 _ _ ?_))
  refine TK.ret ?_
  try dsimp only [thenQ]
  exact R1 rfl hX

/-- internal/stringslite.IndexByte -/
theorem ok_stringslite_IndexByte (s1 : Str) (c2 : UInt8) (r : Int) (hX : X.stringslite_IndexByte s1 c2 = some r) : Fun Tryd.prog 173 [Enc.v (s1 : Str), Enc.v (c2 : UInt8)] (· = Enc.v (r : Int)) := by
  refine Fun.of b173 (Nat.le_of_ble_eq_true rfl) (allVal.mem ⟨(by exact (v_val _)), (by exact (v_val _)), trivial⟩) ?_
  unfold k173
  have nd : Nd [] := Nd_nil
  unfold X.stringslite_IndexByte at hX
  refine SR fun K3 hK3 => M rfl rfl (TL.nil (hK3 _ _ (SR fun K4 hK4 => M rfl rfl (M rfl rfl ?_))))
  refine TL.ofV (gc := true) (vok_indexS (C := cx) ex177 rfl (fun _ => ⟨rfl, ⟨rfl, ⟨rfl, trivial⟩⟩⟩)) rfl rfl ?_
  refine M rfl rfl (TL.nil (hK4 _ _ ?_))
  refine TK.ret ?_
  try dsimp only [thenQ]
  exact R1 rfl hX

/-- internal/stringslite.Index -/
theorem ok_stringslite_Index_k47 (s1 : Str) (r : Int) (hX : X.stringslite_Index_k47 s1 = some r) : Fun Tryd.prog 168 [Enc.v (s1 : Str), Enc.v ((Str.mk [47]) : Str)] (· = Enc.v (r : Int)) := by
  refine Fun.of b168 (Nat.le_of_ble_eq_true rfl) (allVal.mem ⟨(by exact (v_val _)), (by exact (v_val _)), trivial⟩) ?_
  unfold k168
  have nd : Nd [] := Nd_nil
  unfold X.stringslite_Index_k47 at hX
  refine SR fun K2 hK2 => M rfl rfl (TL.nil (hK2 _ _ (SR fun K3 hK3 => M rfl rfl (P1 (p_lenS (s := (Str.mk [47])) kd9 rfl) rfl rfl (M rfl rfl (TL.nil (hK3 _ _ ?_)))))))
  refine TK.seq_k fun K4 hK4 => ?_
  refine TK.block ?_
  refine SR fun K5 hK5 => M rfl rfl (P1 (p_eql rfl rfl) rfl rfl (M rfl rfl ?_))
  refine TL.guardT rfl ?_
  refine M rfl rfl ?_
  refine TL.guardT rfl ?_
  refine M rfl rfl ?_
  refine TL.guardT rfl ?_
  refine P1 (ps_eql (s := (Str.mk [47])) (r := s1) rfl rfl) rfl rfl (P1 (p_or rfl rfl (fun e => ⟨rfl, fun h => rfl⟩)) rfl rfl (M rfl rfl (TL.nil (hK5 _ _ ?_))))
  refine TK.cond (b := ((Str.mk [47]).l == s1.l)) rfl (fun hc => ?_) (fun hc => ?_)
  · have hX := ite_t hc hX
    refine SR fun K6 hK6 => M rfl rfl (TL.nil (hK6 _ _ ?_))
    refine TK.ret ?_
    try dsimp only [thenQ]
    exact R1 rfl hX
  · have hX := ite_f hc hX
    refine SR fun K7 hK7 => M rfl rfl (P1 (p_eql rfl rfl) rfl rfl (M rfl rfl (TL.nil (hK7 _ _ ?_))))
    refine TK.cond (b := true) rfl (fun _ => ?_) (fun hc => by simp at hc)
    refine SR fun K8 hK8 => M rfl rfl (M rfl rfl ?_)
    obtain ⟨x9, hx9, hX⟩ := bind_some hX
    refine P1 (p_ix kd9 rfl rfl (fun _ => hx9)) rfl rfl ?_
    obtain ⟨r10, hr10, hX⟩ := bind_some hX
    refine TL.cvX rfl rfl rfl (fun _ => ⟨rfl, ⟨rfl, ⟨rfl, trivial⟩⟩⟩) (fun e => ok_stringslite_IndexByte s1 x9 _ hr10) ?_
    refine M rfl rfl (TL.nil (hK8 _ _ ?_))
    refine TK.ret ?_
    try dsimp only [thenQ]
    exact R1 rfl hX

/-- strings.Index -/
theorem ok_strings_Index_k47 (s1 : Str) (r : Int) (hX : X.strings_Index_k47 s1 = some r) : Fun Tryd.prog 154 [Enc.v (s1 : Str), Enc.v ((Str.mk [47]) : Str)] (· = Enc.v (r : Int)) := by
  refine Fun.of b154 (Nat.le_of_ble_eq_true rfl) (allVal.mem ⟨(by exact (v_val _)), (by exact (v_val _)), trivial⟩) ?_
  unfold k154
  have nd : Nd [] := Nd_nil
  unfold X.strings_Index_k47 at hX
  refine SR fun K2 hK2 => M rfl rfl (TL.nil (hK2 _ _ (SR fun K3 hK3 => M rfl rfl (M rfl rfl ?_))))
  obtain ⟨r4, hr4, hX⟩ := bind_some hX
  refine TL.cvX rfl rfl rfl (fun _ => ⟨rfl, ⟨rfl, ⟨rfl, trivial⟩⟩⟩) (fun e => ok_stringslite_Index_k47 s1 _ hr4) ?_
  refine M rfl rfl (TL.nil (hK3 _ _ ?_))
  refine TK.ret ?_
  try dsimp only [thenQ]
  exact R1 rfl hX

/-- strings.genSplit -/
theorem ok_strings_genSplit_k47_0_1 (s1 : Str) (r : (List Str)) (hX : X.strings_genSplit_k47_0_1 s1 = some r) : Fun Tryd.prog 127 [Enc.v (s1 : Str), Enc.v ((Str.mk [47]) : Str), Enc.v ((0 : Int) : Int), Enc.v (((-1) : Int) : Int)] (· = Enc.v (r : (List Str))) := by
  refine Fun.of b127 (Nat.le_of_ble_eq_true rfl) (allVal.mem ⟨(by exact (v_val _)), (by exact (v_val _)), (by exact (v_val _)), (by exact (v_val _)), trivial⟩) ?_
  unfold k127
  have nd : Nd [] := Nd_nil
  unfold X.strings_genSplit_k47_0_1 at hX
  refine SR fun K2 hK2 => M rfl rfl (TL.nil (hK2 _ _ ?_))
  refine TK.seq_k fun K3 hK3 => ?_
  refine SR fun K4 hK4 => M rfl rfl (P1 (p_eql rfl rfl) rfl rfl (TL.nil (hK4 _ _ ?_)))
  refine TK.cond (b := false) rfl (fun hc => by simp at hc) (fun _ => ?_)
  refine TK.skip ?_
  refine hK3 _ _ ?_
  refine TK.seq_k fun K5 hK5 => ?_
  refine SR fun K6 hK6 => M rfl rfl (P1 (ps_eql (s := (Str.mk [47])) (r := (Str.mk [])) rfl rfl) rfl rfl (TL.nil (hK6 _ _ ?_)))
  refine TK.cond (b := false) rfl (fun hc => by simp at hc) (fun _ => ?_)
  refine TK.skip ?_
  refine hK5 _ _ ?_
  refine TK.seq_k fun K7 hK7 => ?_
  refine SR fun K8 hK8 => M rfl rfl (P1 (p_lss rfl rfl) rfl rfl (TL.nil (hK8 _ _ ?_)))
  refine TK.cond (b := true) rfl (fun _ => ?_) (fun hc => by simp at hc)
  refine TK.reg ?_
  refine M rfl rfl (M rfl rfl ?_)
  obtain ⟨r9, hr9, hX⟩ := bind_some hX
  refine TL.cvX rfl rfl rfl (fun _ => ⟨rfl, ⟨rfl, ⟨rfl, trivial⟩⟩⟩) (fun e => ok_strings_Count_k47 s1 _ hr9) ?_
  refine P1 (p_add rfl rfl) rfl rfl (M rfl rfl (TL.nil (hK7 _ _ (SR fun K10 hK10 => M rfl rfl (M rfl rfl (P1 (p_lenS (s := s1) kd9 rfl) rfl rfl (P1 (p_add rfl rfl) rfl rfl (P1 (p_min rfl rfl) rfl rfl (M rfl rfl (TL.nil (hK10 _ _ (SR fun K11 hK11 => M rfl rfl ?_))))))))))))
  obtain ⟨u12, hu12, hX⟩ := bind_some hX
  refine TLc.mkO nd (Str.mk []) kd80 ty9 rfl (fun j hj => by (have : j = 0 := by simpa [Enc.sz] using hj); subst this; rfl) rfl rfl (by decide) (need_t hu12) rfl fun b13 nd => ?_
  refine M rfl rfl (TL.nil (hK11 _ _ (SR fun K14 hK14 => M rfl rfl (P1 (p_sub rfl rfl) rfl rfl (M rfl rfl (TL.nil (hK14 _ _ (SR fun K15 hK15 => M rfl rfl (TL.nil (hK15 _ _ ?_))))))))))
  refine TK.seq_k fun K16 hK16 => ?_
  refine TK.block ?_
  obtain ⟨o17, hO17, hA17⟩ := bind_some hX
  have E17 : ∀ (s22 : Str) (l24 : List Str) (i25 : Int) (env : Env) (h : Hp), (∃ b23, keepE [0, 9, 10] env = [(0, true, Enc.v s22), (9, true, OL b23 l24), (10, true, Enc.v i25)] ∧ Nd [(b23, RL (α := Str) 9 l24)] ∧ HSub [(b23, RL (α := Str) 9 l24)] h) → X.strings_genSplit_k47_0_1_e17 s22 l24 i25 = some r → K16 env h := by
    intro s22 l24 i25 env h hE hX
    obtain ⟨b23, henv, nd, hs⟩ := hE
    unfold X.strings_genSplit_k47_0_1_e17 at hX
    refine hK16 _ _ (TK.keep [0, 9, 10] ?_)
    rw [henv]
    refine TK.subH hs ?_
    refine SR fun K26 hK26 => M rfl rfl (M rfl rfl (M rfl rfl ?_))
    obtain ⟨e27, he27, hX⟩ := bind_some hX
    refine P1 (p_iaO (xs := l24) kd80 ty9 rfl rfl rfl nd (j := 0) rfl (fun _ => he27)) rfl rfl ?_
    refine TLc.stW (xs := l24) (i := i25) (lu := Enc.cl (s22 : Str)) (a' := s22) nd ty9 rfl (j := 0) rfl (by simp [Enc.sz]) (inb_of he27 (by simp)) rfl (Cells_v (s22 : Str)) rfl (WkL_refl _) fun nd => ?_
    refine TL.cv 9 (OL b23 (l24.set i25.toNat s22)) rfl (Wk_eq (OL_len (by simp))) ?_
    refine TL.nil (hK26 _ _ (SR fun K28 hK28 => M rfl rfl (M rfl rfl (P1 (p_add rfl rfl) rfl rfl ?_))))
    obtain ⟨u29, hu29, hX⟩ := bind_some hX
    refine P1 (p_sliO (xs := (l24.set i25.toNat s22)) (l := (0 : Int)) (k := (wr (i25 + (1 : Int)))) kd80 ty9 rfl rfl nd (j := 0) rfl rfl rfl (fun e => need_t hu29)) rfl rfl (M rfl rfl (TL.nil (hK28 _ _ ?_)))
    refine TK.lay [(8, L (slc (l24.set i25.toNat s22) (0 : Int) (wr (i25 + (1 : Int)))))] nd (j := 0) rfl ⟨⟨_, rfl, fix_OS nd (j := 0) rfl (need_t hu29).1, rfl⟩, trivial⟩ fun nd => ?_
    refine TK.ret ?_
    try dsimp only [thenQ]
    exact R1 rfl hX
  refine TK.iter [0, 1, 2, 3, 9, 10] (fun s env h => match s with | (s18, a20, i21) => ∃ b19, env = [(0, true, Enc.v s18), (1, true, Enc.v ((Str.mk [47]) : Str)), (2, true, Enc.v ((0 : Int) : Int)), (3, true, Enc.v ((wr ((min (wr (r9 + (1 : Int))) (wr ((s1.l.length : Int) + (1 : Int)))) - (1 : Int))) : Int)), (9, true, OL b19 a20), (10, true, Enc.v i21)] ∧ Nd [(b19, RL (α := Str) 9 a20)] ∧ HSub [(b19, RL (α := Str) 9 a20)] h) hO17 ⟨b13, rfl, (Nd.pick nd (is := [0]) (by decide)), (HSub.pick nd (is := [0]) (by decide))⟩ ?_
  rintro ⟨s18, a20, i21⟩ env h x17x ⟨b19, rfl, nd, hs⟩ hX hR17
  refine TK.subH hs ?_
  unfold X.strings_genSplit_k47_0_1_s17 at hX
  try dsimp only at hX
  refine TK.seq_k fun K30 hK30 => ?_
  refine SR fun K31 hK31 => M rfl rfl (M rfl rfl (P1 (p_lss rfl rfl) rfl rfl (TL.nil (hK31 _ _ ?_))))
  refine TK.cond (b := (decide (i21 < (wr ((min (wr (r9 + (1 : Int))) (wr ((s1.l.length : Int) + (1 : Int)))) - (1 : Int)))))) rfl (fun hc => ?_) (fun hc => ?_)
  · have hX := ite_t hc hX
    refine TK.skip ?_
    refine hK30 _ _ ?_
    refine TK.block ?_
    refine SR fun K32 hK32 => M rfl rfl (M rfl rfl ?_)
    obtain ⟨r33, hr33, hX⟩ := bind_some hX
    refine TL.cvX rfl rfl rfl (fun _ => ⟨rfl, ⟨rfl, ⟨rfl, trivial⟩⟩⟩) (fun e => ok_strings_Index_k47 s18 _ hr33) ?_
    refine M rfl rfl (TL.nil (hK32 _ _ ?_))
    refine TK.seq_k fun K34 hK34 => ?_
    refine SR fun K35 hK35 => M rfl rfl (P1 (p_lss rfl rfl) rfl rfl (TL.nil (hK35 _ _ ?_)))
    refine TK.cond (b := (decide (r33 < (0 : Int)))) rfl (fun hc => ?_) (fun hc => ?_)
    · have hX := ite_t hc hX
      refine TK.exit ?_
      obtain rfl := hR17 _ (some_in hX).symm
      exact E17 s18 a20 i21 _ _ ⟨b19, rfl, (Nd.pick nd (is := [0]) (by decide)), (HSub.pick nd (is := [0]) (by decide))⟩ hA17
    · have hX := ite_f hc hX
      refine TK.skip ?_
      refine hK34 _ _ (SR fun K36 hK36 => M rfl rfl (M rfl rfl (M rfl rfl (M rfl rfl (M rfl rfl (P1 (p_add rfl rfl) rfl rfl ?_))))))
      obtain ⟨u37, hu37, hX⟩ := bind_some hX
      refine P1 (p_sliS (s := s18) (l := (0 : Int)) (k := (wr (r33 + (0 : Int)))) kd9 rfl rfl (fun n hn => rfl) (fun e => need_t hu37)) rfl rfl ?_
      obtain ⟨e38, he38, hX⟩ := bind_some hX
      refine P1 (p_iaO (xs := a20) kd80 ty9 rfl rfl rfl nd (j := 0) rfl (fun _ => he38)) rfl rfl ?_
      refine TLc.stW (xs := a20) (i := i21) (lu := Enc.cl ((Str.mk (slc s18.l (0 : Int) (wr (r33 + (0 : Int))))) : Str)) (a' := (Str.mk (slc s18.l (0 : Int) (wr (r33 + (0 : Int)))))) nd ty9 rfl (j := 0) rfl (by simp [Enc.sz]) (inb_of he38 (by simp)) rfl (Cells_v ((Str.mk (slc s18.l (0 : Int) (wr (r33 + (0 : Int))))) : Str)) rfl (WkL_refl _) fun nd => ?_
      refine TL.cv 9 (OL b19 (a20.set i21.toNat (Str.mk (slc s18.l (0 : Int) (wr (r33 + (0 : Int))))))) rfl (Wk_eq (OL_len (by simp))) ?_
      refine TL.nil (hK36 _ _ (SR fun K39 hK39 => M rfl rfl (M rfl rfl (M rfl rfl (P1 (p_lenS (s := (Str.mk [47])) kd9 rfl) rfl rfl (P1 (p_add rfl rfl) rfl rfl ?_))))))
      obtain ⟨u40, hu40, hX⟩ := bind_some hX
      refine P1 (p_sliS (s := s18) (l := (wr (r33 + (1 : Int)))) (k := (s18.l.length : Int)) kd9 rfl rfl (fun n hn => by subst hn; rfl) (fun e => need_t hu40)) rfl rfl (M rfl rfl (TL.nil (hK39 _ _ ?_)))
      refine TK.reg ?_
      refine M rfl rfl (P1 (p_add rfl rfl) rfl rfl (M rfl rfl (TL.nil ?_)))
      exact ⟨_, (some_in hX).symm, b19, rfl, (Nd.pick nd (is := [0]) (by decide)), (HSub.pick nd (is := [0]) (by decide))⟩
  · have hX := ite_f hc hX
    refine TK.exit ?_
    obtain rfl := hR17 _ (some_in hX).symm
    exact E17 s18 a20 i21 _ _ ⟨b19, rfl, (Nd.pick nd (is := [0]) (by decide)), (HSub.pick nd (is := [0]) (by decide))⟩ hA17

/-- strings.Split -/
theorem ok_strings_Split_k47 (s1 : Str) (r : (List Str)) (hX : X.strings_Split_k47 s1 = some r) : Fun Tryd.prog 98 [Enc.v (s1 : Str), Enc.v ((Str.mk [47]) : Str)] (· = Enc.v (r : (List Str))) := by
  refine Fun.of b98 (Nat.le_of_ble_eq_true rfl) (allVal.mem ⟨(by exact (v_val _)), (by exact (v_val _)), trivial⟩) ?_
  unfold k98
  have nd : Nd [] := Nd_nil
  unfold X.strings_Split_k47 at hX
  refine SR fun K2 hK2 => M rfl rfl (TL.nil (hK2 _ _ (SR fun K3 hK3 => M rfl rfl (M rfl rfl ?_))))
  obtain ⟨r4, hr4, hX⟩ := bind_some hX
  refine TL.cvX rfl rfl rfl (fun _ => ⟨rfl, ⟨rfl, ⟨rfl, ⟨rfl, ⟨rfl, trivial⟩⟩⟩⟩⟩) (fun e => ok_strings_genSplit_k47_0_1 s1 _ hr4) ?_
  refine M rfl rfl (TL.nil (hK3 _ _ ?_))
  refine TK.ret ?_
  try dsimp only [thenQ]
  exact R1 rfl hX

/-- slices.IndexFunc[[]string,string] -/
theorem ok_slices_IndexFunc_Lstring_string (s1 : (List Str)) (g2 : Str → Option Bool) (r : Int) (hX : X.slices_IndexFunc_Lstring_string s1 g2 = some r) {g2V : AV} (hg2V : ∃ f m c, g2V = .fn f m c ∧ (∀ i, i < m → (c i).val) ∧ ∀ (a0 : Str) r, g2 a0 = some r → Fun Tryd.prog f ([Enc.v a0] ++ (List.range m).map c) (· = Enc.v r)) : Fun Tryd.prog 126 [Enc.v (s1 : (List Str)), g2V] (· = Enc.v (r : Int)) := by
  obtain ⟨g2f, g2m, g2c, rfl, hg2v, hg2⟩ := hg2V
  refine Fun.of b126 (Nat.le_of_ble_eq_true rfl) (allVal.mem ⟨(by exact (v_val _)), hg2v, trivial⟩) ?_
  unfold k126
  have nd : Nd [] := Nd_nil
  unfold X.slices_IndexFunc_Lstring_string at hX
  refine SR fun K3 hK3 => M rfl rfl (TL.nil (hK3 _ _ ?_))
  refine TK.seq_k fun K4 hK4 => ?_
  refine SR fun K5 hK5 => M rfl rfl (P1 (p_lenL (xs := s1) kd80 rfl) rfl rfl (M rfl rfl (TL.nil (hK5 _ _ ?_))))
  refine TK.block ?_
  obtain ⟨o6, hO6, hA6⟩ := bind_some hX
  have E6 : ∀ (env : Env) (h : Hp), (∃ _u : Unit, keepE [] env = [] ∧ Nd [] ∧ HSub [] h) → X.slices_IndexFunc_Lstring_string_e6 = some r → K4 env h := by
    intro  env h hE hX
    obtain ⟨_u, henv, nd, hs⟩ := hE
    unfold X.slices_IndexFunc_Lstring_string_e6 at hX
    refine hK4 _ _ (TK.keep [] ?_)
    rw [henv]
    refine TK.subH hs ?_
    refine SR fun K8 hK8 => M rfl rfl (TL.nil (hK8 _ _ ?_))
    refine TK.ret ?_
    try dsimp only [thenQ]
    exact R1 rfl hX
  refine TK.iter [0, 1, 7, 8] (fun s env h => match s with | x7 => ∃ _u : Unit, env = [(0, true, Enc.v s1), (1, true, .fn g2f g2m g2c), (7, true, Enc.v ((s1.length : Int) : Int)), (8, true, Enc.v x7)] ∧ Nd [] ∧ HSub [] h) hO6 ⟨(), rfl, Nd_nil, HSub.refl _⟩ ?_
  rintro x7 env h x6x ⟨_u, rfl, nd, hs⟩ hX hR6
  refine TK.subH hs ?_
  unfold X.slices_IndexFunc_Lstring_string_s6 at hX
  try dsimp only at hX
  refine SR fun K9 hK9 => P1 (p_lss rfl rfl) rfl rfl (TL.nil (hK9 _ _ ?_))
  refine TK.seq_k fun K10 hK10 => ?_
  refine TK.cond (b := (decide (x7 < (s1.length : Int)))) rfl (fun hc => ?_) (fun hc => ?_)
  · have hX := ite_t hc hX
    refine TK.skip ?_
    refine hK10 _ _ ?_
    refine TK.seq_k fun K11 hK11 => ?_
    refine TK.block ?_
    refine SR fun K12 hK12 => M rfl rfl (M rfl rfl (TL.nil (hK12 _ _ (SR fun K13 hK13 => M rfl rfl (M rfl rfl (M rfl rfl ?_))))))
    obtain ⟨e14, he14, hX⟩ := bind_some hX
    refine P1 (p_iaL (xs := s1) kd80 ty9 rfl rfl rfl (fun _ => he14)) rfl rfl (P1 (p_ldE (xs := s1) (a := e14) (e14 : Str) ty9 rfl rfl (fun _ => he14) rfl rfl rfl) rfl rfl ?_)
    obtain ⟨r15, hr15, hX⟩ := bind_some hX
    refine TL.cvX rfl rfl rfl (fun _ => ⟨rfl, ⟨rfl, trivial⟩⟩) (fun e => hg2 e14 _ hr15) ?_
    refine TL.nil (hK13 _ _ ?_)
    refine TK.cond (b := r15) rfl (fun hc => ?_) (fun hc => ?_)
    · have hX := ite_t hc hX
      refine SR fun K16 hK16 => M rfl rfl (M rfl rfl (TL.nil (hK16 _ _ ?_)))
      refine TK.ret ?_
      obtain rfl := hR6 _ (some_in hX).symm
      replace hX := hA6
      try dsimp only [thenQ]
      exact R1 rfl hX
    · have hX := ite_f hc hX
      refine TK.skip ?_
      refine hK11 _ _ ?_
      refine TK.reg ?_
      refine P1 (p_add rfl rfl) rfl rfl (M rfl rfl (TL.nil ?_))
      exact ⟨_, (some_in hX).symm, (), rfl, Nd_nil, HSub.refl _⟩
  · have hX := ite_f hc hX
    refine TK.exit ?_
    obtain rfl := hR6 _ (some_in hX).symm
    exact E6 _ _ ⟨(), rfl, Nd_nil, HSub.refl _⟩ hA6

/-- slices.ContainsFunc[[]string,string] -/
theorem ok_slices_ContainsFunc_Lstring_string (s1 : (List Str)) (g2 : Str → Option Bool) (r : Bool) (hX : X.slices_ContainsFunc_Lstring_string s1 g2 = some r) {g2V : AV} (hg2V : ∃ f m c, g2V = .fn f m c ∧ (∀ i, i < m → (c i).val) ∧ ∀ (a0 : Str) r, g2 a0 = some r → Fun Tryd.prog f ([Enc.v a0] ++ (List.range m).map c) (· = Enc.v r)) : Fun Tryd.prog 97 [Enc.v (s1 : (List Str)), g2V] (· = Enc.v (r : Bool)) := by
  obtain ⟨g2f, g2m, g2c, rfl, hg2v, hg2⟩ := hg2V
  refine Fun.of b97 (Nat.le_of_ble_eq_true rfl) (allVal.mem ⟨(by exact (v_val _)), hg2v, trivial⟩) ?_
  unfold k97
  have nd : Nd [] := Nd_nil
  unfold X.slices_ContainsFunc_Lstring_string at hX
  refine SR fun K3 hK3 => M rfl rfl (TL.nil (hK3 _ _ (SR fun K4 hK4 => M rfl rfl (M rfl rfl ?_))))
  obtain ⟨r5, hr5, hX⟩ := bind_some hX
  refine TL.cvX rfl rfl rfl (fun _ => ⟨rfl, ⟨rfl, ⟨rfl, trivial⟩⟩⟩) (fun e => ok_slices_IndexFunc_Lstring_string s1 g2 _ hr5 ⟨_, _, _, rfl, hg2v, hg2⟩) ?_
  refine P1 (p_geq rfl rfl) rfl rfl (M rfl rfl (TL.nil (hK4 _ _ ?_)))
  refine TK.ret ?_
  try dsimp only [thenQ]
  exact R1 rfl hX

/-- strings.indexFunc -/
theorem ok_strings_indexFunc (s1 : Str) (g2 : I32 → Option Bool) (truth3 : Bool) (r : Int) (hX : X.strings_indexFunc s1 g2 truth3 = some r) {g2V : AV} (hg2V : ∃ f m c, g2V = .fn f m c ∧ (∀ i, i < m → (c i).val) ∧ ∀ (a0 : I32) r, g2 a0 = some r → Fun Tryd.prog f ([Enc.v a0] ++ (List.range m).map c) (· = Enc.v r)) : Fun Tryd.prog 169 [Enc.v s1, g2V, Enc.v truth3] (· = Enc.v r) := by
  unfold X.strings_indexFunc at hX
  split at hX
  · rename_i ht
    injection hX with hX
    subst hX
    exact fun_indexFunc (Enters.of Tryd.func169 (by kernel_rfl) (by kernel_rfl)) (fun g lb eg p truth s w hp => Go.Proofs.Tryd.strings_indexFunc_grows g lb eg p truth s w hp) hg2V ht
  · cases hX

/-- strings.IndexFunc -/
theorem ok_strings_IndexFunc (s1 : Str) (g2 : I32 → Option Bool) (r : Int) (hX : X.strings_IndexFunc s1 g2 = some r) {g2V : AV} (hg2V : ∃ f m c, g2V = .fn f m c ∧ (∀ i, i < m → (c i).val) ∧ ∀ (a0 : I32) r, g2 a0 = some r → Fun Tryd.prog f ([Enc.v a0] ++ (List.range m).map c) (· = Enc.v r)) : Fun Tryd.prog 155 [Enc.v (s1 : Str), g2V] (· = Enc.v (r : Int)) := by
  obtain ⟨g2f, g2m, g2c, rfl, hg2v, hg2⟩ := hg2V
  refine Fun.of b155 (Nat.le_of_ble_eq_true rfl) (allVal.mem ⟨(by exact (v_val _)), hg2v, trivial⟩) ?_
  unfold k155
  have nd : Nd [] := Nd_nil
  unfold X.strings_IndexFunc at hX
  refine SR fun K3 hK3 => M rfl rfl (TL.nil (hK3 _ _ (SR fun K4 hK4 => M rfl rfl (M rfl rfl ?_))))
  obtain ⟨r5, hr5, hX⟩ := bind_some hX
  refine TL.cvX rfl rfl rfl (fun _ => ⟨rfl, ⟨rfl, ⟨rfl, ⟨rfl, trivial⟩⟩⟩⟩) (fun e => ok_strings_indexFunc s1 g2 true _ hr5 ⟨_, _, _, rfl, hg2v, hg2⟩) ?_
  refine M rfl rfl (TL.nil (hK4 _ _ ?_))
  refine TK.ret ?_
  try dsimp only [thenQ]
  exact R1 rfl hX

/-- strings.ContainsFunc -/
theorem ok_strings_ContainsFunc (s1 : Str) (g2 : I32 → Option Bool) (r : Bool) (hX : X.strings_ContainsFunc s1 g2 = some r) {g2V : AV} (hg2V : ∃ f m c, g2V = .fn f m c ∧ (∀ i, i < m → (c i).val) ∧ ∀ (a0 : I32) r, g2 a0 = some r → Fun Tryd.prog f ([Enc.v a0] ++ (List.range m).map c) (· = Enc.v r)) : Fun Tryd.prog 128 [Enc.v (s1 : Str), g2V] (· = Enc.v (r : Bool)) := by
  obtain ⟨g2f, g2m, g2c, rfl, hg2v, hg2⟩ := hg2V
  refine Fun.of b128 (Nat.le_of_ble_eq_true rfl) (allVal.mem ⟨(by exact (v_val _)), hg2v, trivial⟩) ?_
  unfold k128
  have nd : Nd [] := Nd_nil
  unfold X.strings_ContainsFunc at hX
  refine SR fun K3 hK3 => M rfl rfl (TL.nil (hK3 _ _ (SR fun K4 hK4 => M rfl rfl (M rfl rfl ?_))))
  obtain ⟨r5, hr5, hX⟩ := bind_some hX
  refine TL.cvX rfl rfl rfl (fun _ => ⟨rfl, ⟨rfl, ⟨rfl, trivial⟩⟩⟩) (fun e => ok_strings_IndexFunc s1 g2 _ hr5 ⟨_, _, _, rfl, hg2v, hg2⟩) ?_
  refine P1 (p_geq rfl rfl) rfl rfl (M rfl rfl (TL.nil (hK4 _ _ ?_)))
  refine TK.ret ?_
  try dsimp only [thenQ]
  exact R1 rfl hX

/-- cartridge/path.other -/
theorem ok_path_other (c1 : I32) (r : Bool) (hX : X.path_other c1 = some r) : Fun Tryd.prog 129 [Enc.v (c1 : I32)] (· = Enc.v (r : Bool)) := by
  refine Fun.of b129 (Nat.le_of_ble_eq_true rfl) (allVal.mem ⟨(by exact (v_val _)), trivial⟩) ?_
  unfold k129
  have nd : Nd [] := Nd_nil
  unfold X.path_other at hX
  refine SR fun K2 hK2 => M rfl rfl (TL.nil (hK2 _ _ (SR fun K3 hK3 => M rfl rfl (P1 (p_lss (a := c1.n) (b := (I32.mk (97)).n) rfl rfl) rfl rfl (M rfl rfl ?_)))))
  refine TLc.p (gc := (!((decide (c1.n < (I32.mk (97)).n))))) (p_mv rfl (hg := fun e => rfl)) (gcF1 rfl) rfl ?_
  refine TLc.p (gc := (!((decide (c1.n < (I32.mk (97)).n))))) (p_gtr (a := c1.n) (b := (I32.mk (122)).n) rfl rfl (hg := fun e => ⟨e, rfl⟩)) (gcF1 rfl) rfl ?_
  refine P1 (p_or rfl rfl (fun e => ⟨rfl, fun h => (not_t h)⟩)) rfl rfl (M rfl rfl ?_)
  refine TLc.p (gc := (((decide (c1.n < (I32.mk (97)).n)) || (decide (c1.n > (I32.mk (122)).n))))) (p_mv rfl (hg := fun e => rfl)) (gcT1 rfl) rfl ?_
  refine TLc.p (gc := (((decide (c1.n < (I32.mk (97)).n)) || (decide (c1.n > (I32.mk (122)).n))))) (p_lss (a := c1.n) (b := (I32.mk (48)).n) rfl rfl (hg := fun e => ⟨e, rfl⟩)) (gcT1 rfl) rfl ?_
  refine TLc.p (gc := (((decide (c1.n < (I32.mk (97)).n)) || (decide (c1.n > (I32.mk (122)).n))))) (p_mv rfl (hg := fun e => e)) (gcT1 rfl) rfl ?_
  refine TLc.p (gc := ((((decide (c1.n < (I32.mk (97)).n)) || (decide (c1.n > (I32.mk (122)).n)))) && (!((decide (c1.n < (I32.mk (48)).n)))))) (p_mv rfl (hg := fun e => rfl)) (gcF rfl) rfl ?_
  refine TLc.p (gc := ((((decide (c1.n < (I32.mk (97)).n)) || (decide (c1.n > (I32.mk (122)).n)))) && (!((decide (c1.n < (I32.mk (48)).n)))))) (p_gtr (a := c1.n) (b := (I32.mk (57)).n) rfl rfl (hg := fun e => ⟨e, rfl⟩)) (gcF rfl) rfl ?_
  refine TLc.p (gc := (((decide (c1.n < (I32.mk (97)).n)) || (decide (c1.n > (I32.mk (122)).n))))) (p_or rfl rfl (fun e => ⟨e, fun h => (and_i e (not_t h))⟩)) (gcT1 rfl) rfl ?_
  refine P1 (p_and rfl rfl (fun e => ⟨rfl, fun h => h⟩)) rfl rfl (M rfl rfl ?_)
  refine TLc.p (gc := ((((decide (c1.n < (I32.mk (97)).n)) || (decide (c1.n > (I32.mk (122)).n))) && ((decide (c1.n < (I32.mk (48)).n)) || (decide (c1.n > (I32.mk (57)).n)))))) (p_mv rfl (hg := fun e => rfl)) (gcT1 rfl) rfl ?_
  refine TLc.p (gc := ((((decide (c1.n < (I32.mk (97)).n)) || (decide (c1.n > (I32.mk (122)).n))) && ((decide (c1.n < (I32.mk (48)).n)) || (decide (c1.n > (I32.mk (57)).n)))))) (p_neq (a := c1.n) (b := (I32.mk (46)).n) rfl rfl (hg := fun e => ⟨e, rfl⟩)) (gcT1 rfl) rfl ?_
  refine P1 (p_and rfl rfl (fun e => ⟨rfl, fun h => h⟩)) rfl rfl (M rfl rfl ?_)
  refine TLc.p (gc := (((((decide (c1.n < (I32.mk (97)).n)) || (decide (c1.n > (I32.mk (122)).n))) && ((decide (c1.n < (I32.mk (48)).n)) || (decide (c1.n > (I32.mk (57)).n)))) && (c1.n != (I32.mk (46)).n)))) (p_mv rfl (hg := fun e => rfl)) (gcT1 rfl) rfl ?_
  refine TLc.p (gc := (((((decide (c1.n < (I32.mk (97)).n)) || (decide (c1.n > (I32.mk (122)).n))) && ((decide (c1.n < (I32.mk (48)).n)) || (decide (c1.n > (I32.mk (57)).n)))) && (c1.n != (I32.mk (46)).n)))) (p_neq (a := c1.n) (b := (I32.mk (45)).n) rfl rfl (hg := fun e => ⟨e, rfl⟩)) (gcT1 rfl) rfl ?_
  refine P1 (p_and rfl rfl (fun e => ⟨rfl, fun h => h⟩)) rfl rfl (M rfl rfl ?_)
  refine TLc.p (gc := ((((((decide (c1.n < (I32.mk (97)).n)) || (decide (c1.n > (I32.mk (122)).n))) && ((decide (c1.n < (I32.mk (48)).n)) || (decide (c1.n > (I32.mk (57)).n)))) && (c1.n != (I32.mk (46)).n)) && (c1.n != (I32.mk (45)).n)))) (p_mv rfl (hg := fun e => rfl)) (gcT1 rfl) rfl ?_
  refine TLc.p (gc := ((((((decide (c1.n < (I32.mk (97)).n)) || (decide (c1.n > (I32.mk (122)).n))) && ((decide (c1.n < (I32.mk (48)).n)) || (decide (c1.n > (I32.mk (57)).n)))) && (c1.n != (I32.mk (46)).n)) && (c1.n != (I32.mk (45)).n)))) (p_neq (a := c1.n) (b := (I32.mk (95)).n) rfl rfl (hg := fun e => ⟨e, rfl⟩)) (gcT1 rfl) rfl ?_
  refine P1 (p_and rfl rfl (fun e => ⟨rfl, fun h => h⟩)) rfl rfl (M rfl rfl (TL.nil (hK3 _ _ ?_)))
  refine TK.ret ?_
  try dsimp only [thenQ]
  exact R1 rfl hX

/-- cartridge/path.wrong -/
theorem ok_path_wrong (s1 : Str) (r : Bool) (hX : X.path_wrong s1 = some r) : Fun Tryd.prog 99 [Enc.v (s1 : Str)] (· = Enc.v (r : Bool)) := by
  refine Fun.of b99 (Nat.le_of_ble_eq_true rfl) (allVal.mem ⟨(by exact (v_val _)), trivial⟩) ?_
  unfold k99
  have nd : Nd [] := Nd_nil
  unfold X.path_wrong at hX
  refine SR fun K2 hK2 => M rfl rfl (TL.nil (hK2 _ _ (SR fun K3 hK3 => M rfl rfl (P1 (ps_eql (s := s1) (r := (Str.mk [])) rfl rfl) rfl rfl (M rfl rfl ?_)))))
  refine TLc.p (gc := (!((s1.l == (Str.mk []).l)))) (p_mv rfl (hg := fun e => rfl)) (gcF1 rfl) rfl ?_
  refine TLc.p (gc := (!((s1.l == (Str.mk []).l)))) (ps_eql (s := s1) (r := (Str.mk [46])) rfl rfl (hg := fun e => ⟨e, rfl⟩)) (gcF1 rfl) rfl ?_
  refine P1 (p_or rfl rfl (fun e => ⟨rfl, fun h => (not_t h)⟩)) rfl rfl (M rfl rfl ?_)
  refine TLc.p (gc := (!(((s1.l == (Str.mk []).l) || (s1.l == (Str.mk [46]).l))))) (p_mv rfl (hg := fun e => rfl)) (gcF1 rfl) rfl ?_
  refine TLc.p (gc := (!(((s1.l == (Str.mk []).l) || (s1.l == (Str.mk [46]).l))))) (ps_eql (s := s1) (r := (Str.mk [46, 46])) rfl rfl (hg := fun e => ⟨e, rfl⟩)) (gcF1 rfl) rfl ?_
  refine P1 (p_or rfl rfl (fun e => ⟨rfl, fun h => (not_t h)⟩)) rfl rfl (M rfl rfl ?_)
  refine TLc.p (gc := (!((((s1.l == (Str.mk []).l) || (s1.l == (Str.mk [46]).l)) || (s1.l == (Str.mk [46, 46]).l))))) (p_mv rfl (hg := fun e => rfl)) (gcF1 rfl) rfl ?_
  obtain ⟨r4, hr4, hX⟩ := bind_some hX
  refine TL.cvX (gcF1 rfl) rfl rfl (fun e => ⟨rfl, ⟨e, ⟨rfl, trivial⟩⟩⟩) (fun e => ok_strings_ContainsFunc s1 (fun a1 => X.path_other a1) _ (optG_t hr4 e) ⟨129, 0, ofL [], rfl, (fun i hi => by cases hi), fun a1 r hr => ok_path_other a1 r hr⟩) ?_
  refine P1 (p_or rfl rfl (fun e => ⟨rfl, fun h => (not_t h)⟩)) rfl rfl (M rfl rfl (TL.nil (hK3 _ _ ?_)))
  refine TK.ret ?_
  try dsimp only [thenQ]
  exact R1 rfl hX

/-- cartridge/path.Right -/
theorem ok_path_Right (s1 : Str) (r : Bool) (hX : X.path_Right s1 = some r) : Fun Tryd.prog 64 [Enc.v (s1 : Str)] (· = Enc.v (r : Bool)) := by
  refine Fun.of b64 (Nat.le_of_ble_eq_true rfl) (allVal.mem ⟨(by exact (v_val _)), trivial⟩) ?_
  unfold k64
  have nd : Nd [] := Nd_nil
  unfold X.path_Right at hX
  refine SR fun K2 hK2 => M rfl rfl (TL.nil (hK2 _ _ (SR fun K3 hK3 => M rfl rfl (P1 (p_lenS (s := s1) kd9 rfl) rfl rfl (P1 (p_leq rfl rfl) rfl rfl (M rfl rfl ?_))))))
  refine TLc.p (gc := ((decide ((s1.l.length : Int) ≤ (24 : Int))))) (p_mv rfl (hg := fun e => rfl)) (gcT1 rfl) rfl ?_
  obtain ⟨r4, hr4, hX⟩ := bind_some hX
  refine TL.cvX (gcT1 rfl) rfl rfl (fun e => ⟨rfl, ⟨e, ⟨rfl, trivial⟩⟩⟩) (fun e => ok_strings_Split_k47 s1 _ (optG_t hr4 e)) ?_
  obtain ⟨r5, hr5, hX⟩ := bind_some hX
  refine TL.cvX (gcT1 rfl) rfl rfl (fun e => ⟨rfl, ⟨e, ⟨rfl, trivial⟩⟩⟩) (fun e => ok_slices_ContainsFunc_Lstring_string r4 (fun a1 => X.path_wrong a1) _ (optG_t hr5 e) ⟨99, 0, ofL [], rfl, (fun i hi => by cases hi), fun a1 r hr => ok_path_wrong a1 r hr⟩) ?_
  refine TLc.p (gc := ((decide ((s1.l.length : Int) ≤ (24 : Int))))) (p_not rfl (hg := fun e => e)) (gcT1 rfl) rfl ?_
  refine P1 (p_and rfl rfl (fun e => ⟨rfl, fun h => h⟩)) rfl rfl (M rfl rfl (TL.nil (hK3 _ _ ?_)))
  refine TK.ret ?_
  try dsimp only [thenQ]
  exact R1 rfl hX

/-- cartridge/record.within -/
theorem ok_record_within (n1 : Int) (low2 : Int) (high3 : Int) (r : Bool) (hX : X.record_within n1 low2 high3 = some r) : Fun Tryd.prog 80 [Enc.v (n1 : Int), Enc.v (low2 : Int), Enc.v (high3 : Int)] (· = Enc.v (r : Bool)) := by
  refine Fun.of b80 (Nat.le_of_ble_eq_true rfl) (allVal.mem ⟨(by exact (v_val _)), (by exact (v_val _)), (by exact (v_val _)), trivial⟩) ?_
  unfold k80
  have nd : Nd [] := Nd_nil
  unfold X.record_within at hX
  refine SR fun K4 hK4 => M rfl rfl (TL.nil (hK4 _ _ (SR fun K5 hK5 => M rfl rfl (M rfl rfl (P1 (p_geq rfl rfl) rfl rfl (M rfl rfl ?_))))))
  refine TLc.p (gc := ((decide (n1 ≥ low2)))) (p_mv rfl (hg := fun e => rfl)) (gcT1 rfl) rfl ?_
  refine TLc.p (gc := ((decide (n1 ≥ low2)))) (p_mv rfl (hg := fun e => rfl)) (gcT1 rfl) rfl ?_
  refine TLc.p (gc := ((decide (n1 ≥ low2)))) (p_leq rfl rfl (hg := fun e => ⟨e, e⟩)) (gcT1 rfl) rfl ?_
  refine P1 (p_and rfl rfl (fun e => ⟨rfl, fun h => h⟩)) rfl rfl (M rfl rfl (TL.nil (hK5 _ _ ?_)))
  refine TK.ret ?_
  try dsimp only [thenQ]
  exact R1 rfl hX

/-- cartridge/record.RightHead -/
theorem ok_record_RightHead (h1 : Head_api) (r : Bool) (hX : X.record_RightHead h1 = some r) : Fun Tryd.prog 41 [Enc.v (h1 : Head_api)] (· = Enc.v (r : Bool)) := by
  refine Fun.of b41 (Nat.le_of_ble_eq_true rfl) (allVal.mem ⟨(by exact (v_val _)), trivial⟩) ?_
  unfold k41
  have nd : Nd [] := Nd_nil
  unfold X.record_RightHead at hX
  refine SR fun K2 hK2 => ?_
  refine TLc.boxV (lu := [Enc.v h1.Path, Enc.v h1.Version, Enc.v h1.Size, Enc.v h1.From, Enc.v h1.Len, Enc.v h1.Serial, Enc.v h1.Sum, Enc.v h1.Gone]) nd rfl (Cells_v (h1 : Head_api)) rfl ?_
  refine M rfl rfl (TL.nil (hK2 _ _ ?_))
  refine TK.seq_k fun K3 hK3 => ?_
  refine SR fun K4 hK4 => P1 (p_faR fs23_0 (by decide) rfl) rfl rfl (P1 (p_ldR (v := Enc.v h1.Path) ty9 rfl rfl rfl rfl rfl rfl) rfl rfl ?_)
  obtain ⟨r5, hr5, hX⟩ := bind_some hX
  refine TL.cvX rfl rfl rfl (fun _ => ⟨rfl, ⟨rfl, trivial⟩⟩) (fun e => ok_path_Right h1.Path _ hr5) ?_
  refine P1 (p_not rfl) rfl rfl (M rfl rfl ?_)
  refine TLc.p (gc := (!((!r5)))) (p_faR fs23_1 (by decide) rfl (hg := fun e => rfl)) (gcF1 rfl) rfl ?_
  refine TLc.p (gc := (!((!r5)))) (p_ldR (v := Enc.v h1.Version) ty3 rfl rfl rfl rfl rfl rfl (hg := fun e => e)) (gcF1 rfl) rfl ?_
  obtain ⟨r6, hr6, hX⟩ := bind_some hX
  refine TL.cvX (gcF1 rfl) rfl rfl (fun e => ⟨rfl, ⟨e, ⟨rfl, ⟨rfl, trivial⟩⟩⟩⟩) (fun e => ok_record_within h1.Version (1 : Int) (1073741824 : Int) _ (optG_t hr6 e)) ?_
  refine TLc.p (gc := (!((!r5)))) (p_not rfl (hg := fun e => e)) (gcF1 rfl) rfl ?_
  refine P1 (p_or rfl rfl (fun e => ⟨rfl, fun h => (not_t h)⟩)) rfl rfl (M rfl rfl ?_)
  refine TLc.p (gc := (!(((!r5) || (!r6))))) (p_faR fs23_5 (by decide) rfl (hg := fun e => rfl)) (gcF1 rfl) rfl ?_
  refine TLc.p (gc := (!(((!r5) || (!r6))))) (p_ldR (v := Enc.v h1.Serial) ty3 rfl rfl rfl rfl rfl rfl (hg := fun e => e)) (gcF1 rfl) rfl ?_
  obtain ⟨r7, hr7, hX⟩ := bind_some hX
  refine TL.cvX (gcF1 rfl) rfl rfl (fun e => ⟨rfl, ⟨e, ⟨rfl, ⟨rfl, trivial⟩⟩⟩⟩) (fun e => ok_record_within h1.Serial (1 : Int) (1073741824 : Int) _ (optG_t hr7 e)) ?_
  refine TLc.p (gc := (!(((!r5) || (!r6))))) (p_not rfl (hg := fun e => e)) (gcF1 rfl) rfl ?_
  refine P1 (p_or rfl rfl (fun e => ⟨rfl, fun h => (not_t h)⟩)) rfl rfl (M rfl rfl ?_)
  refine TLc.p (gc := (!((((!r5) || (!r6)) || (!r7))))) (p_faR fs23_2 (by decide) rfl (hg := fun e => rfl)) (gcF1 rfl) rfl ?_
  refine TLc.p (gc := (!((((!r5) || (!r6)) || (!r7))))) (p_ldR (v := Enc.v h1.Size) ty3 rfl rfl rfl rfl rfl rfl (hg := fun e => e)) (gcF1 rfl) rfl ?_
  obtain ⟨r8, hr8, hX⟩ := bind_some hX
  refine TL.cvX (gcF1 rfl) rfl rfl (fun e => ⟨rfl, ⟨e, ⟨rfl, ⟨rfl, trivial⟩⟩⟩⟩) (fun e => ok_record_within h1.Size (0 : Int) (4000 : Int) _ (optG_t hr8 e)) ?_
  refine TLc.p (gc := (!((((!r5) || (!r6)) || (!r7))))) (p_not rfl (hg := fun e => e)) (gcF1 rfl) rfl ?_
  refine P1 (p_or rfl rfl (fun e => ⟨rfl, fun h => (not_t h)⟩)) rfl rfl (M rfl rfl ?_)
  refine TLc.p (gc := (!(((((!r5) || (!r6)) || (!r7)) || (!r8))))) (p_faR fs23_6 (by decide) rfl (hg := fun e => rfl)) (gcF1 rfl) rfl ?_
  refine TLc.p (gc := (!(((((!r5) || (!r6)) || (!r7)) || (!r8))))) (p_ldR (v := Enc.v h1.Sum) ty3 rfl rfl rfl rfl rfl rfl (hg := fun e => e)) (gcF1 rfl) rfl ?_
  obtain ⟨r9, hr9, hX⟩ := bind_some hX
  refine TL.cvX (gcF1 rfl) rfl rfl (fun e => ⟨rfl, ⟨e, ⟨rfl, ⟨rfl, trivial⟩⟩⟩⟩) (fun e => ok_record_within h1.Sum (0 : Int) (4294967295 : Int) _ (optG_t hr9 e)) ?_
  refine TLc.p (gc := (!(((((!r5) || (!r6)) || (!r7)) || (!r8))))) (p_not rfl (hg := fun e => e)) (gcF1 rfl) rfl ?_
  refine P1 (p_or rfl rfl (fun e => ⟨rfl, fun h => (not_t h)⟩)) rfl rfl (TL.nil (hK4 _ _ ?_))
  refine TK.cond (b := (((((!r5) || (!r6)) || (!r7)) || (!r8)) || (!r9))) rfl (fun hc => ?_) (fun hc => ?_)
  · have hX := ite_t hc hX
    refine SR fun K10 hK10 => M rfl rfl (TL.nil (hK10 _ _ ?_))
    refine TK.ret ?_
    try dsimp only [thenQ]
    exact R1 rfl hX
  · have hX := ite_f hc hX
    refine TK.skip ?_
    refine hK3 _ _ ?_
    refine TK.seq_k fun K11 hK11 => ?_
    refine SR fun K12 hK12 => P1 (p_faR fs23_3 (by decide) rfl) rfl rfl (P1 (p_ldR (v := Enc.v h1.From) ty3 rfl rfl rfl rfl rfl rfl) rfl rfl (P1 (p_faR fs23_2 (by decide) rfl) rfl rfl (P1 (p_ldR (v := Enc.v h1.Size) ty3 rfl rfl rfl rfl rfl rfl) rfl rfl ?_)))
    obtain ⟨r13, hr13, hX⟩ := bind_some hX
    refine TL.cvX rfl rfl rfl (fun _ => ⟨rfl, ⟨rfl, ⟨rfl, ⟨rfl, trivial⟩⟩⟩⟩) (fun e => ok_record_within h1.From (0 : Int) h1.Size _ hr13) ?_
    refine P1 (p_not rfl) rfl rfl (M rfl rfl ?_)
    refine TLc.p (gc := (!((!r13)))) (p_faR fs23_4 (by decide) rfl (hg := fun e => rfl)) (gcF1 rfl) rfl ?_
    refine TLc.p (gc := (!((!r13)))) (p_ldR (v := Enc.v h1.Len) ty3 rfl rfl rfl rfl rfl rfl (hg := fun e => e)) (gcF1 rfl) rfl ?_
    refine TLc.p (gc := (!((!r13)))) (p_faR fs23_2 (by decide) rfl (hg := fun e => rfl)) (gcF1 rfl) rfl ?_
    refine TLc.p (gc := (!((!r13)))) (p_ldR (v := Enc.v h1.Size) ty3 rfl rfl rfl rfl rfl rfl (hg := fun e => e)) (gcF1 rfl) rfl ?_
    refine TLc.p (gc := (!((!r13)))) (p_faR fs23_3 (by decide) rfl (hg := fun e => rfl)) (gcF1 rfl) rfl ?_
    refine TLc.p (gc := (!((!r13)))) (p_ldR (v := Enc.v h1.From) ty3 rfl rfl rfl rfl rfl rfl (hg := fun e => e)) (gcF1 rfl) rfl ?_
    refine TLc.p (gc := (!((!r13)))) (p_sub rfl rfl (hg := fun e => ⟨e, e⟩)) (gcF1 rfl) rfl ?_
    obtain ⟨r14, hr14, hX⟩ := bind_some hX
    refine TL.cvX (gcF1 rfl) rfl rfl (fun e => ⟨rfl, ⟨e, ⟨rfl, ⟨e, trivial⟩⟩⟩⟩) (fun e => ok_record_within h1.Len (0 : Int) (wr (h1.Size - h1.From)) _ (optG_t hr14 e)) ?_
    refine TLc.p (gc := (!((!r13)))) (p_not rfl (hg := fun e => e)) (gcF1 rfl) rfl ?_
    refine P1 (p_or rfl rfl (fun e => ⟨rfl, fun h => (not_t h)⟩)) rfl rfl (M rfl rfl ?_)
    refine TLc.p (gc := (!(((!r13) || (!r14))))) (p_faR fs23_4 (by decide) rfl (hg := fun e => rfl)) (gcF1 rfl) rfl ?_
    refine TLc.p (gc := (!(((!r13) || (!r14))))) (p_ldR (v := Enc.v h1.Len) ty3 rfl rfl rfl rfl rfl rfl (hg := fun e => e)) (gcF1 rfl) rfl ?_
    refine TLc.p (gc := (!(((!r13) || (!r14))))) (p_eql rfl rfl (hg := fun e => ⟨e, rfl⟩)) (gcF1 rfl) rfl ?_
    refine TLc.p (gc := (!(((!r13) || (!r14))))) (p_mv rfl (hg := fun e => e)) (gcF1 rfl) rfl ?_
    refine TLc.p (gc := ((!(((!r13) || (!r14)))) && ((h1.Len == (0 : Int))))) (p_faR fs23_2 (by decide) rfl (hg := fun e => rfl)) (gcT rfl) rfl ?_
    refine TLc.p (gc := ((!(((!r13) || (!r14)))) && ((h1.Len == (0 : Int))))) (p_ldR (v := Enc.v h1.Size) ty3 rfl rfl rfl rfl rfl rfl (hg := fun e => e)) (gcT rfl) rfl ?_
    refine TLc.p (gc := ((!(((!r13) || (!r14)))) && ((h1.Len == (0 : Int))))) (p_gtr rfl rfl (hg := fun e => ⟨e, rfl⟩)) (gcT rfl) rfl ?_
    refine TLc.p (gc := (!(((!r13) || (!r14))))) (p_and rfl rfl (fun e => ⟨e, fun h => (and_i e h)⟩)) (gcF1 rfl) rfl ?_
    refine P1 (p_or rfl rfl (fun e => ⟨rfl, fun h => (not_t h)⟩)) rfl rfl (TL.nil (hK12 _ _ ?_))
    refine TK.cond (b := (((!r13) || (!r14)) || ((h1.Len == (0 : Int)) && (decide (h1.Size > (0 : Int)))))) rfl (fun hc => ?_) (fun hc => ?_)
    · have hX := ite_t hc hX
      refine SR fun K15 hK15 => M rfl rfl (TL.nil (hK15 _ _ ?_))
      refine TK.ret ?_
      try dsimp only [thenQ]
      exact R1 rfl hX
    · have hX := ite_f hc hX
      refine TK.skip ?_
      refine hK11 _ _ (SR fun K16 hK16 => P1 (p_faR fs23_7 (by decide) rfl) rfl rfl (P1 (p_ldR (v := Enc.v h1.Gone) ty4 rfl rfl rfl rfl rfl rfl) rfl rfl (P1 (p_not rfl) rfl rfl (M rfl rfl ?_))))
      refine TLc.p (gc := (!((!h1.Gone)))) (p_faR fs23_2 (by decide) rfl (hg := fun e => rfl)) (gcF1 rfl) rfl ?_
      refine TLc.p (gc := (!((!h1.Gone)))) (p_ldR (v := Enc.v h1.Size) ty3 rfl rfl rfl rfl rfl rfl (hg := fun e => e)) (gcF1 rfl) rfl ?_
      refine TLc.p (gc := (!((!h1.Gone)))) (p_eql rfl rfl (hg := fun e => ⟨e, rfl⟩)) (gcF1 rfl) rfl ?_
      refine TLc.p (gc := (!((!h1.Gone)))) (p_mv rfl (hg := fun e => e)) (gcF1 rfl) rfl ?_
      refine TLc.p (gc := ((!((!h1.Gone))) && ((h1.Size == (0 : Int))))) (p_faR fs23_6 (by decide) rfl (hg := fun e => rfl)) (gcT rfl) rfl ?_
      refine TLc.p (gc := ((!((!h1.Gone))) && ((h1.Size == (0 : Int))))) (p_ldR (v := Enc.v h1.Sum) ty3 rfl rfl rfl rfl rfl rfl (hg := fun e => e)) (gcT rfl) rfl ?_
      refine TLc.p (gc := ((!((!h1.Gone))) && ((h1.Size == (0 : Int))))) (p_eql rfl rfl (hg := fun e => ⟨e, rfl⟩)) (gcT rfl) rfl ?_
      refine TLc.p (gc := (!((!h1.Gone)))) (p_and rfl rfl (fun e => ⟨e, fun h => (and_i e h)⟩)) (gcF1 rfl) rfl ?_
      refine P1 (p_or rfl rfl (fun e => ⟨rfl, fun h => (not_t h)⟩)) rfl rfl (M rfl rfl (TL.nil (hK16 _ _ ?_)))
      refine TK.ret ?_
      try dsimp only [thenQ]
      exact R1 rfl hX

/-- (*cartridge/code.Writer).Text -/
theorem ok_code_Writer_Text (s4 : Str) (b1 : (List UInt8)) (b2 : Nat) (b3 : Nat) (nd : Nd [(b2, RV 147 [OL (α := UInt8) b3 b1]), (b3, RL (α := UInt8) 5 b1)]) (r : (List UInt8)) (hX : X.code_Writer_Text s4 b1 = some r) : TCX Tryd.prog 81 [.ref b2 0 1, Enc.v (s4 : Str)] [(b2, RV 147 [OL (α := UInt8) b3 b1]), (b3, RL (α := UInt8) 5 b1)] (fun rv h' => ∃ b12, rv = .tup 0 (ofL []) ∧ h' = [(b2, RV 147 [OL (α := UInt8) b12 r]), (b12, RL (α := UInt8) 5 r)]) := by
  refine TCX.of b81 (Nat.le_of_ble_eq_true rfl) ?_
  unfold k81
  unfold X.code_Writer_Text at hX
  refine TK.endK fun KE hKE => ?_
  refine SR fun K5 hK5 => M rfl rfl (M rfl rfl (P1 (p_lenS (s := s4) kd9 rfl) rfl rfl (P1 (p_min rfl rfl) rfl rfl ?_)))
  obtain ⟨u6, hu6, hX⟩ := bind_some hX
  refine P1 (p_sliS (s := s4) (l := (0 : Int)) (k := (min (s4.l.length : Int) (255 : Int))) kd9 rfl rfl (fun n hn => rfl) (fun e => need_t hu6)) rfl rfl (M rfl rfl (TL.nil (hK5 _ _ (SR fun K7 hK7 => M rfl rfl (M rfl rfl (P1 (p_ncR rfl (fun _ => refOK_of nd (j := 0) rfl rfl)) rfl rfl (P1 (p_faV fs147_0 (by decide) rfl nd (j := 0) rfl rfl) rfl rfl ?_)))))))
  refine P1 (p_ldV (v := OL b3 b1) ty24 rfl rfl nd (j := 0) rfl rfl rfl rfl rfl) rfl rfl (M rfl rfl (P1 (p_lenS (s := (Str.mk (slc s4.l (0 : Int) (min (s4.l.length : Int) (255 : Int))))) kd9 rfl) rfl rfl (P1 (p_cvt src3 kd5 rfl (cv_u8 _)) rfl rfl ?_)))
  refine TLc.lit ([(u8 ((Str.mk (slc s4.l (0 : Int) (min (s4.l.length : Int) (255 : Int)))).l.length : Int))] : List UInt8) kd24 ty5 rfl ⟨⟨rfl, rfl⟩, trivial⟩ rfl rfl rfl ?_
  obtain ⟨u9, hu9, hX⟩ := bind_some hX
  refine TLc.appO nd kd24 bo24 ty5 rfl rfl (j := 1) rfl rfl (Src_L _) (by decide) (need_t hu9) rfl fun nd => ?_
  refine P1 (p_ncR rfl (fun _ => refOK_of nd (j := 0) rfl rfl)) rfl rfl (P1 (p_faV fs147_0 (by decide) rfl nd (j := 0) rfl rfl) rfl rfl ?_)
  refine TLc.stV (lu := [OL (α := UInt8) b3 (b1 ++ ([(u8 ((Str.mk (slc s4.l (0 : Int) (min (s4.l.length : Int) (255 : Int)))).l.length : Int))] : List UInt8))]) nd ty24 rfl (j := 0) rfl rfl rfl (Cells_rs (refOK_of nd (j := 1) rfl rfl)) rfl rfl [OL (α := UInt8) b3 (b1 ++ ([(u8 ((Str.mk (slc s4.l (0 : Int) (min (s4.l.length : Int) (255 : Int)))).l.length : Int))] : List UInt8))] rfl fun nd => ?_
  refine TL.nil (hK7 _ _ ?_)
  refine TK.reg ?_
  refine M rfl rfl (M rfl rfl (P1 (p_ncR rfl (fun _ => refOK_of nd (j := 0) rfl rfl)) rfl rfl (P1 (p_faV fs147_0 (by decide) rfl nd (j := 0) rfl rfl) rfl rfl (P1 (p_ldV (v := OL (α := UInt8) b3 (b1 ++ ([(u8 ((Str.mk (slc s4.l (0 : Int) (min (s4.l.length : Int) (255 : Int)))).l.length : Int))] : List UInt8))) ty24 rfl rfl nd (j := 0) rfl rfl rfl rfl rfl) rfl rfl (M rfl rfl ?_)))))
  obtain ⟨u10, hu10, hX⟩ := bind_some hX
  refine TLc.appO nd kd24 bo9 ty5 rfl rfl (j := 1) rfl rfl (Src_str (Str.mk (slc s4.l (0 : Int) (min (s4.l.length : Int) (255 : Int))))) (by decide) (need_t hu10) rfl fun nd => ?_
  refine P1 (p_ncR rfl (fun _ => refOK_of nd (j := 0) rfl rfl)) rfl rfl (P1 (p_faV fs147_0 (by decide) rfl nd (j := 0) rfl rfl) rfl rfl ?_)
  refine TLc.stV (lu := [OL (α := UInt8) b3 ((b1 ++ ([(u8 ((Str.mk (slc s4.l (0 : Int) (min (s4.l.length : Int) (255 : Int)))).l.length : Int))] : List UInt8)) ++ (Str.mk (slc s4.l (0 : Int) (min (s4.l.length : Int) (255 : Int)))).l)]) nd ty24 rfl (j := 0) rfl rfl rfl (Cells_rs (refOK_of nd (j := 1) rfl rfl)) rfl rfl [OL (α := UInt8) b3 ((b1 ++ ([(u8 ((Str.mk (slc s4.l (0 : Int) (min (s4.l.length : Int) (255 : Int)))).l.length : Int))] : List UInt8)) ++ (Str.mk (slc s4.l (0 : Int) (min (s4.l.length : Int) (255 : Int)))).l)] rfl fun nd => ?_
  refine TL.nil (hKE _ _ (TL.nil ?_))
  try dsimp only [thenQ]
  refine RetQ_end ?_
  exact retX (v := .tup 0 (ofL [])) res0 (by obtain rfl := some_in hX; exact ⟨b3, rfl, rfl⟩) nd (inH_tup (l := []) trivial) ⟨rowIn_RV ⟨inH_rs nd (j := 1) rfl, trivial⟩, rowIn_RL, trivial⟩

/-- (*cartridge/code.Writer).Int -/
theorem ok_code_Writer_Int (n4 : Int) (b1 : (List UInt8)) (b2 : Nat) (b3 : Nat) (nd : Nd [(b2, RV 147 [OL (α := UInt8) b3 b1]), (b3, RL (α := UInt8) 5 b1)]) (r : (List UInt8)) (hX : X.code_Writer_Int n4 b1 = some r) : TCX Tryd.prog 82 [.ref b2 0 1, Enc.v (n4 : Int)] [(b2, RV 147 [OL (α := UInt8) b3 b1]), (b3, RL (α := UInt8) 5 b1)] (fun rv h' => ∃ b8, rv = .tup 0 (ofL []) ∧ h' = [(b2, RV 147 [OL (α := UInt8) b8 r]), (b8, RL (α := UInt8) 5 r)]) := by
  refine TCX.of b82 (Nat.le_of_ble_eq_true rfl) ?_
  unfold k82
  unfold X.code_Writer_Int at hX
  refine TK.endK fun KE hKE => ?_
  refine SR fun K5 hK5 => M rfl rfl (P1 (p_cvt src3 kd106 rfl (cv_u32 _)) rfl rfl (M rfl rfl (TL.nil (hK5 _ _ ?_))))
  refine TK.reg ?_
  refine M rfl rfl (M rfl rfl (P1 (p_ncR rfl (fun _ => refOK_of nd (j := 0) rfl rfl)) rfl rfl (P1 (p_faV fs147_0 (by decide) rfl nd (j := 0) rfl rfl) rfl rfl (P1 (p_ldV (v := OL b3 b1) ty24 rfl rfl nd (j := 0) rfl rfl rfl rfl rfl) rfl rfl (M rfl rfl (P1 (p32_shr (a := (u32 n4)) (b := 24) rfl rfl) rfl rfl (P1 (p_cvt src106 kd5 rfl (cv_u8 _)) rfl rfl (M rfl rfl ?_))))))))
  refine P1 (p32_shr (a := (u32 n4)) (b := 16) rfl rfl) rfl rfl (P1 (p_cvt src106 kd5 rfl (cv_u8 _)) rfl rfl (M rfl rfl (P1 (p32_shr (a := (u32 n4)) (b := 8) rfl rfl) rfl rfl (P1 (p_cvt src106 kd5 rfl (cv_u8 _)) rfl rfl (M rfl rfl (P1 (p_cvt src106 kd5 rfl (cv_u8 _)) rfl rfl ?_))))))
  refine TLc.lit ([(u8 ((shr32 (u32 n4) 24).toNat : Int)), (u8 ((shr32 (u32 n4) 16).toNat : Int)), (u8 ((shr32 (u32 n4) 8).toNat : Int)), (u8 ((u32 n4).toNat : Int))] : List UInt8) kd24 ty5 rfl ⟨⟨rfl, rfl⟩, ⟨rfl, rfl⟩, ⟨rfl, rfl⟩, ⟨rfl, rfl⟩, trivial⟩ rfl rfl rfl ?_
  obtain ⟨u6, hu6, hX⟩ := bind_some hX
  refine TLc.appO nd kd24 bo24 ty5 rfl rfl (j := 1) rfl rfl (Src_L _) (by decide) (need_t hu6) rfl fun nd => ?_
  refine P1 (p_ncR rfl (fun _ => refOK_of nd (j := 0) rfl rfl)) rfl rfl (P1 (p_faV fs147_0 (by decide) rfl nd (j := 0) rfl rfl) rfl rfl ?_)
  refine TLc.stV (lu := [OL (α := UInt8) b3 (b1 ++ ([(u8 ((shr32 (u32 n4) 24).toNat : Int)), (u8 ((shr32 (u32 n4) 16).toNat : Int)), (u8 ((shr32 (u32 n4) 8).toNat : Int)), (u8 ((u32 n4).toNat : Int))] : List UInt8))]) nd ty24 rfl (j := 0) rfl rfl rfl (Cells_rs (refOK_of nd (j := 1) rfl rfl)) rfl rfl [OL (α := UInt8) b3 (b1 ++ ([(u8 ((shr32 (u32 n4) 24).toNat : Int)), (u8 ((shr32 (u32 n4) 16).toNat : Int)), (u8 ((shr32 (u32 n4) 8).toNat : Int)), (u8 ((u32 n4).toNat : Int))] : List UInt8))] rfl fun nd => ?_
  refine TL.nil (hKE _ _ (TL.nil ?_))
  try dsimp only [thenQ]
  refine RetQ_end ?_
  exact retX (v := .tup 0 (ofL [])) res0 (by obtain rfl := some_in hX; exact ⟨b3, rfl, rfl⟩) nd (inH_tup (l := []) trivial) ⟨rowIn_RV ⟨inH_rs nd (j := 1) rfl, trivial⟩, rowIn_RL, trivial⟩

/-- (*cartridge/code.Writer).Byte -/
theorem ok_code_Writer_Byte (c4 : UInt8) (b1 : (List UInt8)) (b2 : Nat) (b3 : Nat) (nd : Nd [(b2, RV 147 [OL (α := UInt8) b3 b1]), (b3, RL (α := UInt8) 5 b1)]) (r : (List UInt8)) (hX : X.code_Writer_Byte c4 b1 = some r) : TCX Tryd.prog 83 [.ref b2 0 1, Enc.v (c4 : UInt8)] [(b2, RV 147 [OL (α := UInt8) b3 b1]), (b3, RL (α := UInt8) 5 b1)] (fun rv h' => ∃ b7, rv = .tup 0 (ofL []) ∧ h' = [(b2, RV 147 [OL (α := UInt8) b7 r]), (b7, RL (α := UInt8) 5 r)]) := by
  refine TCX.of b83 (Nat.le_of_ble_eq_true rfl) ?_
  unfold k83
  unfold X.code_Writer_Byte at hX
  refine TK.endK fun KE hKE => ?_
  refine TK.reg ?_
  refine M rfl rfl (M rfl rfl (P1 (p_ncR rfl (fun _ => refOK_of nd (j := 0) rfl rfl)) rfl rfl (P1 (p_faV fs147_0 (by decide) rfl nd (j := 0) rfl rfl) rfl rfl (P1 (p_ldV (v := OL b3 b1) ty24 rfl rfl nd (j := 0) rfl rfl rfl rfl rfl) rfl rfl (M rfl rfl ?_)))))
  refine TLc.lit ([c4] : List UInt8) kd24 ty5 rfl ⟨⟨rfl, rfl⟩, trivial⟩ rfl rfl rfl ?_
  obtain ⟨u5, hu5, hX⟩ := bind_some hX
  refine TLc.appO nd kd24 bo24 ty5 rfl rfl (j := 1) rfl rfl (Src_L _) (by decide) (need_t hu5) rfl fun nd => ?_
  refine P1 (p_ncR rfl (fun _ => refOK_of nd (j := 0) rfl rfl)) rfl rfl (P1 (p_faV fs147_0 (by decide) rfl nd (j := 0) rfl rfl) rfl rfl ?_)
  refine TLc.stV (lu := [OL (α := UInt8) b3 (b1 ++ ([c4] : List UInt8))]) nd ty24 rfl (j := 0) rfl rfl rfl (Cells_rs (refOK_of nd (j := 1) rfl rfl)) rfl rfl [OL (α := UInt8) b3 (b1 ++ ([c4] : List UInt8))] rfl fun nd => ?_
  refine TL.nil (hKE _ _ (TL.nil ?_))
  try dsimp only [thenQ]
  refine RetQ_end ?_
  exact retX (v := .tup 0 (ofL [])) res0 (by obtain rfl := some_in hX; exact ⟨b3, rfl, rfl⟩) nd (inH_tup (l := []) trivial) ⟨rowIn_RV ⟨inH_rs nd (j := 1) rfl, trivial⟩, rowIn_RL, trivial⟩

/-- slices.Clone[[]byte,byte] -/
theorem ok_slices_Clone_Lbyte_byte_own (s1 : (List UInt8)) (b2 : Nat) (nd : Nd [(b2, RL (α := UInt8) 5 s1)]) (r : (List UInt8)) (hX : X.slices_Clone_Lbyte_byte_own s1 = some r) : TCX Tryd.prog 66 [OL (α := UInt8) b2 s1] [(b2, RL (α := UInt8) 5 s1)] (fun rv h' => rv = Enc.v (r : (List UInt8)) ∧ h' = [(b2, RL (α := UInt8) 5 s1)]) := by
  refine TCX.of b66 (Nat.le_of_ble_eq_true rfl) ?_
  unfold k66
  unfold X.slices_Clone_Lbyte_byte_own at hX
  refine SR fun K3 hK3 => M rfl rfl (TL.nil (hK3 _ _ ?_))
  refine TK.seq_k fun K4 hK4 => ?_
  refine SR fun K5 hK5 => M rfl rfl ?_
  refine TLc.eqNilO (xs := s1) nd kd24 rfl rfl (j := 0) rfl rfl fun z6 hbz6 => ?_
  replace hX := nilU_t hX hbz6
  refine TL.nil (hK5 _ _ ?_)
  refine TK.cond (b := z6) rfl (fun hc => ?_) (fun hc => ?_)
  · have hX := ite_t hc hX
    refine SR fun K7 hK7 => M rfl rfl (TL.nil (hK7 _ _ ?_))
    refine TK.wk 2 (L ([] : (List UInt8))) rfl Wk_nil ?_
    refine TK.ret ?_
    try dsimp only [thenQ]
    exact retX (v := Enc.v (([] : (List UInt8)) : (List UInt8))) (res1 rfl) (by obtain rfl := some_in hX; exact ⟨rfl, rfl⟩) nd (inH_val (v_val _)) ⟨rowIn_RL, trivial⟩
  · have hX := ite_f hc hX
    refine TK.skip ?_
    refine hK4 _ _ (SR fun K8 hK8 => ?_)
    refine TLc.litZ kd24 ty5 rfl ?_
    refine M rfl rfl ?_
    obtain ⟨u9, hu9, hX⟩ := bind_some hX
    refine TLc.appN nd kd24 bo24 ty5 rfl rfl (.inr rfl) rfl (Src_OL nd (j := 0) rfl) (by decide) (need_t hu9) rfl fun b10 nd => ?_
    refine M rfl rfl (TL.nil (hK8 _ _ ?_))
    refine TK.lay [(2, L s1)] nd (j := 0) rfl ⟨⟨_, rfl, fix_OL nd (j := 0) rfl, rfl⟩, trivial⟩ fun nd => ?_
    refine TK.ret ?_
    try dsimp only [thenQ]
    exact retX (v := Enc.v s1) (res1 rfl) (by obtain rfl := some_in hX; exact ⟨rfl, rfl⟩) nd (inH_val (v_val _)) ⟨rowIn_RL, trivial⟩

/-- (*cartridge/code.Writer).Bytes -/
theorem ok_code_Writer_Bytes (b1 : (List UInt8)) (b2 : Nat) (b3 : Nat) (nd : Nd [(b2, RV 147 [OL (α := UInt8) b3 b1]), (b3, RL (α := UInt8) 5 b1)]) (r : (List UInt8)) (hX : X.code_Writer_Bytes b1 = some r) : TCX Tryd.prog 84 [.ref b2 0 1] [(b2, RV 147 [OL (α := UInt8) b3 b1]), (b3, RL (α := UInt8) 5 b1)] (fun rv h' => rv = Enc.v (r : (List UInt8)) ∧ h' = [(b2, RV 147 [OL (α := UInt8) b3 b1]), (b3, RL (α := UInt8) 5 b1)]) := by
  refine TCX.of b84 (Nat.le_of_ble_eq_true rfl) ?_
  unfold k84
  unfold X.code_Writer_Bytes at hX
  refine SR fun K4 hK4 => M rfl rfl (TL.nil (hK4 _ _ (SR fun K5 hK5 => M rfl rfl (P1 (p_ncR rfl (fun _ => refOK_of nd (j := 0) rfl rfl)) rfl rfl (P1 (p_faV fs147_0 (by decide) rfl nd (j := 0) rfl rfl) rfl rfl (P1 (p_ldV (v := OL b3 b1) ty24 rfl rfl nd (j := 0) rfl rfl rfl rfl rfl) rfl rfl ?_))))))
  obtain ⟨r6, hr6, hX⟩ := bind_some hX
  refine TL.pick [1, 0] nd (by decide) fun nd => ?_
  refine TL.tcX [(b3, RL (α := UInt8) 5 b1)] [(b2, RV 147 [OL b3 b1])] rfl nd (dlt rfl) rfl ⟨rfl, ⟨rfl, trivial⟩⟩ (ok_slices_Clone_Lbyte_byte_own b1 b3 (Nd.take nd 1 rfl) _ hr6) ?_
  rintro _ _ hQ nd
  obtain ⟨rfl, rfl⟩ := hQ
  refine M rfl rfl (TL.nil (hK5 _ _ ?_))
  refine TK.pick [1, 0] nd (by decide) fun nd => ?_
  refine TK.ret ?_
  try dsimp only [thenQ]
  exact retX (v := Enc.v r6) (res1 rfl) (by obtain rfl := some_in hX; exact ⟨rfl, rfl⟩) nd (inH_val (v_val _)) ⟨rowIn_RV ⟨inH_rs nd (j := 1) rfl, trivial⟩, rowIn_RL, trivial⟩

/-- cartridge/record.HeadBytes -/
theorem ok_record_HeadBytes (h1 : Head_api) (r : (List UInt8)) (hX : X.record_HeadBytes h1 = some r) : Fun Tryd.prog 42 [Enc.v (h1 : Head_api)] (· = Enc.v (r : (List UInt8))) := by
  refine Fun.of b42 (Nat.le_of_ble_eq_true rfl) (allVal.mem ⟨(by exact (v_val _)), trivial⟩) ?_
  unfold k42
  have nd : Nd [] := Nd_nil
  unfold X.record_HeadBytes at hX
  refine SR fun K2 hK2 => ?_
  refine TLc.boxV (lu := [Enc.v h1.Path, Enc.v h1.Version, Enc.v h1.Size, Enc.v h1.From, Enc.v h1.Len, Enc.v h1.Serial, Enc.v h1.Sum, Enc.v h1.Gone]) nd rfl (Cells_v (h1 : Head_api)) rfl ?_
  refine M rfl rfl (TL.nil (hK2 _ _ ?_))
  refine TK.seq_k fun K3 hK3 => ?_
  refine SR fun K4 hK4 => P1 (p_ldRa (l' := Enc.cl (h1 : Head_api)) ty23 rfl rfl rfl rfl rfl (Nat.le_of_ble_eq_true rfl)) rfl rfl ?_
  obtain ⟨r5, hr5, hX⟩ := bind_some hX
  refine TL.cvX rfl rfl rfl (fun _ => ⟨rfl, ⟨rfl, trivial⟩⟩) (fun e => ok_record_RightHead h1 _ hr5) ?_
  refine P1 (p_not rfl) rfl rfl (TL.nil (hK4 _ _ ?_))
  refine TK.cond (b := (!r5)) rfl (fun hc => ?_) (fun hc => ?_)
  · have hX := ite_t hc hX
    refine SR fun K6 hK6 => M rfl rfl (TL.nil (hK6 _ _ ?_))
    refine TK.wk 2 (L ([] : (List UInt8))) rfl Wk_nil ?_
    refine TK.ret ?_
    try dsimp only [thenQ]
    exact R1 rfl hX
  · have hX := ite_f hc hX
    refine TK.skip ?_
    refine hK3 _ _ (SR fun K7 hK7 => P1 (p_bld (l := [.nils]) ty147 rfl all147 rfl (fun _ => trivial)) rfl rfl ?_)
    refine TLc.boxO (lu := [.nils]) nd rfl (Cells_agg rfl (allA.mem ⟨trivial, trivial⟩)) rfl fun b8 nd => ?_
    refine M rfl rfl (TL.nil (hK7 _ _ ?_))
    refine TK.ownC (α := UInt8) nd (j := 0) rfl 0 5 (.inl rfl) fun b9 nd => ?_
    refine SR fun K10 hK10 => M rfl rfl (P1 (p_faR fs23_0 (by decide) rfl) rfl rfl (P1 (p_ldR (v := Enc.v h1.Path) ty9 rfl rfl rfl rfl rfl rfl) rfl rfl ?_))
    obtain ⟨r11, hr11, hX⟩ := bind_some hX
    refine TL.pick [1, 0] nd (by decide) fun nd => ?_
    refine TL.tcX [(b8, RV 147 [OL (α := UInt8) b9 ([] : List UInt8)]), (b9, RL (α := UInt8) 5 ([] : List UInt8))] [] rfl nd (dlt rfl) rfl ⟨rfl, ⟨rfl, ⟨rfl, trivial⟩⟩⟩ (ok_code_Writer_Text h1.Path ([] : List UInt8) b8 b9 (Nd.take nd 2 rfl) _ hr11) ?_
    rintro _ _ hQ nd
    obtain ⟨b13, rfl, rfl⟩ := hQ
    refine TL.nil (hK10 _ _ ?_)
    refine TK.seq_k fun K14 hK14 => ?_
    refine SR fun K15 hK15 => P1 (p_faR fs23_1 (by decide) rfl) rfl rfl (P1 (p_ldR (v := Enc.v h1.Version) ty3 rfl rfl rfl rfl rfl rfl) rfl rfl (P1 (p_faR fs23_2 (by decide) rfl) rfl rfl (P1 (p_ldR (v := Enc.v h1.Size) ty3 rfl rfl rfl rfl rfl rfl) rfl rfl (P1 (p_faR fs23_3 (by decide) rfl) rfl rfl (P1 (p_ldR (v := Enc.v h1.From) ty3 rfl rfl rfl rfl rfl rfl) rfl rfl (P1 (p_faR fs23_4 (by decide) rfl) rfl rfl ?_))))))
    refine P1 (p_ldR (v := Enc.v h1.Len) ty3 rfl rfl rfl rfl rfl rfl) rfl rfl (P1 (p_faR fs23_5 (by decide) rfl) rfl rfl (P1 (p_ldR (v := Enc.v h1.Serial) ty3 rfl rfl rfl rfl rfl rfl) rfl rfl (P1 (p_faR fs23_6 (by decide) rfl) rfl rfl (P1 (p_ldR (v := Enc.v h1.Sum) ty3 rfl rfl rfl rfl rfl rfl) rfl rfl ?_))))
    refine TLc.lit ([h1.Version, h1.Size, h1.From, h1.Len, h1.Serial, h1.Sum] : List Int) kd36 ty3 rfl ⟨⟨rfl, rfl⟩, ⟨rfl, rfl⟩, ⟨rfl, rfl⟩, ⟨rfl, rfl⟩, ⟨rfl, rfl⟩, ⟨rfl, rfl⟩, trivial⟩ rfl rfl rfl ?_
    refine P1 (p_lenL (xs := ([h1.Version, h1.Size, h1.From, h1.Len, h1.Serial, h1.Sum] : List Int)) kd36 rfl) rfl rfl (M rfl rfl (TL.nil (hK15 _ _ ?_)))
    refine TK.block ?_
    obtain ⟨o16, hO16, hA16⟩ := bind_some hX
    have E16 : ∀ (l23 : List UInt8) (env : Env) (h : Hp), (∃ b22 b21, keepE [1, 3] env = [(1, true, .vref (ofL [Enc.v h1.Path, Enc.v h1.Version, Enc.v h1.Size, Enc.v h1.From, Enc.v h1.Len, Enc.v h1.Serial, Enc.v h1.Sum, Enc.v h1.Gone]) 8 0), (3, true, .ref b21 0 1)] ∧ Nd [(b22, RL (α := UInt8) 5 l23), (b21, RV 147 [OL b22 l23])] ∧ HSub [(b22, RL (α := UInt8) 5 l23), (b21, RV 147 [OL b22 l23])] h) → X.record_HeadBytes_e16 h1 l23 = some r → K14 env h := by
      intro l23 env h hE hX
      obtain ⟨b22, b21, henv, nd, hs⟩ := hE
      unfold X.record_HeadBytes_e16 at hX
      refine hK14 _ _ (TK.keep [1, 3] ?_)
      rw [henv]
      refine TK.subH hs ?_
      refine SR fun K24 hK24 => M rfl rfl (TL.nil (hK24 _ _ ?_))
      refine TK.seq_k fun K25 hK25 => ?_
      have J25 : ∀ (gone28 : UInt8) (env : Env) (h : Hp), (∃ b27 b26, keepE [3, 6] env = [(3, true, .ref b26 0 1), (6, true, Enc.v gone28)] ∧ Nd [(b27, RL (α := UInt8) 5 l23), (b26, RV 147 [OL b27 l23])] ∧ HSub [(b27, RL (α := UInt8) 5 l23), (b26, RV 147 [OL b27 l23])] h) → X.record_HeadBytes_j25 l23 gone28 = some r → K25 env h := by
        intro gone28 env h hE hX
        obtain ⟨b27, b26, henv, nd, hs⟩ := hE
        unfold X.record_HeadBytes_j25 at hX
        refine hK25 _ _ (TK.keep [3, 6] ?_)
        rw [henv]
        refine TK.subH hs ?_
        refine SR fun K29 hK29 => M rfl rfl (M rfl rfl ?_)
        obtain ⟨r30, hr30, hX⟩ := bind_some hX
        refine TL.pick [1, 0] nd (by decide) fun nd => ?_
        refine TL.tcX [(b26, RV 147 [OL b27 l23]), (b27, RL (α := UInt8) 5 l23)] [] rfl nd (dlt rfl) rfl ⟨rfl, ⟨rfl, ⟨rfl, trivial⟩⟩⟩ (ok_code_Writer_Byte gone28 l23 b26 b27 (Nd.take nd 2 rfl) _ hr30) ?_
        rintro _ _ hQ nd
        obtain ⟨b32, rfl, rfl⟩ := hQ
        refine TL.nil (hK29 _ _ (SR fun K33 hK33 => M rfl rfl ?_))
        obtain ⟨r34, hr34, hX⟩ := bind_some hX
        refine TL.tcX [(b26, RV 147 [OL b32 r30]), (b32, RL (α := UInt8) 5 r30)] [] rfl nd (dlt rfl) rfl ⟨rfl, ⟨rfl, trivial⟩⟩ (ok_code_Writer_Bytes r30 b26 b32 (Nd.take nd 2 rfl) _ hr34) ?_
        rintro _ _ hQ nd
        obtain ⟨rfl, rfl⟩ := hQ
        refine M rfl rfl (TL.nil (hK33 _ _ ?_))
        refine TK.ret ?_
        try dsimp only [thenQ]
        exact R1 rfl hX
      refine SR fun K35 hK35 => P1 (p_faR fs23_7 (by decide) rfl) rfl rfl (P1 (p_ldR (v := Enc.v h1.Gone) ty4 rfl rfl rfl rfl rfl rfl) rfl rfl (TL.nil (hK35 _ _ ?_)))
      refine TK.cond (b := h1.Gone) rfl (fun hc => ?_) (fun hc => ?_)
      · have hX := ite_t hc hX
        refine TK.reg ?_
        refine M rfl rfl (TL.nil ?_)
        exact J25 (1 : UInt8) _ _ ⟨b22, b21, rfl, (Nd.pick nd (is := [0, 1]) (by decide)), (HSub.pick nd (is := [0, 1]) (by decide))⟩ hX
      · have hX := ite_f hc hX
        refine TK.skip ?_
        exact J25 (0 : UInt8) _ _ ⟨b22, b21, rfl, (Nd.pick nd (is := [0, 1]) (by decide)), (HSub.pick nd (is := [0, 1]) (by decide))⟩ hX
    refine TK.iter [1, 3, 28, 29, 30] (fun s env h => match s with | (l19, x20) => ∃ b18 b17, env = [(1, true, .vref (ofL [Enc.v h1.Path, Enc.v h1.Version, Enc.v h1.Size, Enc.v h1.From, Enc.v h1.Len, Enc.v h1.Serial, Enc.v h1.Sum, Enc.v h1.Gone]) 8 0), (3, true, .ref b17 0 1), (28, true, Enc.v (([h1.Version, h1.Size, h1.From, h1.Len, h1.Serial, h1.Sum] : List Int) : (List Int))), (29, true, Enc.v ((([h1.Version, h1.Size, h1.From, h1.Len, h1.Serial, h1.Sum] : List Int).length : Int) : Int)), (30, true, Enc.v x20)] ∧ Nd [(b18, RL (α := UInt8) 5 l19), (b17, RV 147 [OL b18 l19])] ∧ HSub [(b18, RL (α := UInt8) 5 l19), (b17, RV 147 [OL b18 l19])] h) hO16 ⟨b13, b8, rfl, (Nd.pick nd (is := [1, 0]) (by decide)), (HSub.pick nd (is := [1, 0]) (by decide))⟩ ?_
    rintro ⟨l19, x20⟩ env h x16x ⟨b18, b17, rfl, nd, hs⟩ hX hR16
    refine TK.subH hs ?_
    unfold X.record_HeadBytes_s16 at hX
    try dsimp only at hX
    refine SR fun K36 hK36 => P1 (p_lss rfl rfl) rfl rfl (TL.nil (hK36 _ _ ?_))
    refine TK.seq_k fun K37 hK37 => ?_
    refine TK.cond (b := (decide (x20 < (([h1.Version, h1.Size, h1.From, h1.Len, h1.Serial, h1.Sum] : List Int).length : Int)))) rfl (fun hc => ?_) (fun hc => ?_)
    · have hX := ite_t hc hX
      refine TK.skip ?_
      refine hK37 _ _ ?_
      refine TK.seq_k fun K38 hK38 => ?_
      refine TK.block ?_
      refine SR fun K39 hK39 => ?_
      obtain ⟨e40, he40, hX⟩ := bind_some hX
      refine P1 (p_iaL (xs := ([h1.Version, h1.Size, h1.From, h1.Len, h1.Serial, h1.Sum] : List Int)) kd36 ty3 rfl rfl rfl (fun _ => he40)) rfl rfl (P1 (p_ldE (xs := ([h1.Version, h1.Size, h1.From, h1.Len, h1.Serial, h1.Sum] : List Int)) (a := e40) (e40 : Int) ty3 rfl rfl (fun _ => he40) rfl rfl rfl) rfl rfl (M rfl rfl (TL.nil (hK39 _ _ ?_))))
      refine TK.reg ?_
      refine M rfl rfl (M rfl rfl ?_)
      obtain ⟨r41, hr41, hX⟩ := bind_some hX
      refine TL.pick [1, 0] nd (by decide) fun nd => ?_
      refine TL.tcX [(b17, RV 147 [OL b18 l19]), (b18, RL (α := UInt8) 5 l19)] [] rfl nd (dlt rfl) rfl ⟨rfl, ⟨rfl, ⟨rfl, trivial⟩⟩⟩ (ok_code_Writer_Int e40 l19 b17 b18 (Nd.take nd 2 rfl) _ hr41) ?_
      rintro _ _ hQ nd
      obtain ⟨b43, rfl, rfl⟩ := hQ
      refine TL.nil (hK38 _ _ ?_)
      refine TK.reg ?_
      refine P1 (p_add rfl rfl) rfl rfl (M rfl rfl (TL.nil ?_))
      exact ⟨_, (some_in hX).symm, b43, b17, rfl, (Nd.pick nd (is := [1, 0]) (by decide)), (HSub.pick nd (is := [1, 0]) (by decide))⟩
    · have hX := ite_f hc hX
      refine TK.exit ?_
      obtain rfl := hR16 _ (some_in hX).symm
      exact E16 l19 _ _ ⟨b18, b17, rfl, (Nd.pick nd (is := [0, 1]) (by decide)), (HSub.pick nd (is := [0, 1]) (by decide))⟩ hA16

/-- cartridge/frame.room -/
theorem ok_frame_room (kind1 : Int) (r : Int) (hX : X.frame_room kind1 = some r) : Fun Tryd.prog 110 [Enc.v (kind1 : Int)] (· = Enc.v (r : Int)) := by
  refine Fun.of b110 (Nat.le_of_ble_eq_true rfl) (allVal.mem ⟨(by exact (v_val _)), trivial⟩) ?_
  unfold k110
  have nd : Nd [] := Nd_nil
  unfold X.frame_room at hX
  refine SR fun K2 hK2 => M rfl rfl (TL.nil (hK2 _ _ ?_))
  refine TK.seq_k fun K3 hK3 => ?_
  refine SR fun K4 hK4 => M rfl rfl (P1 (p_eql rfl rfl) rfl rfl (TL.nil (hK4 _ _ ?_)))
  refine TK.cond (b := (kind1 == (6 : Int))) rfl (fun hc => ?_) (fun hc => ?_)
  · have hX := ite_t hc hX
    refine SR fun K5 hK5 => M rfl rfl (TL.nil (hK5 _ _ ?_))
    refine TK.ret ?_
    try dsimp only [thenQ]
    exact R1 rfl hX
  · have hX := ite_f hc hX
    refine TK.skip ?_
    refine hK3 _ _ (SR fun K6 hK6 => M rfl rfl (TL.nil (hK6 _ _ ?_)))
    refine TK.ret ?_
    try dsimp only [thenQ]
    exact R1 rfl hX

/-- cartridge/frame.check -/
theorem ok_frame_check (u1 : Unit_api) (r : Int) (hX : X.frame_check u1 = some r) : Fun Tryd.prog 85 [Enc.v (u1 : Unit_api)] (· = Enc.v (r : Int)) := by
  refine Fun.of b85 (Nat.le_of_ble_eq_true rfl) (allVal.mem ⟨(by exact (v_val _)), trivial⟩) ?_
  unfold k85
  have nd : Nd [] := Nd_nil
  unfold X.frame_check at hX
  refine SR fun K2 hK2 => ?_
  refine TLc.boxV (lu := [Enc.v u1.Kind, Enc.v u1.Label, Enc.v u1.Number, Enc.v u1.Load]) nd rfl (Cells_v (u1 : Unit_api)) rfl ?_
  refine M rfl rfl (TL.nil (hK2 _ _ ?_))
  refine TK.seq_k fun K3 hK3 => ?_
  refine SR fun K4 hK4 => P1 (p_faR fs42_1 (by decide) rfl) rfl rfl (P1 (p_ldR (v := Enc.v u1.Label) ty3 rfl rfl rfl rfl rfl rfl) rfl rfl (P1 (p_lss rfl rfl) rfl rfl (M rfl rfl ?_)))
  refine TLc.p (gc := (!((decide (u1.Label < (1 : Int)))))) (p_faR fs42_1 (by decide) rfl (hg := fun e => rfl)) (gcF1 rfl) rfl ?_
  refine TLc.p (gc := (!((decide (u1.Label < (1 : Int)))))) (p_ldR (v := Enc.v u1.Label) ty3 rfl rfl rfl rfl rfl rfl (hg := fun e => e)) (gcF1 rfl) rfl ?_
  refine TLc.p (gc := (!((decide (u1.Label < (1 : Int)))))) (p_gtr rfl rfl (hg := fun e => ⟨e, rfl⟩)) (gcF1 rfl) rfl ?_
  refine P1 (p_or rfl rfl (fun e => ⟨rfl, fun h => (not_t h)⟩)) rfl rfl (M rfl rfl ?_)
  refine TLc.p (gc := (!(((decide (u1.Label < (1 : Int))) || (decide (u1.Label > (2147483647 : Int))))))) (p_faR fs42_2 (by decide) rfl (hg := fun e => rfl)) (gcF1 rfl) rfl ?_
  refine TLc.p (gc := (!(((decide (u1.Label < (1 : Int))) || (decide (u1.Label > (2147483647 : Int))))))) (p_ldR (v := Enc.v u1.Number) ty3 rfl rfl rfl rfl rfl rfl (hg := fun e => e)) (gcF1 rfl) rfl ?_
  refine TLc.p (gc := (!(((decide (u1.Label < (1 : Int))) || (decide (u1.Label > (2147483647 : Int))))))) (p_lss rfl rfl (hg := fun e => ⟨e, rfl⟩)) (gcF1 rfl) rfl ?_
  refine P1 (p_or rfl rfl (fun e => ⟨rfl, fun h => (not_t h)⟩)) rfl rfl (M rfl rfl ?_)
  refine TLc.p (gc := (!((((decide (u1.Label < (1 : Int))) || (decide (u1.Label > (2147483647 : Int)))) || (decide (u1.Number < (0 : Int))))))) (p_faR fs42_2 (by decide) rfl (hg := fun e => rfl)) (gcF1 rfl) rfl ?_
  refine TLc.p (gc := (!((((decide (u1.Label < (1 : Int))) || (decide (u1.Label > (2147483647 : Int)))) || (decide (u1.Number < (0 : Int))))))) (p_ldR (v := Enc.v u1.Number) ty3 rfl rfl rfl rfl rfl rfl (hg := fun e => e)) (gcF1 rfl) rfl ?_
  refine TLc.p (gc := (!((((decide (u1.Label < (1 : Int))) || (decide (u1.Label > (2147483647 : Int)))) || (decide (u1.Number < (0 : Int))))))) (p_gtr rfl rfl (hg := fun e => ⟨e, rfl⟩)) (gcF1 rfl) rfl ?_
  refine P1 (p_or rfl rfl (fun e => ⟨rfl, fun h => (not_t h)⟩)) rfl rfl (TL.nil (hK4 _ _ ?_))
  refine TK.cond (b := ((((decide (u1.Label < (1 : Int))) || (decide (u1.Label > (2147483647 : Int)))) || (decide (u1.Number < (0 : Int)))) || (decide (u1.Number > (2147483647 : Int))))) rfl (fun hc => ?_) (fun hc => ?_)
  · have hX := ite_t hc hX
    refine SR fun K5 hK5 => M rfl rfl (TL.nil (hK5 _ _ ?_))
    refine TK.ret ?_
    try dsimp only [thenQ]
    exact R1 rfl hX
  · have hX := ite_f hc hX
    refine TK.skip ?_
    refine hK3 _ _ ?_
    refine TK.seq_k fun K6 hK6 => ?_
    refine SR fun K7 hK7 => P1 (p_faR fs42_0 (by decide) rfl) rfl rfl (P1 (p_ldR (v := Enc.v u1.Kind) ty3 rfl rfl rfl rfl rfl rfl) rfl rfl (TL.nil (hK7 _ _ ?_)))
    refine TK.block ?_
    refine TK.seq_k fun K8 hK8 => ?_
    have J8 : ∀ (env : Env) (h : Hp), (∃ _u : Unit, keepE [1] env = [(1, true, .vref (ofL [Enc.v u1.Kind, Enc.v u1.Label, Enc.v u1.Number, Enc.v u1.Load]) 4 0)] ∧ Nd [] ∧ HSub [] h) → X.frame_check_j8 u1 = some r → K8 env h := by
      intro  env h hE hX
      obtain ⟨_u, henv, nd, hs⟩ := hE
      unfold X.frame_check_j8 at hX
      refine hK8 _ _ (TK.keep [1] ?_)
      rw [henv]
      refine TK.subH hs ?_
      refine TK.seq_k fun K9 hK9 => ?_
      refine TK.seq_k fun K10 hK10 => ?_
      refine TK.seq_k fun K11 hK11 => ?_
      have ndS : Nd [] := Nd.pick nd (is := []) (by decide)
      refine TK.drwX (h := []) (hS := []) [(0, 0), (0, 1), (0, 2), (0, 3), (0, 4), (0, 5), (0, 6)] mixed (by kernel_rfl) (HSub_app nd) ?_
      refine D0 rfl (p_faR fs42_3 (by decide) rfl) rfl rfl ?_
      refine D0 rfl (p_ldR (v := Enc.v u1.Load) ty24 rfl rfl rfl rfl rfl rfl) rfl rfl ?_
      refine D0 rfl (p_lenL (xs := u1.Load) kd24 rfl) rfl rfl ?_
      refine D0 rfl (p_faR fs42_0 (by decide) rfl) rfl rfl ?_
      refine D0 rfl (p_ldR (v := Enc.v u1.Kind) ty3 rfl rfl rfl rfl rfl rfl) rfl rfl ?_
      obtain ⟨r12, hr12, hX⟩ := bind_some hX
      refine DR0 (gc := true) rfl (vok_c rfl (fun _ => ⟨rfl, ⟨rfl, trivial⟩⟩) (fun e => ok_frame_room u1.Kind _ hr12)) rfl rfl ?_
      refine D0 rfl (p_gtr rfl rfl) rfl rfl ?_
      refine DRend ?_
      refine hK11 _ _ ?_
      refine TK.cond (b := (decide ((u1.Load.length : Int) > r12))) rfl (fun hc => ?_) (fun hc => ?_)
      · have hX := ite_t hc hX
        refine SR fun K13 hK13 => M rfl rfl (TL.nil (hK13 _ _ ?_))
        refine TK.ret ?_
        try dsimp only [thenQ]
        exact R1 rfl hX
      · have hX := ite_f hc hX
        refine TK.skip ?_
        refine hK10 _ _ (SR fun K14 hK14 => M rfl rfl (TL.nil (hK14 _ _ ?_)))
        refine TK.ret ?_
        try dsimp only [thenQ]
        exact R1 rfl hX
    refine TK.block ?_
    refine TK.block ?_
    refine TK.block ?_
    refine TK.block ?_
    refine TK.block ?_
    refine TK.block ?_
    refine TK.seq_k fun K15 hK15 => ?_
    refine TK.seq_k fun K16 hK16 => ?_
    refine SR fun K17 hK17 => P1 (p_eql rfl rfl) rfl rfl (M rfl rfl (TL.nil (hK17 _ _ ?_)))
    refine TK.cond (b := (u1.Kind == (1 : Int))) rfl (fun hc => ?_) (fun hc => ?_)
    · have hX := ite_t hc hX
      refine TK.exit ?_
      exact J8 _ _ ⟨(), rfl, Nd_nil, HSub.refl _⟩ hX
    · have hX := ite_f hc hX
      refine TK.skip ?_
      refine hK16 _ _ ?_
      refine TK.seq_k fun K18 hK18 => ?_
      refine SR fun K19 hK19 => P1 (p_eql rfl rfl) rfl rfl (M rfl rfl (TL.nil (hK19 _ _ ?_)))
      refine TK.cond (b := (u1.Kind == (2 : Int))) rfl (fun hc => ?_) (fun hc => ?_)
      · have hX := ite_t hc hX
        refine TK.exit ?_
        exact J8 _ _ ⟨(), rfl, Nd_nil, HSub.refl _⟩ hX
      · have hX := ite_f hc hX
        refine TK.skip ?_
        refine hK18 _ _ ?_
        refine TK.seq_k fun K20 hK20 => ?_
        refine SR fun K21 hK21 => P1 (p_eql rfl rfl) rfl rfl (M rfl rfl (TL.nil (hK21 _ _ ?_)))
        refine TK.cond (b := (u1.Kind == (3 : Int))) rfl (fun hc => ?_) (fun hc => ?_)
        · have hX := ite_t hc hX
          refine TK.exit ?_
          exact J8 _ _ ⟨(), rfl, Nd_nil, HSub.refl _⟩ hX
        · have hX := ite_f hc hX
          refine TK.skip ?_
          refine hK20 _ _ ?_
          refine TK.seq_k fun K22 hK22 => ?_
          refine SR fun K23 hK23 => P1 (p_eql rfl rfl) rfl rfl (M rfl rfl (TL.nil (hK23 _ _ ?_)))
          refine TK.cond (b := (u1.Kind == (4 : Int))) rfl (fun hc => ?_) (fun hc => ?_)
          · have hX := ite_t hc hX
            refine TK.exit ?_
            exact J8 _ _ ⟨(), rfl, Nd_nil, HSub.refl _⟩ hX
          · have hX := ite_f hc hX
            refine TK.skip ?_
            refine hK22 _ _ ?_
            refine TK.seq_k fun K24 hK24 => ?_
            refine SR fun K25 hK25 => P1 (p_eql rfl rfl) rfl rfl (M rfl rfl (TL.nil (hK25 _ _ ?_)))
            refine TK.cond (b := (u1.Kind == (5 : Int))) rfl (fun hc => ?_) (fun hc => ?_)
            · have hX := ite_t hc hX
              refine TK.exit ?_
              exact J8 _ _ ⟨(), rfl, Nd_nil, HSub.refl _⟩ hX
            · have hX := ite_f hc hX
              refine TK.skip ?_
              refine hK24 _ _ (SR fun K26 hK26 => P1 (p_eql rfl rfl) rfl rfl (M rfl rfl (TL.nil (hK26 _ _ ?_))))
              refine TK.cond (b := (u1.Kind == (6 : Int))) rfl (fun hc => ?_) (fun hc => ?_)
              · have hX := ite_t hc hX
                refine TK.exit ?_
                exact J8 _ _ ⟨(), rfl, Nd_nil, HSub.refl _⟩ hX
              · have hX := ite_f hc hX
                refine TK.skip ?_
                refine hK15 _ _ ?_
                refine TK.exit ?_
                refine hK6 _ _ (SR fun K27 hK27 => M rfl rfl (TL.nil (hK27 _ _ ?_)))
                refine TK.ret ?_
                try dsimp only [thenQ]
                exact R1 rfl hX

/-- slices.Clone[[]byte,byte] -/
theorem ok_slices_Clone_Lbyte_byte_own_or (s1 : (List UInt8)) (b2 : Nat) (nd : Nd [(b2, RL (α := UInt8) 5 s1)]) (r : (List UInt8)) (hX : X.slices_Clone_Lbyte_byte_own_or s1 = some r) : TCX Tryd.prog 66 [OL (α := UInt8) b2 s1] [(b2, RL (α := UInt8) 5 s1)] (fun rv h' => ∃ b12, rv = OL (α := UInt8) b12 r ∧ h' = [(b2, RL (α := UInt8) 5 s1), (b12, RL (α := UInt8) 5 r)]) := by
  refine TCX.of b66 (Nat.le_of_ble_eq_true rfl) ?_
  unfold k66
  unfold X.slices_Clone_Lbyte_byte_own_or at hX
  refine SR fun K3 hK3 => M rfl rfl (TL.nil (hK3 _ _ ?_))
  refine TK.seq_k fun K4 hK4 => ?_
  refine SR fun K5 hK5 => M rfl rfl ?_
  refine TLc.eqNilO (xs := s1) nd kd24 rfl rfl (j := 0) rfl rfl fun z6 hbz6 => ?_
  replace hX := nilU_t hX hbz6
  refine TL.nil (hK5 _ _ ?_)
  refine TK.cond (b := z6) rfl (fun hc => ?_) (fun hc => ?_)
  · have hX := ite_t hc hX
    refine SR fun K7 hK7 => M rfl rfl (TL.nil (hK7 _ _ ?_))
    refine TK.ownL (α := UInt8) 2 5 nd rfl (.inl rfl) fun b8 nd => ?_
    refine TK.pick [1, 0] nd (by decide) fun nd => ?_
    refine TK.ret ?_
    try dsimp only [thenQ]
    exact retX (v := OL (α := UInt8) b8 ([] : List UInt8)) (res1 rfl) (by obtain rfl := some_in hX; exact ⟨b8, rfl, rfl⟩) nd (inH_rs nd (j := 1) rfl) ⟨rowIn_RL, rowIn_RL, trivial⟩
  · have hX := ite_f hc hX
    refine TK.skip ?_
    refine hK4 _ _ (SR fun K9 hK9 => ?_)
    refine TLc.litZ kd24 ty5 rfl ?_
    refine M rfl rfl ?_
    obtain ⟨u10, hu10, hX⟩ := bind_some hX
    refine TLc.appN nd kd24 bo24 ty5 rfl rfl (.inr rfl) rfl (Src_OL nd (j := 0) rfl) (by decide) (need_t hu10) rfl fun b11 nd => ?_
    refine M rfl rfl (TL.nil (hK9 _ _ ?_))
    refine TK.pick [1, 0] nd (by decide) fun nd => ?_
    refine TK.ret ?_
    try dsimp only [thenQ]
    exact retX (v := OL b11 s1) (res1 rfl) (by obtain rfl := some_in hX; exact ⟨b11, rfl, rfl⟩) nd (inH_rs nd (j := 1) rfl) ⟨rowIn_RL, rowIn_RL, trivial⟩

/-- (*cartridge/code.Writer).Bytes -/
theorem ok_code_Writer_Bytes_or (b1 : (List UInt8)) (b2 : Nat) (b3 : Nat) (nd : Nd [(b2, RV 147 [OL (α := UInt8) b3 b1]), (b3, RL (α := UInt8) 5 b1)]) (r : (List UInt8)) (hX : X.code_Writer_Bytes_or b1 = some r) : TCX Tryd.prog 84 [.ref b2 0 1] [(b2, RV 147 [OL (α := UInt8) b3 b1]), (b3, RL (α := UInt8) 5 b1)] (fun rv h' => ∃ b8, rv = OL (α := UInt8) b8 r ∧ h' = [(b2, RV 147 [OL (α := UInt8) b3 b1]), (b3, RL (α := UInt8) 5 b1), (b8, RL (α := UInt8) 5 r)]) := by
  refine TCX.of b84 (Nat.le_of_ble_eq_true rfl) ?_
  unfold k84
  unfold X.code_Writer_Bytes_or at hX
  refine SR fun K4 hK4 => M rfl rfl (TL.nil (hK4 _ _ (SR fun K5 hK5 => M rfl rfl (P1 (p_ncR rfl (fun _ => refOK_of nd (j := 0) rfl rfl)) rfl rfl (P1 (p_faV fs147_0 (by decide) rfl nd (j := 0) rfl rfl) rfl rfl (P1 (p_ldV (v := OL b3 b1) ty24 rfl rfl nd (j := 0) rfl rfl rfl rfl rfl) rfl rfl ?_))))))
  obtain ⟨r6, hr6, hX⟩ := bind_some hX
  refine TL.pick [1, 0] nd (by decide) fun nd => ?_
  refine TL.tcX [(b3, RL (α := UInt8) 5 b1)] [(b2, RV 147 [OL b3 b1])] rfl nd (dlt rfl) rfl ⟨rfl, ⟨rfl, trivial⟩⟩ (ok_slices_Clone_Lbyte_byte_own_or b1 b3 (Nd.take nd 1 rfl) _ hr6) ?_
  rintro _ _ hQ nd
  obtain ⟨b7, rfl, rfl⟩ := hQ
  refine M rfl rfl (TL.nil (hK5 _ _ ?_))
  refine TK.pick [2, 0, 1] nd (by decide) fun nd => ?_
  refine TK.ret ?_
  try dsimp only [thenQ]
  exact retX (v := OL b7 r6) (res1 rfl) (by obtain rfl := some_in hX; exact ⟨b7, rfl, rfl⟩) nd (inH_rs nd (j := 2) rfl) ⟨rowIn_RV ⟨inH_rs nd (j := 1) rfl, trivial⟩, rowIn_RL, rowIn_RL, trivial⟩

/-- cartridge/castagnoli.More -/
theorem ok_castagnoli_More (sum1 : UInt32) (b2 : (List UInt8)) (r : UInt32) (hX : X.castagnoli_More sum1 b2 = some r) : Fun Tryd.prog 119 [Enc.v (sum1 : UInt32), Enc.v (b2 : (List UInt8))] (· = Enc.v (r : UInt32)) := by
  refine Fun.of b119 (Nat.le_of_ble_eq_true rfl) (allVal.mem ⟨(by exact (v_val _)), (by exact (v_val _)), trivial⟩) ?_
  unfold k119
  have nd : Nd [] := Nd_nil
  unfold X.castagnoli_More at hX
  refine SR fun K3 hK3 => M rfl rfl (TL.nil (hK3 _ _ (SR fun K4 hK4 => M rfl rfl (P1 (p32_xor (a := sum1) (b := (4294967295 : UInt32)) rfl rfl) rfl rfl (M rfl rfl (TL.nil (hK4 _ _ ?_)))))))
  refine TK.seq_k fun K5 hK5 => ?_
  refine SR fun K6 hK6 => M rfl rfl (P1 (p_lenL (xs := b2) kd24 rfl) rfl rfl (M rfl rfl (TL.nil (hK6 _ _ ?_))))
  refine TK.block ?_
  obtain ⟨o7, hO7, hA7⟩ := bind_some hX
  have E7 : ∀ (x10 : UInt32) (env : Env) (h : Hp), (∃ _u : Unit, keepE [5] env = [(5, true, Enc.v x10)] ∧ Nd [] ∧ HSub [] h) → X.castagnoli_More_e7 x10 = some r → K5 env h := by
    intro x10 env h hE hX
    obtain ⟨_u, henv, nd, hs⟩ := hE
    unfold X.castagnoli_More_e7 at hX
    refine hK5 _ _ (TK.keep [5] ?_)
    rw [henv]
    refine TK.subH hs ?_
    refine SR fun K11 hK11 => M rfl rfl (P1 (p32_xor (a := x10) (b := (4294967295 : UInt32)) rfl rfl) rfl rfl (M rfl rfl (TL.nil (hK11 _ _ ?_))))
    refine TK.ret ?_
    try dsimp only [thenQ]
    exact R1 rfl hX
  refine TK.iter [5, 10, 11, 12] (fun s env h => match s with | (x8, x9) => ∃ _u : Unit, env = [(5, true, Enc.v x8), (10, true, Enc.v b2), (11, true, Enc.v ((b2.length : Int) : Int)), (12, true, Enc.v x9)] ∧ Nd [] ∧ HSub [] h) hO7 ⟨(), rfl, Nd_nil, HSub.refl _⟩ ?_
  rintro ⟨x8, x9⟩ env h x7x ⟨_u, rfl, nd, hs⟩ hX hR7
  refine TK.subH hs ?_
  unfold X.castagnoli_More_s7 at hX
  try dsimp only at hX
  refine SR fun K12 hK12 => P1 (p_lss rfl rfl) rfl rfl (TL.nil (hK12 _ _ ?_))
  refine TK.seq_k fun K13 hK13 => ?_
  refine TK.cond (b := (decide (x9 < (b2.length : Int)))) rfl (fun hc => ?_) (fun hc => ?_)
  · have hX := ite_t hc hX
    refine TK.skip ?_
    refine hK13 _ _ ?_
    refine TK.seq_k fun K14 hK14 => ?_
    refine TK.block ?_
    refine SR fun K15 hK15 => ?_
    obtain ⟨e16, he16, hX⟩ := bind_some hX
    refine P1 (p_iaL (xs := b2) kd24 ty5 rfl rfl rfl (fun _ => he16)) rfl rfl (P1 (p_ldE (xs := b2) (a := e16) (e16 : UInt8) ty5 rfl rfl (fun _ => he16) rfl rfl rfl) rfl rfl (M rfl rfl (TL.nil (hK15 _ _ (SR fun K17 hK17 => M rfl rfl (M rfl rfl (P1 (p_cvt src5 kd106 rfl (cv_u32 _)) rfl rfl (P1 (p32_xor (a := x8) (b := (u32 (e16.toNat : Int))) rfl rfl) rfl rfl (M rfl rfl (TL.nil (hK17 _ _ ?_)))))))))))
    refine SR fun K18 hK18 => M rfl rfl (TL.nil (hK18 _ _ ?_))
    refine TK.block ?_
    obtain ⟨o19, hO19, hA19⟩ := bind_some hX
    have E19 : ∀ (x22 : UInt32) (env : Env) (h : Hp), (∃ _u : Unit, keepE [5, 10, 11, 12] env = [(5, true, Enc.v x22), (10, true, Enc.v b2), (11, true, Enc.v ((b2.length : Int) : Int)), (12, true, Enc.v x9)] ∧ Nd [] ∧ HSub [] h) → X.castagnoli_More_e19 x9 x22 = some x7x → K14 env h := by
      intro x22 env h hE hX
      obtain ⟨_u, henv, nd, hs⟩ := hE
      unfold X.castagnoli_More_e19 at hX
      refine hK14 _ _ (TK.keep [5, 10, 11, 12] ?_)
      rw [henv]
      refine TK.subH hs ?_
      refine TK.reg ?_
      refine P1 (p_add rfl rfl) rfl rfl (M rfl rfl (TL.nil ?_))
      exact ⟨_, (some_in hX).symm, (), rfl, Nd_nil, HSub.refl _⟩
    refine TK.iter [5, 10, 11, 12, 20] (fun s env h => match s with | (x20, x21) => ∃ _u : Unit, env = [(5, true, Enc.v x20), (10, true, Enc.v b2), (11, true, Enc.v ((b2.length : Int) : Int)), (12, true, Enc.v x9), (20, true, Enc.v x21)] ∧ Nd [] ∧ HSub [] h) hO19 ⟨(), rfl, Nd_nil, HSub.refl _⟩ ?_
    rintro ⟨x20, x21⟩ env h x19x ⟨_u, rfl, nd, hs⟩ hX hR19
    refine TK.subH hs ?_
    unfold X.castagnoli_More_s19 at hX
    try dsimp only at hX
    refine SR fun K23 hK23 => P1 (p_lss rfl rfl) rfl rfl (TL.nil (hK23 _ _ ?_))
    refine TK.seq_k fun K24 hK24 => ?_
    refine TK.cond (b := (decide (x21 < (8 : Int)))) rfl (fun hc => ?_) (fun hc => ?_)
    · have hX := ite_t hc hX
      refine TK.skip ?_
      refine hK24 _ _ ?_
      refine TK.seq_k fun K25 hK25 => ?_
      refine TK.block ?_
      refine SR fun K26 hK26 => M rfl rfl (P1 (p32_and (a := x20) (b := (1 : UInt32)) rfl rfl) rfl rfl (P1 (p32_eql (a := (x20 &&& (1 : UInt32))) (b := (1 : UInt32)) rfl rfl) rfl rfl (TL.nil (hK26 _ _ ?_))))
      refine TK.cond (b := ((x20 &&& (1 : UInt32)) == (1 : UInt32))) rfl (fun hc => ?_) (fun hc => ?_)
      · have hX := ite_t hc hX
        refine TK.reg ?_
        refine M rfl rfl (P1 (p32_shr (a := x20) (b := 1) rfl rfl) rfl rfl (P1 (p32_xor (a := (shr32 x20 1)) (b := (2197175160 : UInt32)) rfl rfl) rfl rfl (M rfl rfl (TL.nil (hK25 _ _ ?_)))))
        refine TK.reg ?_
        refine P1 (p_add rfl rfl) rfl rfl (M rfl rfl (TL.nil ?_))
        exact ⟨_, (some_in hX).symm, (), rfl, Nd_nil, HSub.refl _⟩
      · have hX := ite_f hc hX
        refine TK.reg ?_
        refine M rfl rfl (P1 (p32_shr (a := x20) (b := 1) rfl rfl) rfl rfl (M rfl rfl (TL.nil (hK25 _ _ ?_))))
        refine TK.reg ?_
        refine P1 (p_add rfl rfl) rfl rfl (M rfl rfl (TL.nil ?_))
        exact ⟨_, (some_in hX).symm, (), rfl, Nd_nil, HSub.refl _⟩
    · have hX := ite_f hc hX
      refine TK.exit ?_
      obtain rfl := hR19 _ (some_in hX).symm
      exact E19 x20 _ _ ⟨(), rfl, Nd_nil, HSub.refl _⟩ hA19
  · have hX := ite_f hc hX
    refine TK.exit ?_
    obtain rfl := hR7 _ (some_in hX).symm
    exact E7 x8 _ _ ⟨(), rfl, Nd_nil, HSub.refl _⟩ hA7

/-- cartridge/castagnoli.Sum -/
theorem ok_castagnoli_Sum (b1 : (List UInt8)) (r : UInt32) (hX : X.castagnoli_Sum b1 = some r) : Fun Tryd.prog 92 [Enc.v (b1 : (List UInt8))] (· = Enc.v (r : UInt32)) := by
  refine Fun.of b92 (Nat.le_of_ble_eq_true rfl) (allVal.mem ⟨(by exact (v_val _)), trivial⟩) ?_
  unfold k92
  have nd : Nd [] := Nd_nil
  unfold X.castagnoli_Sum at hX
  refine SR fun K2 hK2 => M rfl rfl (TL.nil (hK2 _ _ (SR fun K3 hK3 => M rfl rfl ?_)))
  obtain ⟨r4, hr4, hX⟩ := bind_some hX
  refine TL.cvX rfl rfl rfl (fun _ => ⟨rfl, ⟨rfl, ⟨rfl, trivial⟩⟩⟩) (fun e => ok_castagnoli_More (0 : UInt32) b1 _ hr4) ?_
  refine M rfl rfl (TL.nil (hK3 _ _ ?_))
  refine TK.ret ?_
  try dsimp only [thenQ]
  exact R1 rfl hX

/-- cartridge/frame.made -/
theorem ok_frame_made (u1 : Unit_api) (r : (List UInt8)) (hX : X.frame_made u1 = some r) : Fun Tryd.prog 86 [Enc.v (u1 : Unit_api)] (· = Enc.v (r : (List UInt8))) := by
  refine Fun.of b86 (Nat.le_of_ble_eq_true rfl) (allVal.mem ⟨(by exact (v_val _)), trivial⟩) ?_
  unfold k86
  have nd : Nd [] := Nd_nil
  unfold X.frame_made at hX
  refine SR fun K2 hK2 => ?_
  refine TLc.boxV (lu := [Enc.v u1.Kind, Enc.v u1.Label, Enc.v u1.Number, Enc.v u1.Load]) nd rfl (Cells_v (u1 : Unit_api)) rfl ?_
  refine M rfl rfl (TL.nil (hK2 _ _ (SR fun K3 hK3 => P1 (p_bld (l := [.nils]) ty147 rfl all147 rfl (fun _ => trivial)) rfl rfl ?_)))
  refine TLc.boxO (lu := [.nils]) nd rfl (Cells_agg rfl (allA.mem ⟨trivial, trivial⟩)) rfl fun b4 nd => ?_
  refine M rfl rfl (TL.nil (hK3 _ _ ?_))
  refine TK.ownC (α := UInt8) nd (j := 0) rfl 0 5 (.inl rfl) fun b5 nd => ?_
  refine SR fun K6 hK6 => M rfl rfl (P1 (p_faR fs42_0 (by decide) rfl) rfl rfl (P1 (p_ldR (v := Enc.v u1.Kind) ty3 rfl rfl rfl rfl rfl rfl) rfl rfl (P1 (p_cvt src3 kd5 rfl (cv_u8 _)) rfl rfl ?_)))
  obtain ⟨r7, hr7, hX⟩ := bind_some hX
  refine TL.pick [1, 0] nd (by decide) fun nd => ?_
  refine TL.tcX [(b4, RV 147 [OL (α := UInt8) b5 ([] : List UInt8)]), (b5, RL (α := UInt8) 5 ([] : List UInt8))] [] rfl nd (dlt rfl) rfl ⟨rfl, ⟨rfl, ⟨rfl, trivial⟩⟩⟩ (ok_code_Writer_Byte (u8 u1.Kind) ([] : List UInt8) b4 b5 (Nd.take nd 2 rfl) _ hr7) ?_
  rintro _ _ hQ nd
  obtain ⟨b9, rfl, rfl⟩ := hQ
  refine TL.nil (hK6 _ _ (SR fun K10 hK10 => M rfl rfl (P1 (p_faR fs42_1 (by decide) rfl) rfl rfl (P1 (p_ldR (v := Enc.v u1.Label) ty3 rfl rfl rfl rfl rfl rfl) rfl rfl ?_))))
  obtain ⟨r11, hr11, hX⟩ := bind_some hX
  refine TL.tcX [(b4, RV 147 [OL b9 r7]), (b9, RL (α := UInt8) 5 r7)] [] rfl nd (dlt rfl) rfl ⟨rfl, ⟨rfl, ⟨rfl, trivial⟩⟩⟩ (ok_code_Writer_Int u1.Label r7 b4 b9 (Nd.take nd 2 rfl) _ hr11) ?_
  rintro _ _ hQ nd
  obtain ⟨b13, rfl, rfl⟩ := hQ
  refine TL.nil (hK10 _ _ (SR fun K14 hK14 => M rfl rfl (P1 (p_faR fs42_2 (by decide) rfl) rfl rfl (P1 (p_ldR (v := Enc.v u1.Number) ty3 rfl rfl rfl rfl rfl rfl) rfl rfl ?_))))
  obtain ⟨r15, hr15, hX⟩ := bind_some hX
  refine TL.tcX [(b4, RV 147 [OL b13 r11]), (b13, RL (α := UInt8) 5 r11)] [] rfl nd (dlt rfl) rfl ⟨rfl, ⟨rfl, ⟨rfl, trivial⟩⟩⟩ (ok_code_Writer_Int u1.Number r11 b4 b13 (Nd.take nd 2 rfl) _ hr15) ?_
  rintro _ _ hQ nd
  obtain ⟨b17, rfl, rfl⟩ := hQ
  refine TL.nil (hK14 _ _ (SR fun K18 hK18 => M rfl rfl (P1 (p_faR fs42_3 (by decide) rfl) rfl rfl (P1 (p_ldR (v := Enc.v u1.Load) ty24 rfl rfl rfl rfl rfl rfl) rfl rfl (P1 (p_lenL (xs := u1.Load) kd24 rfl) rfl rfl (P1 (p_shr rfl rfl (fun _ => by omega)) rfl rfl (P1 (p_cvt src3 kd5 rfl (cv_u8 _)) rfl rfl ?_)))))))
  obtain ⟨r19, hr19, hX⟩ := bind_some hX
  refine TL.tcX [(b4, RV 147 [OL b17 r15]), (b17, RL (α := UInt8) 5 r15)] [] rfl nd (dlt rfl) rfl ⟨rfl, ⟨rfl, ⟨rfl, trivial⟩⟩⟩ (ok_code_Writer_Byte (u8 (shr64 (u1.Load.length : Int) ((8 : UInt64).toNat : Int))) r15 b4 b17 (Nd.take nd 2 rfl) _ hr19) ?_
  rintro _ _ hQ nd
  obtain ⟨b21, rfl, rfl⟩ := hQ
  refine TL.nil (hK18 _ _ (SR fun K22 hK22 => M rfl rfl (P1 (p_faR fs42_3 (by decide) rfl) rfl rfl (P1 (p_ldR (v := Enc.v u1.Load) ty24 rfl rfl rfl rfl rfl rfl) rfl rfl (P1 (p_lenL (xs := u1.Load) kd24 rfl) rfl rfl (P1 (p_cvt src3 kd5 rfl (cv_u8 _)) rfl rfl ?_))))))
  obtain ⟨r23, hr23, hX⟩ := bind_some hX
  refine TL.tcX [(b4, RV 147 [OL b21 r19]), (b21, RL (α := UInt8) 5 r19)] [] rfl nd (dlt rfl) rfl ⟨rfl, ⟨rfl, ⟨rfl, trivial⟩⟩⟩ (ok_code_Writer_Byte (u8 (u1.Load.length : Int)) r19 b4 b21 (Nd.take nd 2 rfl) _ hr23) ?_
  rintro _ _ hQ nd
  obtain ⟨b25, rfl, rfl⟩ := hQ
  refine TL.nil (hK22 _ _ (SR fun K26 hK26 => P1 (p_faR fs42_0 (by decide) rfl) rfl rfl (P1 (p_ldR (v := Enc.v u1.Kind) ty3 rfl rfl rfl rfl rfl rfl) rfl rfl ?_)))
  obtain ⟨r27, hr27, hX⟩ := bind_some hX
  refine TL.cvX rfl rfl rfl (fun _ => ⟨rfl, ⟨rfl, trivial⟩⟩) (fun e => ok_frame_room u1.Kind _ hr27) ?_
  obtain ⟨u28, hu28, hX⟩ := bind_some hX
  refine TLc.mkO nd (0 : UInt8) kd24 ty5 rfl (fun j hj => by (have : j = 0 := by simpa [Enc.sz] using hj); subst this; rfl) rfl rfl (by decide) (need_t hu28) rfl fun b29 nd => ?_
  refine M rfl rfl (TL.nil (hK26 _ _ (SR fun K30 hK30 => M rfl rfl (P1 (p_faR fs42_3 (by decide) rfl) rfl rfl (P1 (p_ldR (v := Enc.v u1.Load) ty24 rfl rfl rfl rfl rfl rfl) rfl rfl ?_)))))
  refine TLc.copyO (xs := (List.replicate r27.toNat (0 : UInt8))) (ys := u1.Load) nd kd24 ty5 rfl rfl (j := 0) rfl rfl (Src_L _) rfl fun nd => ?_
  refine TL.cv 4 (OL b29 (cpy (List.replicate r27.toNat (0 : UInt8)) u1.Load)) rfl (Wk_eq (OL_len (cpy_len))) ?_
  refine TL.nil (hK30 _ _ (SR fun K31 hK31 => M rfl rfl ?_))
  obtain ⟨r32, hr32, hX⟩ := bind_some hX
  refine TL.pick [1, 2, 0] nd (by decide) fun nd => ?_
  refine TL.tcX [(b4, RV 147 [OL b25 r23]), (b25, RL (α := UInt8) 5 r23)] [(b29, RL (α := UInt8) 5 (cpy (List.replicate r27.toNat (0 : UInt8)) u1.Load))] rfl nd (dlt rfl) rfl ⟨rfl, ⟨rfl, trivial⟩⟩ (ok_code_Writer_Bytes_or r23 b4 b25 (Nd.take nd 2 rfl) _ hr32) ?_
  rintro _ _ hQ nd
  obtain ⟨b33, rfl, rfl⟩ := hQ
  refine M rfl rfl ?_
  obtain ⟨u34, hu34, hX⟩ := bind_some hX
  refine TLc.appO nd kd24 bo24 ty5 rfl rfl (j := 2) rfl rfl (Src_OL nd (j := 3) rfl) (by decide) (need_t hu34) rfl fun nd => ?_
  refine M rfl rfl (TL.nil (hK31 _ _ (SR fun K35 hK35 => P1 (p_bld (l := [.nils]) ty147 rfl all147 rfl (fun _ => trivial)) rfl rfl ?_)))
  refine TLc.boxO (lu := [.nils]) nd rfl (Cells_agg rfl (allA.mem ⟨trivial, trivial⟩)) rfl fun b36 nd => ?_
  refine M rfl rfl (TL.nil (hK35 _ _ ?_))
  refine TK.ownC (α := UInt8) nd (j := 0) rfl 0 5 (.inl rfl) fun b37 nd => ?_
  refine SR fun K38 hK38 => M rfl rfl (M rfl rfl ?_)
  obtain ⟨r39, hr39, hX⟩ := bind_some hX
  refine TL.lookX [L (r32 ++ (cpy (List.replicate r27.toNat (0 : UInt8)) u1.Load))] rfl rfl rfl (fun _ => ⟨rfl, ⟨rfl, trivial⟩⟩) ⟨look_OL nd (j := 4) rfl, trivial⟩ (fun e => ok_castagnoli_Sum (r32 ++ (cpy (List.replicate r27.toNat (0 : UInt8)) u1.Load)) _ hr39) (trivial) ?_
  refine P1 (p_cvt src106 kd3 rfl (cv_32 r39)) rfl rfl ?_
  obtain ⟨r40, hr40, hX⟩ := bind_some hX
  refine TL.pick [1, 0, 2, 3, 4, 5] nd (by decide) fun nd => ?_
  refine TL.tcX [(b36, RV 147 [OL (α := UInt8) b37 ([] : List UInt8)]), (b37, RL (α := UInt8) 5 ([] : List UInt8))] [(b4, RV 147 [OL b25 r23]), (b25, RL (α := UInt8) 5 r23), (b33, RL (α := UInt8) 5 (r32 ++ (cpy (List.replicate r27.toNat (0 : UInt8)) u1.Load))), (b29, RL (α := UInt8) 5 (cpy (List.replicate r27.toNat (0 : UInt8)) u1.Load))] rfl nd (dlt rfl) rfl ⟨rfl, ⟨rfl, ⟨rfl, trivial⟩⟩⟩ (ok_code_Writer_Int (r39.toNat : Int) ([] : List UInt8) b36 b37 (Nd.take nd 2 rfl) _ hr40) ?_
  rintro _ _ hQ nd
  obtain ⟨b42, rfl, rfl⟩ := hQ
  refine TL.nil (hK38 _ _ (SR fun K43 hK43 => M rfl rfl (M rfl rfl ?_)))
  obtain ⟨r44, hr44, hX⟩ := bind_some hX
  refine TL.tcX [(b36, RV 147 [OL b42 r40]), (b42, RL (α := UInt8) 5 r40)] [(b4, RV 147 [OL b25 r23]), (b25, RL (α := UInt8) 5 r23), (b33, RL (α := UInt8) 5 (r32 ++ (cpy (List.replicate r27.toNat (0 : UInt8)) u1.Load))), (b29, RL (α := UInt8) 5 (cpy (List.replicate r27.toNat (0 : UInt8)) u1.Load))] rfl nd (dlt rfl) rfl ⟨rfl, ⟨rfl, trivial⟩⟩ (ok_code_Writer_Bytes r40 b36 b42 (Nd.take nd 2 rfl) _ hr44) ?_
  rintro _ _ hQ nd
  obtain ⟨rfl, rfl⟩ := hQ
  obtain ⟨u45, hu45, hX⟩ := bind_some hX
  refine TLc.appO nd kd24 bo24 ty5 rfl rfl (j := 4) rfl rfl (Src_L _) (by decide) (need_t hu45) rfl fun nd => ?_
  refine M rfl rfl (TL.nil (hK43 _ _ ?_))
  refine TK.lay [(2, L ((r32 ++ (cpy (List.replicate r27.toNat (0 : UInt8)) u1.Load)) ++ r44))] nd (j := 4) rfl ⟨⟨_, rfl, fix_OL nd (j := 4) rfl, rfl⟩, trivial⟩ fun nd => ?_
  refine TK.ret ?_
  try dsimp only [thenQ]
  exact R1 rfl hX

/-- cartridge/frame.Put -/
theorem ok_frame_Put (u1 : Unit_api) (r : ((List UInt8) × Int)) (hX : X.frame_Put u1 = some r) : Fun Tryd.prog 43 [Enc.v (u1 : Unit_api)] (· = .tup 2 (ofL [Enc.v r.1, Enc.v r.2])) := by
  refine Fun.of b43 (Nat.le_of_ble_eq_true rfl) (allVal.mem ⟨(by exact (v_val _)), trivial⟩) ?_
  unfold k43
  have nd : Nd [] := Nd_nil
  unfold X.frame_Put at hX
  refine SR fun K2 hK2 => ?_
  refine TLc.boxV (lu := [Enc.v u1.Kind, Enc.v u1.Label, Enc.v u1.Number, Enc.v u1.Load]) nd rfl (Cells_v (u1 : Unit_api)) rfl ?_
  refine M rfl rfl (M rfl rfl (TL.nil (hK2 _ _ ?_)))
  refine TK.seq_k fun K3 hK3 => ?_
  refine SR fun K4 hK4 => P1 (p_ldRa (l' := Enc.cl (u1 : Unit_api)) ty42 rfl rfl rfl rfl rfl (Nat.le_of_ble_eq_true rfl)) rfl rfl ?_
  obtain ⟨r5, hr5, hX⟩ := bind_some hX
  refine TL.cvX rfl rfl rfl (fun _ => ⟨rfl, ⟨rfl, trivial⟩⟩) (fun e => ok_frame_check u1 _ hr5) ?_
  refine M rfl rfl (TL.nil (hK4 _ _ (SR fun K6 hK6 => M rfl rfl (P1 (p_neq rfl rfl) rfl rfl (TL.nil (hK6 _ _ ?_))))))
  refine TK.cond (b := (r5 != (0 : Int))) rfl (fun hc => ?_) (fun hc => ?_)
  · have hX := ite_t hc hX
    refine SR fun K7 hK7 => M rfl rfl (M rfl rfl (M rfl rfl (TL.nil (hK7 _ _ ?_))))
    refine TK.wk 2 (L ([] : (List UInt8))) rfl Wk_nil ?_
    refine TK.ret ?_
    try dsimp only [thenQ]
    exact retN (vs := [Enc.v (([] : (List UInt8)) : (List UInt8)), Enc.v r5]) ⟨rfl, rfl, trivial⟩ (by obtain rfl := some_in hX; rfl) (allVal.mem ⟨v_val _, v_val _, trivial⟩)
  · have hX := ite_f hc hX
    refine TK.skip ?_
    refine hK3 _ _ (SR fun K8 hK8 => P1 (p_ldRa (l' := Enc.cl (u1 : Unit_api)) ty42 rfl rfl rfl rfl rfl (Nat.le_of_ble_eq_true rfl)) rfl rfl ?_)
    obtain ⟨r9, hr9, hX⟩ := bind_some hX
    refine TL.cvX rfl rfl rfl (fun _ => ⟨rfl, ⟨rfl, trivial⟩⟩) (fun e => ok_frame_made u1 _ hr9) ?_
    refine M rfl rfl (M rfl rfl (TL.nil (hK8 _ _ ?_)))
    refine TK.ret ?_
    try dsimp only [thenQ]
    exact retN (vs := [Enc.v r9, Enc.v ((0 : Int) : Int)]) ⟨rfl, rfl, trivial⟩ (by obtain rfl := some_in hX; rfl) (allVal.mem ⟨v_val _, v_val _, trivial⟩)

/-- cartridge/volume.Blocks -/
theorem ok_volume_Blocks (label1 : Int) (at2 : Int) (h3 : Head_api) (b4 : (List UInt8)) (r : ((List (List UInt8)) × Int)) (hX : X.volume_Blocks label1 at2 h3 b4 = some r) : Fun Tryd.prog 13 [Enc.v (label1 : Int), Enc.v (at2 : Int), Enc.v (h3 : Head_api), Enc.v (b4 : (List UInt8))] (· = .tup 2 (ofL [Enc.v r.1, Enc.v r.2])) := by
  refine Fun.of b13 (Nat.le_of_ble_eq_true rfl) (allVal.mem ⟨(by exact (v_val _)), (by exact (v_val _)), (by exact (v_val _)), (by exact (v_val _)), trivial⟩) ?_
  unfold k13
  have nd : Nd [] := Nd_nil
  unfold X.volume_Blocks at hX
  refine SR fun K5 hK5 => ?_
  refine TLc.boxV (lu := [Enc.v h3.Path, Enc.v h3.Version, Enc.v h3.Size, Enc.v h3.From, Enc.v h3.Len, Enc.v h3.Serial, Enc.v h3.Sum, Enc.v h3.Gone]) nd rfl (Cells_v (h3 : Head_api)) rfl ?_
  refine M rfl rfl (M rfl rfl (TL.nil (hK5 _ _ ?_)))
  refine TK.seq_k fun K6 hK6 => ?_
  refine SR fun K7 hK7 => P1 (p_ldRa (l' := Enc.cl (h3 : Head_api)) ty23 rfl rfl rfl rfl rfl (Nat.le_of_ble_eq_true rfl)) rfl rfl ?_
  obtain ⟨r8, hr8, hX⟩ := bind_some hX
  refine TL.cvX rfl rfl rfl (fun _ => ⟨rfl, ⟨rfl, trivial⟩⟩) (fun e => ok_record_RightHead h3 _ hr8) ?_
  refine P1 (p_not rfl) rfl rfl (M rfl rfl ?_)
  refine TLc.p (gc := (!((!r8)))) (p_mv rfl (hg := fun e => rfl)) (gcF1 rfl) rfl ?_
  refine TLc.p (gc := (!((!r8)))) (p_lenL (xs := b4) kd24 rfl (hg := fun e => e)) (gcF1 rfl) rfl ?_
  refine TLc.p (gc := (!((!r8)))) (p_faR fs23_4 (by decide) rfl (hg := fun e => rfl)) (gcF1 rfl) rfl ?_
  refine TLc.p (gc := (!((!r8)))) (p_ldR (v := Enc.v h3.Len) ty3 rfl rfl rfl rfl rfl rfl (hg := fun e => e)) (gcF1 rfl) rfl ?_
  refine TLc.p (gc := (!((!r8)))) (p_neq rfl rfl (hg := fun e => ⟨e, e⟩)) (gcF1 rfl) rfl ?_
  refine P1 (p_or rfl rfl (fun e => ⟨rfl, fun h => (not_t h)⟩)) rfl rfl (TL.nil (hK7 _ _ ?_))
  refine TK.cond (b := ((!r8) || ((b4.length : Int) != h3.Len))) rfl (fun hc => ?_) (fun hc => ?_)
  · have hX := ite_t hc hX
    refine SR fun K9 hK9 => M rfl rfl (M rfl rfl (TL.nil (hK9 _ _ ?_)))
    refine TK.wk 8 (L ([] : (List (List UInt8)))) rfl Wk_nil ?_
    refine TK.ret ?_
    try dsimp only [thenQ]
    exact retN (vs := [Enc.v (([] : (List (List UInt8))) : (List (List UInt8))), Enc.v ((1 : Int) : Int)]) ⟨rfl, rfl, trivial⟩ (by obtain rfl := some_in hX; rfl) (allVal.mem ⟨v_val _, v_val _, trivial⟩)
  · have hX := ite_f hc hX
    refine TK.skip ?_
    refine hK6 _ _ (SR fun K10 hK10 => P1 (p_ldRa (l' := Enc.cl (h3 : Head_api)) ty23 rfl rfl rfl rfl rfl (Nat.le_of_ble_eq_true rfl)) rfl rfl ?_)
    obtain ⟨r11, hr11, hX⟩ := bind_some hX
    refine TL.cvX rfl rfl rfl (fun _ => ⟨rfl, ⟨rfl, trivial⟩⟩) (fun e => ok_record_HeadBytes h3 _ hr11) ?_
    refine P1 (p_bld (l := Enc.cl ((Unit_api.mk (2 : Int) (0 : Int) (0 : Int) r11) : Unit_api)) ty42 rfl all42 rfl (fun _ => ⟨⟨rfl, trivial, rfl⟩, ⟨rfl, trivial, rfl⟩, trivial⟩)) rfl rfl ?_
    refine TLc.litO nd ([(Unit_api.mk (2 : Int) (0 : Int) (0 : Int) r11)] : List Unit_api) kd97 ty42 rfl ⟨⟨rfl, rfl⟩, trivial⟩ rfl rfl rfl fun b12 nd => ?_
    refine M rfl rfl (TL.nil (hK10 _ _ ?_))
    refine TK.seq_k fun K13 hK13 => ?_
    refine TK.block ?_
    obtain ⟨o14, hO14, hA14⟩ := bind_some hX
    have E14 : ∀ (l19 : List Unit_api) (env : Env) (h : Hp), (∃ b18, keepE [0, 1, 10] env = [(0, true, Enc.v label1), (1, true, Enc.v at2), (10, true, OL b18 l19)] ∧ Nd [(b18, RL (α := Unit_api) 42 l19)] ∧ HSub [(b18, RL (α := Unit_api) 42 l19)] h) → X.volume_Blocks_e14 label1 at2 l19 = some r → K13 env h := by
      intro l19 env h hE hX
      obtain ⟨b18, henv, nd, hs⟩ := hE
      unfold X.volume_Blocks_e14 at hX
      refine hK13 _ _ (TK.keep [0, 1, 10] ?_)
      rw [henv]
      refine TK.subH hs ?_
      refine SR fun K20 hK20 => M rfl rfl ?_
      refine TLc.p (gc := true) (p_bld (l := [Enc.v ((4 : Int) : Int), Enc.v ((0 : Int) : Int), Enc.v ((0 : Int) : Int), .nils]) ty42 rfl all42 rfl (fun _ => ⟨⟨rfl, trivial, rfl⟩, trivial⟩)) rfl rfl (TL.wk (v' := Enc.v ((Unit_api.mk (4 : Int) (0 : Int) (0 : Int) ([] : (List UInt8))) : Unit_api)) (Wk_agg ⟨Wk.refl _, Wk.refl _, Wk.refl _, Wk_nil, trivial⟩) ?_)
      refine TLc.lit ([(Unit_api.mk (4 : Int) (0 : Int) (0 : Int) ([] : (List UInt8)))] : List Unit_api) kd97 ty42 rfl ⟨⟨rfl, rfl⟩, trivial⟩ rfl rfl rfl ?_
      obtain ⟨u21, hu21, hX⟩ := bind_some hX
      refine TLc.appO nd kd97 bo97 ty42 rfl rfl (j := 0) rfl rfl (Src_L _) (by decide) (need_t hu21) rfl fun nd => ?_
      refine M rfl rfl (TL.nil (hK20 _ _ (SR fun K22 hK22 => M rfl rfl (TL.nil (hK22 _ _ ?_)))))
      refine TK.ownL (α := (List UInt8)) 11 24 nd rfl (.inl rfl) fun b23 nd => ?_
      refine TK.seq_k fun K24 hK24 => ?_
      refine SR fun K25 hK25 => M rfl rfl (P1 (p_lenR kd97 rfl (fun _ => refOK_of nd (j := 1) rfl rfl)) rfl rfl (M rfl rfl (TL.nil (hK25 _ _ ?_))))
      refine TK.block ?_
      obtain ⟨o26, hO26, hA26⟩ := bind_some hX
      have E26 : ∀ (l32 : List (List UInt8)) (env : Env) (h : Hp), (∃ b31, keepE [11] env = [(11, true, OL b31 l32)] ∧ Nd [(b31, RL (α := (List UInt8)) 24 l32)] ∧ HSub [(b31, RL (α := (List UInt8)) 24 l32)] h) → X.volume_Blocks_e26 l32 = some r → K24 env h := by
        intro l32 env h hE hX
        obtain ⟨b31, henv, nd, hs⟩ := hE
        unfold X.volume_Blocks_e26 at hX
        refine hK24 _ _ (TK.keep [11] ?_)
        rw [henv]
        refine TK.subH hs ?_
        refine SR fun K33 hK33 => M rfl rfl (M rfl rfl (M rfl rfl (TL.nil (hK33 _ _ ?_))))
        refine TK.lay [(8, L l32)] nd (j := 0) rfl ⟨⟨_, rfl, fix_OL nd (j := 0) rfl, rfl⟩, trivial⟩ fun nd => ?_
        refine TK.ret ?_
        try dsimp only [thenQ]
        exact retN (vs := [Enc.v l32, Enc.v ((0 : Int) : Int)]) ⟨rfl, rfl, trivial⟩ (by obtain rfl := some_in hX; rfl) (allVal.mem ⟨v_val _, v_val _, trivial⟩)
      refine TK.iter [0, 1, 11, 51, 52, 53] (fun s env h => match s with | (out28, x30) => ∃ b27 b29, env = [(0, true, Enc.v label1), (1, true, Enc.v at2), (11, true, OL b27 out28), (51, true, OL (α := Unit_api) b29 (l19 ++ ([(Unit_api.mk (4 : Int) (0 : Int) (0 : Int) ([] : (List UInt8)))] : List Unit_api))), (52, true, Enc.v (((l19 ++ ([(Unit_api.mk (4 : Int) (0 : Int) (0 : Int) ([] : (List UInt8)))] : List Unit_api)).length : Int) : Int)), (53, true, Enc.v x30)] ∧ Nd [(b27, RL (α := (List UInt8)) 24 out28), (b29, RL (α := Unit_api) 42 (l19 ++ ([(Unit_api.mk (4 : Int) (0 : Int) (0 : Int) ([] : (List UInt8)))] : List Unit_api)))] ∧ HSub [(b27, RL (α := (List UInt8)) 24 out28), (b29, RL (α := Unit_api) 42 (l19 ++ ([(Unit_api.mk (4 : Int) (0 : Int) (0 : Int) ([] : (List UInt8)))] : List Unit_api)))] h) hO26 ⟨b23, b18, rfl, (Nd.pick nd (is := [0, 1]) (by decide)), (HSub.pick nd (is := [0, 1]) (by decide))⟩ ?_
      rintro ⟨out28, x30⟩ env h x26x ⟨b27, b29, rfl, nd, hs⟩ hX hR26
      refine TK.subH hs ?_
      unfold X.volume_Blocks_s26 at hX
      try dsimp only at hX
      refine SR fun K34 hK34 => P1 (p_lss rfl rfl) rfl rfl (TL.nil (hK34 _ _ ?_))
      refine TK.seq_k fun K35 hK35 => ?_
      refine TK.cond (b := (decide (x30 < ((l19 ++ ([(Unit_api.mk (4 : Int) (0 : Int) (0 : Int) ([] : (List UInt8)))] : List Unit_api)).length : Int)))) rfl (fun hc => ?_) (fun hc => ?_)
      · have hX := ite_t hc hX
        refine TK.skip ?_
        refine hK35 _ _ ?_
        refine TK.seq_k fun K36 hK36 => ?_
        refine TK.block ?_
        refine SR fun K37 hK37 => M rfl rfl ?_
        obtain ⟨e38, he38, hX⟩ := bind_some hX
        refine P1 (p_iaO (xs := (l19 ++ ([(Unit_api.mk (4 : Int) (0 : Int) (0 : Int) ([] : (List UInt8)))] : List Unit_api))) kd97 ty42 rfl rfl rfl nd (j := 1) rfl (fun _ => he38)) rfl rfl (P1 (p_ldO (xs := (l19 ++ ([(Unit_api.mk (4 : Int) (0 : Int) (0 : Int) ([] : (List UInt8)))] : List Unit_api))) (a := e38) (e38 : Unit_api) ty42 rfl rfl nd (j := 1) rfl (fun _ => he38) rfl rfl rfl) rfl rfl ?_)
        refine TLc.alO (l := [Enc.v ((0 : Int) : Int), Enc.v ((0 : Int) : Int), Enc.v ((0 : Int) : Int), .nils]) nd ty42 ti42_z rfl rfl fun b39 nd => ?_
        refine M rfl rfl ?_
        refine TLc.stV (lu := Enc.cl (e38 : Unit_api)) nd ty42 rfl (j := 0) rfl rfl rfl (Cells_v (e38 : Unit_api)) rfl rfl [Enc.v e38.Kind, Enc.v e38.Label, Enc.v e38.Number, Enc.v e38.Load] rfl fun nd => ?_
        refine TL.nil (hK37 _ _ (SR fun K40 hK40 => M rfl rfl (M rfl rfl (M rfl rfl (P1 (p_add rfl rfl) rfl rfl (P1 (p_faV fs42_1 (by decide) rfl nd (j := 0) rfl rfl) rfl rfl ?_))))))
        refine TLc.stV (lu := Enc.cl (label1 : Int)) nd ty3 rfl (j := 0) rfl rfl rfl (Cells_v (label1 : Int)) rfl rfl [Enc.v e38.Kind, Enc.v label1, Enc.v e38.Number, Enc.v e38.Load] rfl fun nd => ?_
        refine P1 (p_faV fs42_2 (by decide) rfl nd (j := 0) rfl rfl) rfl rfl ?_
        refine TLc.stV (lu := Enc.cl ((wr (at2 + x30)) : Int)) nd ty3 rfl (j := 0) rfl rfl rfl (Cells_v ((wr (at2 + x30)) : Int)) rfl rfl [Enc.v e38.Kind, Enc.v label1, Enc.v ((wr (at2 + x30)) : Int), Enc.v e38.Load] rfl fun nd => ?_
        refine TL.nil (hK40 _ _ (SR fun K41 hK41 => P1 (p_ldVa (l' := Enc.cl ((Unit_api.mk e38.Kind label1 (wr (at2 + x30)) e38.Load) : Unit_api)) ty42 rfl rfl nd (j := 0) rfl rfl rfl rfl (Nat.le_of_ble_eq_true rfl)) rfl rfl ?_))
        obtain ⟨r42, hr42, hX⟩ := bind_some hX
        refine TL.cvX rfl rfl rfl (fun _ => ⟨rfl, ⟨rfl, trivial⟩⟩) (fun e => ok_frame_Put (Unit_api.mk e38.Kind label1 (wr (at2 + x30)) e38.Load) _ hr42) ?_
        refine M rfl rfl (P1 (p_ex rfl rfl (by decide)) rfl rfl (P1 (p_ex rfl rfl (by decide)) rfl rfl (M rfl rfl (M rfl rfl (TL.nil (hK41 _ _ ?_))))))
        refine TK.seq_k fun K43 hK43 => ?_
        refine SR fun K44 hK44 => M rfl rfl (P1 (p_neq rfl rfl) rfl rfl (TL.nil (hK44 _ _ ?_)))
        refine TK.cond (b := (r42.2 != (0 : Int))) rfl (fun hc => ?_) (fun hc => ?_)
        · have hX := ite_t hc hX
          refine SR fun K45 hK45 => M rfl rfl (M rfl rfl (M rfl rfl (TL.nil (hK45 _ _ ?_))))
          refine TK.wk 8 (L ([] : (List (List UInt8)))) rfl Wk_nil ?_
          refine TK.ret ?_
          obtain rfl := hR26 _ (some_in hX).symm
          replace hX := hA26
          try dsimp only [thenQ]
          exact retN (vs := [Enc.v (([] : (List (List UInt8))) : (List (List UInt8))), Enc.v r42.2]) ⟨rfl, rfl, trivial⟩ (by obtain rfl := some_in hX; rfl) (allVal.mem ⟨v_val _, v_val _, trivial⟩)
        · have hX := ite_f hc hX
          refine TK.skip ?_
          refine hK43 _ _ ?_
          refine TK.reg ?_
          refine M rfl rfl (M rfl rfl ?_)
          refine TLc.lit ([r42.1] : List (List UInt8)) kd26 ty24 rfl ⟨⟨rfl, rfl⟩, trivial⟩ rfl rfl rfl ?_
          obtain ⟨u46, hu46, hX⟩ := bind_some hX
          refine TLc.appO nd kd26 bo26 ty24 rfl rfl (j := 1) rfl rfl (Src_L _) (by decide) (need_t hu46) rfl fun nd => ?_
          refine M rfl rfl (TL.nil (hK36 _ _ ?_))
          refine TK.reg ?_
          refine P1 (p_add rfl rfl) rfl rfl (M rfl rfl (TL.nil ?_))
          exact ⟨_, (some_in hX).symm, b27, b29, rfl, (Nd.pick nd (is := [1, 2]) (by decide)), (HSub.pick nd (is := [1, 2]) (by decide))⟩
      · have hX := ite_f hc hX
        refine TK.exit ?_
        obtain rfl := hR26 _ (some_in hX).symm
        exact E26 out28 _ _ ⟨b27, rfl, (Nd.pick nd (is := [0]) (by decide)), (HSub.pick nd (is := [0]) (by decide))⟩ hA26
    refine TK.iter [0, 1, 3, 10] (fun s env h => match s with | (b15, l17) => ∃ b16, env = [(0, true, Enc.v label1), (1, true, Enc.v at2), (3, true, Enc.v b15), (10, true, OL b16 l17)] ∧ Nd [(b16, RL (α := Unit_api) 42 l17)] ∧ HSub [(b16, RL (α := Unit_api) 42 l17)] h) hO14 ⟨b12, rfl, (Nd.pick nd (is := [0]) (by decide)), (HSub.pick nd (is := [0]) (by decide))⟩ ?_
    rintro ⟨b15, l17⟩ env h x14x ⟨b16, rfl, nd, hs⟩ hX hR14
    refine TK.subH hs ?_
    unfold X.volume_Blocks_s14 at hX
    try dsimp only at hX
    refine TK.seq_k fun K47 hK47 => ?_
    refine SR fun K48 hK48 => M rfl rfl (P1 (p_lenL (xs := b15) kd24 rfl) rfl rfl (P1 (p_gtr rfl rfl) rfl rfl (TL.nil (hK48 _ _ ?_))))
    refine TK.cond (b := (decide ((b15.length : Int) > (0 : Int)))) rfl (fun hc => ?_) (fun hc => ?_)
    · have hX := ite_t hc hX
      refine TK.skip ?_
      refine hK47 _ _ ?_
      refine TK.seq_k fun K49 hK49 => ?_
      refine TK.block ?_
      refine TK.reg ?_
      refine M rfl rfl (M rfl rfl (M rfl rfl (P1 (p_lenL (xs := b15) kd24 rfl) rfl rfl (P1 (p_min rfl rfl) rfl rfl ?_))))
      obtain ⟨u50, hu50, hX⟩ := bind_some hX
      refine P1 (p_sliL (xs := b15) (l := (0 : Int)) (k := (min (b15.length : Int) (64 : Int))) kd24 ty5 rfl rfl rfl rfl (fun e => need_t hu50)) rfl rfl (P1 (p_bld (l := Enc.cl ((Unit_api.mk (3 : Int) (0 : Int) (0 : Int) (slc b15 (0 : Int) (min (b15.length : Int) (64 : Int)))) : Unit_api)) ty42 rfl all42 rfl (fun _ => ⟨⟨rfl, trivial, rfl⟩, ⟨rfl, trivial, rfl⟩, trivial⟩)) rfl rfl ?_)
      refine TLc.lit ([(Unit_api.mk (3 : Int) (0 : Int) (0 : Int) (slc b15 (0 : Int) (min (b15.length : Int) (64 : Int))))] : List Unit_api) kd97 ty42 rfl ⟨⟨rfl, rfl⟩, trivial⟩ rfl rfl rfl ?_
      obtain ⟨u51, hu51, hX⟩ := bind_some hX
      refine TLc.appO nd kd97 bo97 ty42 rfl rfl (j := 0) rfl rfl (Src_L _) (by decide) (need_t hu51) rfl fun nd => ?_
      refine M rfl rfl (TL.nil (hK49 _ _ ?_))
      refine TK.reg ?_
      refine M rfl rfl (M rfl rfl (P1 (p_lenL (xs := b15) kd24 rfl) rfl rfl (P1 (p_min rfl rfl) rfl rfl ?_)))
      obtain ⟨u52, hu52, hX⟩ := bind_some hX
      refine P1 (p_sliL (xs := b15) (l := (min (b15.length : Int) (64 : Int))) (k := (b15.length : Int)) kd24 ty5 rfl rfl rfl rfl (fun e => need_t hu52)) rfl rfl (M rfl rfl (TL.nil ?_))
      exact ⟨_, (some_in hX).symm, b16, rfl, (Nd.pick nd (is := [0]) (by decide)), (HSub.pick nd (is := [0]) (by decide))⟩
    · have hX := ite_f hc hX
      refine TK.exit ?_
      obtain rfl := hR14 _ (some_in hX).symm
      exact E14 l17 _ _ ⟨b16, rfl, (Nd.pick nd (is := [0]) (by decide)), (HSub.pick nd (is := [0]) (by decide))⟩ hA14

/-- cartridge/volume.data -/
theorem ok_volume_data (size1 : Int) (r : Int) (hX : X.volume_data size1 = some r) : Fun Tryd.prog 46 [Enc.v (size1 : Int)] (· = Enc.v (r : Int)) := by
  refine Fun.of b46 (Nat.le_of_ble_eq_true rfl) (allVal.mem ⟨(by exact (v_val _)), trivial⟩) ?_
  unfold k46
  have nd : Nd [] := Nd_nil
  unfold X.volume_data at hX
  refine SR fun K2 hK2 => M rfl rfl (TL.nil (hK2 _ _ ?_))
  refine TK.seq_k fun K3 hK3 => ?_
  refine SR fun K4 hK4 => M rfl rfl (P1 (p_lss rfl rfl) rfl rfl (TL.nil (hK4 _ _ ?_)))
  refine TK.cond (b := (decide (size1 < (1 : Int)))) rfl (fun hc => ?_) (fun hc => ?_)
  · have hX := ite_t hc hX
    refine SR fun K5 hK5 => M rfl rfl (TL.nil (hK5 _ _ ?_))
    refine TK.ret ?_
    try dsimp only [thenQ]
    exact R1 rfl hX
  · have hX := ite_f hc hX
    refine TK.skip ?_
    refine hK3 _ _ (SR fun K6 hK6 => M rfl rfl (P1 (p_sub rfl rfl) rfl rfl (P1 (p_quo rfl rfl (fun _ => by decide)) rfl rfl (P1 (p_add rfl rfl) rfl rfl (M rfl rfl (TL.nil (hK6 _ _ ?_)))))))
    refine TK.ret ?_
    try dsimp only [thenQ]
    exact R1 rfl hX

/-- cartridge/volume.Need -/
theorem ok_volume_Need (size1 : Int) (r : Int) (hX : X.volume_Need size1 = some r) : Fun Tryd.prog 17 [Enc.v (size1 : Int)] (· = Enc.v (r : Int)) := by
  refine Fun.of b17 (Nat.le_of_ble_eq_true rfl) (allVal.mem ⟨(by exact (v_val _)), trivial⟩) ?_
  unfold k17
  have nd : Nd [] := Nd_nil
  unfold X.volume_Need at hX
  refine SR fun K2 hK2 => M rfl rfl (TL.nil (hK2 _ _ (SR fun K3 hK3 => M rfl rfl (P1 (p_min rfl rfl) rfl rfl ?_))))
  obtain ⟨r4, hr4, hX⟩ := bind_some hX
  refine TL.cvX rfl rfl rfl (fun _ => ⟨rfl, ⟨rfl, trivial⟩⟩) (fun e => ok_volume_data (min size1 (4000 : Int)) _ hr4) ?_
  refine P1 (p_add rfl rfl) rfl rfl (M rfl rfl (TL.nil (hK3 _ _ ?_)))
  refine TK.ret ?_
  try dsimp only [thenQ]
  exact R1 rfl hX

/-- cartridge/cartridgelaw11.num -/
theorem ok_cartridgelaw11_num (e1 : Int) (r : Int) (hX : X.cartridgelaw11_num e1 = some r) : Fun Tryd.prog 16 [Enc.v (e1 : Int)] (· = Enc.v (r : Int)) := by
  refine Fun.of b16 (Nat.le_of_ble_eq_true rfl) (allVal.mem ⟨(by exact (v_val _)), trivial⟩) ?_
  unfold k16
  have nd : Nd [] := Nd_nil
  unfold X.cartridgelaw11_num at hX
  refine SR fun K2 hK2 => M rfl rfl (TL.nil (hK2 _ _ (SR fun K3 hK3 => M rfl rfl (M rfl rfl (TL.nil (hK3 _ _ ?_))))))
  refine TK.ret ?_
  try dsimp only [thenQ]
  exact R1 rfl hX

/-- slices.Clone[[]byte,byte] -/
theorem ok_slices_Clone_Lbyte_byte (s1 : (List UInt8)) (r : (List UInt8)) (hX : X.slices_Clone_Lbyte_byte s1 = some r) : Fun Tryd.prog 66 [Enc.v (s1 : (List UInt8))] (· = Enc.v (r : (List UInt8))) := by
  refine Fun.of b66 (Nat.le_of_ble_eq_true rfl) (allVal.mem ⟨(by exact (v_val _)), trivial⟩) ?_
  unfold k66
  have nd : Nd [] := Nd_nil
  unfold X.slices_Clone_Lbyte_byte at hX
  refine SR fun K2 hK2 => M rfl rfl (TL.nil (hK2 _ _ ?_))
  refine TK.seq_k fun K3 hK3 => ?_
  refine SR fun K4 hK4 => M rfl rfl ?_
  refine TLc.eqNilU (xs := s1) kd24 rfl rfl rfl fun z5 hbz5 => ?_
  replace hX := nilU_t hX hbz5
  refine TL.nil (hK4 _ _ ?_)
  refine TK.cond (b := z5) rfl (fun hc => ?_) (fun hc => ?_)
  · have hX := ite_t hc hX
    refine SR fun K6 hK6 => M rfl rfl (TL.nil (hK6 _ _ ?_))
    refine TK.wk 2 (L ([] : (List UInt8))) rfl Wk_nil ?_
    refine TK.ret ?_
    try dsimp only [thenQ]
    exact R1 rfl hX
  · have hX := ite_f hc hX
    refine TK.skip ?_
    refine hK3 _ _ (SR fun K7 hK7 => ?_)
    refine TLc.litZ kd24 ty5 rfl ?_
    refine M rfl rfl ?_
    obtain ⟨u9, hu9, hX⟩ := bind_some hX
    refine TLc.appN nd kd24 bo24 ty5 rfl rfl (.inr rfl) rfl (Src_L _) (by decide) (need_t hu9) rfl fun b10 nd => ?_
    refine M rfl rfl (TL.nil (hK7 _ _ ?_))
    refine TK.lay [(2, L s1)] nd (j := 0) rfl ⟨⟨_, rfl, fix_OL nd (j := 0) rfl, rfl⟩, trivial⟩ fun nd => ?_
    refine TK.ret ?_
    try dsimp only [thenQ]
    exact R1 rfl hX

/-- cartridge/code.NewReader -/
theorem ok_code_NewReader (b1 : (List UInt8)) (nd : Nd []) (r : ((List UInt8) × Bool)) (hX : X.code_NewReader b1 = some r) : TCX Tryd.prog 111 [Enc.v (b1 : (List UInt8))] [] (fun rv h' => ∃ b6, rv = .ref b6 0 2 ∧ h' = [(b6, RV 215 [Enc.v (r.1 : (List UInt8)), Enc.v (r.2 : Bool)])]) := by
  refine TCX.of b111 (Nat.le_of_ble_eq_true rfl) ?_
  unfold k111
  unfold X.code_NewReader at hX
  refine SR fun K2 hK2 => M rfl rfl (TL.nil (hK2 _ _ (SR fun K3 hK3 => M rfl rfl ?_)))
  obtain ⟨r4, hr4, hX⟩ := bind_some hX
  refine TL.cvX rfl rfl rfl (fun _ => ⟨rfl, ⟨rfl, trivial⟩⟩) (fun e => ok_slices_Clone_Lbyte_byte b1 _ hr4) ?_
  refine P1 (p_bld (l := Enc.cl ((Reader_code.mk r4 false) : Reader_code)) ty215 rfl all215 rfl (fun _ => ⟨⟨rfl, trivial, rfl⟩, trivial⟩)) rfl rfl ?_
  refine TLc.boxO (lu := [Enc.v ((Reader_code.mk r4 false).b_ : (List UInt8)), Enc.v ((Reader_code.mk r4 false).bad_ : Bool)]) nd rfl (Cells_v ((Reader_code.mk r4 false) : Reader_code)) rfl fun b5 nd => ?_
  refine M rfl rfl (TL.nil (hK3 _ _ ?_))
  refine TK.ret ?_
  try dsimp only [thenQ]
  exact retX (v := .ref b5 0 2) (res1 rfl) (by obtain rfl := some_in hX; exact ⟨b5, rfl, rfl⟩) nd (inH_ref nd (j := 0) rfl) ⟨rowIn_RV ⟨inH_val (v_val _), inH_val (v_val _), trivial⟩, trivial⟩

/-- (*cartridge/code.Reader).take -/
theorem ok_code_Reader_take (n4 : Int) (b1 : (List UInt8)) (bad2 : Bool) (b3 : Nat) (nd : Nd [(b3, RV 215 [Enc.v (b1 : (List UInt8)), Enc.v (bad2 : Bool)])]) (r : ((List UInt8) × ((List UInt8) × Bool))) (hX : X.code_Reader_take n4 b1 bad2 = some r) : TCX Tryd.prog 146 [.ref b3 0 2, Enc.v (n4 : Int)] [(b3, RV 215 [Enc.v (b1 : (List UInt8)), Enc.v (bad2 : Bool)])] (fun rv h' => rv = Enc.v (r.1 : (List UInt8)) ∧ h' = [(b3, RV 215 [Enc.v (r.2.1 : (List UInt8)), Enc.v (r.2.2 : Bool)])]) := by
  refine TCX.of b146 (Nat.le_of_ble_eq_true rfl) ?_
  unfold k146
  unfold X.code_Reader_take at hX
  refine SR fun K5 hK5 => M rfl rfl (TL.nil (hK5 _ _ ?_))
  refine TK.seq_k fun K6 hK6 => ?_
  refine SR fun K7 hK7 => M rfl rfl (P1 (p_eqP kd184 rfl rfl (fun _ => refOK_of nd (j := 0) rfl rfl)) rfl rfl (M rfl rfl ?_))
  refine TL.guardT rfl ?_
  refine M rfl rfl ?_
  refine TL.guardT rfl ?_
  refine P1 (p_ncR rfl (fun _ => refOK_of nd (j := 0) rfl rfl)) rfl rfl ?_
  refine TL.guardT rfl ?_
  refine P1 (p_faV fs215_1 (by decide) rfl nd (j := 0) rfl rfl) rfl rfl ?_
  refine TL.guardT rfl ?_
  refine P1 (p_ldV (v := Enc.v bad2) ty4 rfl rfl nd (j := 0) rfl rfl rfl rfl rfl) rfl rfl (P1 (p_or rfl rfl (fun e => ⟨rfl, fun h => rfl⟩)) rfl rfl (TL.nil (hK7 _ _ ?_)))
  refine TK.cond (b := bad2) rfl (fun hc => ?_) (fun hc => ?_)
  · have hX := ite_t hc hX
    refine SR fun K8 hK8 => M rfl rfl (TL.nil (hK8 _ _ ?_))
    refine TK.wk 4 (L ([] : (List UInt8))) rfl Wk_nil ?_
    refine TK.ret ?_
    try dsimp only [thenQ]
    exact retX (v := Enc.v (([] : (List UInt8)) : (List UInt8))) (res1 rfl) (by obtain rfl := some_in hX; exact ⟨rfl, rfl⟩) nd (inH_val (v_val _)) ⟨rowIn_RV ⟨inH_val (v_val _), inH_val (v_val _), trivial⟩, trivial⟩
  · have hX := ite_f hc hX
    refine TK.skip ?_
    refine hK6 _ _ ?_
    refine TK.seq_k fun K9 hK9 => ?_
    refine SR fun K10 hK10 => M rfl rfl (M rfl rfl (P1 (p_ncR rfl (fun _ => refOK_of nd (j := 0) rfl rfl)) rfl rfl (P1 (p_faV fs215_0 (by decide) rfl nd (j := 0) rfl rfl) rfl rfl (P1 (p_ldV (v := Enc.v b1) ty24 rfl rfl nd (j := 0) rfl rfl rfl rfl rfl) rfl rfl (P1 (p_lenL (xs := b1) kd24 rfl) rfl rfl (P1 (p_gtr rfl rfl) rfl rfl (TL.nil (hK10 _ _ ?_))))))))
    refine TK.cond (b := (decide (n4 > (b1.length : Int)))) rfl (fun hc => ?_) (fun hc => ?_)
    · have hX := ite_t hc hX
      refine SR fun K11 hK11 => M rfl rfl (M rfl rfl (P1 (p_ncR rfl (fun _ => refOK_of nd (j := 0) rfl rfl)) rfl rfl (P1 (p_faV fs215_0 (by decide) rfl nd (j := 0) rfl rfl) rfl rfl ?_)))
      refine TLc.stV (lu := [.nils]) nd ty24 rfl (j := 0) rfl rfl rfl (Cells_one trivial) rfl rfl [.nils, Enc.v bad2] rfl fun nd => ?_
      refine P1 (p_ncR rfl (fun _ => refOK_of nd (j := 0) rfl rfl)) rfl rfl (P1 (p_faV fs215_1 (by decide) rfl nd (j := 0) rfl rfl) rfl rfl ?_)
      refine TLc.stV (lu := Enc.cl (true : Bool)) nd ty4 rfl (j := 0) rfl rfl rfl (Cells_v (true : Bool)) rfl rfl [.nils, Enc.v true] rfl fun nd => ?_
      refine TL.nil (hK11 _ _ ?_)
      refine TK.cvR nd (j := 0) rfl (l' := [Enc.v (([] : (List UInt8)) : (List UInt8)), Enc.v true]) ⟨Wk_nil, Wk.refl _, trivial⟩ fun nd => ?_
      refine SR fun K12 hK12 => M rfl rfl (TL.nil (hK12 _ _ ?_))
      refine TK.wk 4 (L ([] : (List UInt8))) rfl Wk_nil ?_
      refine TK.ret ?_
      try dsimp only [thenQ]
      exact retX (v := Enc.v (([] : (List UInt8)) : (List UInt8))) (res1 rfl) (by obtain rfl := some_in hX; exact ⟨rfl, rfl⟩) nd (inH_val (v_val _)) ⟨rowIn_RV ⟨inH_val (v_val _), inH_val (v_val _), trivial⟩, trivial⟩
    · have hX := ite_f hc hX
      refine TK.skip ?_
      refine hK9 _ _ (SR fun K13 hK13 => M rfl rfl (P1 (p_ncR rfl (fun _ => refOK_of nd (j := 0) rfl rfl)) rfl rfl (P1 (p_faV fs215_0 (by decide) rfl nd (j := 0) rfl rfl) rfl rfl (P1 (p_ldV (v := Enc.v b1) ty24 rfl rfl nd (j := 0) rfl rfl rfl rfl rfl) rfl rfl (M rfl rfl ?_)))))
      obtain ⟨u14, hu14, hX⟩ := bind_some hX
      refine P1 (p_sliL (xs := b1) (l := (0 : Int)) (k := n4) kd24 ty5 rfl rfl rfl rfl (fun e => need_t hu14)) rfl rfl (M rfl rfl (TL.nil (hK13 _ _ (SR fun K15 hK15 => M rfl rfl (M rfl rfl (P1 (p_ncR rfl (fun _ => refOK_of nd (j := 0) rfl rfl)) rfl rfl (P1 (p_faV fs215_0 (by decide) rfl nd (j := 0) rfl rfl) rfl rfl (P1 (p_ldV (v := Enc.v b1) ty24 rfl rfl nd (j := 0) rfl rfl rfl rfl rfl) rfl rfl (M rfl rfl ?_)))))))))
      obtain ⟨u16, hu16, hX⟩ := bind_some hX
      refine P1 (p_sliL (xs := b1) (l := n4) (k := (b1.length : Int)) kd24 ty5 rfl rfl rfl rfl (fun e => need_t hu16)) rfl rfl (P1 (p_ncR rfl (fun _ => refOK_of nd (j := 0) rfl rfl)) rfl rfl (P1 (p_faV fs215_0 (by decide) rfl nd (j := 0) rfl rfl) rfl rfl ?_))
      refine TLc.stV (lu := Enc.cl ((slc b1 n4 (b1.length : Int)) : (List UInt8))) nd ty24 rfl (j := 0) rfl rfl rfl (Cells_v ((slc b1 n4 (b1.length : Int)) : (List UInt8))) rfl rfl [Enc.v ((slc b1 n4 (b1.length : Int)) : (List UInt8)), Enc.v bad2] rfl fun nd => ?_
      refine TL.nil (hK15 _ _ (SR fun K17 hK17 => M rfl rfl (M rfl rfl (TL.nil (hK17 _ _ ?_)))))
      refine TK.ret ?_
      try dsimp only [thenQ]
      exact retX (v := Enc.v ((slc b1 (0 : Int) n4) : (List UInt8))) (res1 rfl) (by obtain rfl := some_in hX; exact ⟨rfl, rfl⟩) nd (inH_val (v_val _)) ⟨rowIn_RV ⟨inH_val (v_val _), inH_val (v_val _), trivial⟩, trivial⟩

/-- (*cartridge/code.Reader).Byte -/
theorem ok_code_Reader_Byte (b1 : (List UInt8)) (bad2 : Bool) (b3 : Nat) (nd : Nd [(b3, RV 215 [Enc.v (b1 : (List UInt8)), Enc.v (bad2 : Bool)])]) (r : (UInt8 × ((List UInt8) × Bool))) (hX : X.code_Reader_Byte b1 bad2 = some r) : TCX Tryd.prog 112 [.ref b3 0 2] [(b3, RV 215 [Enc.v (b1 : (List UInt8)), Enc.v (bad2 : Bool)])] (fun rv h' => rv = Enc.v (r.1 : UInt8) ∧ h' = [(b3, RV 215 [Enc.v (r.2.1 : (List UInt8)), Enc.v (r.2.2 : Bool)])]) := by
  refine TCX.of b112 (Nat.le_of_ble_eq_true rfl) ?_
  unfold k112
  unfold X.code_Reader_Byte at hX
  refine SR fun K4 hK4 => M rfl rfl (TL.nil (hK4 _ _ (SR fun K5 hK5 => M rfl rfl ?_)))
  obtain ⟨r6, hr6, hX⟩ := bind_some hX
  refine TL.tcX [(b3, RV 215 [Enc.v b1, Enc.v bad2])] [] rfl nd (dlt rfl) rfl ⟨rfl, ⟨rfl, ⟨rfl, trivial⟩⟩⟩ (ok_code_Reader_take (1 : Int) b1 bad2 b3 (Nd.take nd 1 rfl) _ hr6) ?_
  rintro _ _ hQ nd
  obtain ⟨rfl, rfl⟩ := hQ
  refine M rfl rfl (TL.nil (hK5 _ _ ?_))
  refine TK.seq_k fun K8 hK8 => ?_
  refine SR fun K9 hK9 => M rfl rfl (P1 (p_lenL (xs := r6.1) kd24 rfl) rfl rfl (P1 (p_eql rfl rfl) rfl rfl (TL.nil (hK9 _ _ ?_))))
  refine TK.cond (b := ((r6.1.length : Int) == (0 : Int))) rfl (fun hc => ?_) (fun hc => ?_)
  · have hX := ite_t hc hX
    refine SR fun K10 hK10 => M rfl rfl (TL.nil (hK10 _ _ ?_))
    refine TK.ret ?_
    try dsimp only [thenQ]
    exact retX (v := Enc.v ((0 : UInt8) : UInt8)) (res1 rfl) (by obtain rfl := some_in hX; exact ⟨rfl, rfl⟩) nd (inH_val (v_val _)) ⟨rowIn_RV ⟨inH_val (v_val _), inH_val (v_val _), trivial⟩, trivial⟩
  · have hX := ite_f hc hX
    refine TK.skip ?_
    refine hK8 _ _ (SR fun K11 hK11 => M rfl rfl ?_)
    obtain ⟨e12, he12, hX⟩ := bind_some hX
    refine P1 (p_iaL (xs := r6.1) kd24 ty5 rfl rfl rfl (fun _ => he12)) rfl rfl (P1 (p_ldE (xs := r6.1) (a := e12) (e12 : UInt8) ty5 rfl rfl (fun _ => he12) rfl rfl rfl) rfl rfl (M rfl rfl (TL.nil (hK11 _ _ ?_))))
    refine TK.ret ?_
    try dsimp only [thenQ]
    exact retX (v := Enc.v e12) (res1 rfl) (by obtain rfl := some_in hX; exact ⟨rfl, rfl⟩) nd (inH_val (v_val _)) ⟨rowIn_RV ⟨inH_val (v_val _), inH_val (v_val _), trivial⟩, trivial⟩

/-- (*cartridge/code.Reader).Int -/
theorem ok_code_Reader_Int (b1 : (List UInt8)) (bad2 : Bool) (b3 : Nat) (nd : Nd [(b3, RV 215 [Enc.v (b1 : (List UInt8)), Enc.v (bad2 : Bool)])]) (r : (Int × ((List UInt8) × Bool))) (hX : X.code_Reader_Int b1 bad2 = some r) : TCX Tryd.prog 113 [.ref b3 0 2] [(b3, RV 215 [Enc.v (b1 : (List UInt8)), Enc.v (bad2 : Bool)])] (fun rv h' => rv = Enc.v (r.1 : Int) ∧ h' = [(b3, RV 215 [Enc.v (r.2.1 : (List UInt8)), Enc.v (r.2.2 : Bool)])]) := by
  refine TCX.of b113 (Nat.le_of_ble_eq_true rfl) ?_
  unfold k113
  unfold X.code_Reader_Int at hX
  refine SR fun K4 hK4 => M rfl rfl (TL.nil (hK4 _ _ (SR fun K5 hK5 => M rfl rfl (TL.nil (hK5 _ _ ?_)))))
  refine TK.seq_k fun K6 hK6 => ?_
  refine SR fun K7 hK7 => M rfl rfl ?_
  obtain ⟨r8, hr8, hX⟩ := bind_some hX
  refine TL.tcX [(b3, RV 215 [Enc.v b1, Enc.v bad2])] [] rfl nd (dlt rfl) rfl ⟨rfl, ⟨rfl, ⟨rfl, trivial⟩⟩⟩ (ok_code_Reader_take (4 : Int) b1 bad2 b3 (Nd.take nd 1 rfl) _ hr8) ?_
  rintro _ _ hQ nd
  obtain ⟨rfl, rfl⟩ := hQ
  refine P1 (p_lenL (xs := r8.1) kd24 rfl) rfl rfl (M rfl rfl (TL.nil (hK7 _ _ ?_)))
  refine TK.block ?_
  obtain ⟨o10, hO10, hA10⟩ := bind_some hX
  have E10 : ∀ (n15 : UInt32) (env : Env) (h : Hp), (∃ _u : Unit, keepE [0, 3] env = [(0, true, .ref b3 0 2), (3, true, Enc.v n15)] ∧ Nd [(b3, RV 215 [Enc.v r8.2.1, Enc.v r8.2.2])] ∧ HSub [(b3, RV 215 [Enc.v r8.2.1, Enc.v r8.2.2])] h) → X.code_Reader_Int_e10 r8 n15 = some r → K6 env h := by
    intro n15 env h hE hX
    obtain ⟨_u, henv, nd, hs⟩ := hE
    unfold X.code_Reader_Int_e10 at hX
    refine hK6 _ _ (TK.keep [0, 3] ?_)
    rw [henv]
    refine TK.subH hs ?_
    refine SR fun K16 hK16 => M rfl rfl (P1 (p_cvt src106 kd3 rfl (cv_32 n15)) rfl rfl (M rfl rfl (TL.nil (hK16 _ _ ?_))))
    refine TK.ret ?_
    try dsimp only [thenQ]
    exact retX (v := Enc.v ((n15.toNat : Int) : Int)) (res1 rfl) (by obtain rfl := some_in hX; exact ⟨rfl, rfl⟩) nd (inH_val (v_val _)) ⟨rowIn_RV ⟨inH_val (v_val _), inH_val (v_val _), trivial⟩, trivial⟩
  refine TK.iter [0, 3, 7, 8, 9] (fun s env h => match s with | (n12, x13) => ∃ _u : Unit, env = [(0, true, .ref b3 0 2), (3, true, Enc.v n12), (7, true, Enc.v r8.1), (8, true, Enc.v ((r8.1.length : Int) : Int)), (9, true, Enc.v x13)] ∧ Nd [(b3, RV 215 [Enc.v r8.2.1, Enc.v r8.2.2])] ∧ HSub [(b3, RV 215 [Enc.v r8.2.1, Enc.v r8.2.2])] h) hO10 ⟨(), rfl, (Nd.pick nd (is := [0]) (by decide)), (HSub.pick nd (is := [0]) (by decide))⟩ ?_
  rintro ⟨n12, x13⟩ env h x10x ⟨_u, rfl, nd, hs⟩ hX hR10
  refine TK.subH hs ?_
  unfold X.code_Reader_Int_s10 at hX
  try dsimp only at hX
  refine SR fun K17 hK17 => P1 (p_lss rfl rfl) rfl rfl (TL.nil (hK17 _ _ ?_))
  refine TK.seq_k fun K18 hK18 => ?_
  refine TK.cond (b := (decide (x13 < (r8.1.length : Int)))) rfl (fun hc => ?_) (fun hc => ?_)
  · have hX := ite_t hc hX
    refine TK.skip ?_
    refine hK18 _ _ ?_
    refine TK.seq_k fun K19 hK19 => ?_
    refine TK.block ?_
    refine SR fun K20 hK20 => ?_
    obtain ⟨e21, he21, hX⟩ := bind_some hX
    refine P1 (p_iaL (xs := r8.1) kd24 ty5 rfl rfl rfl (fun _ => he21)) rfl rfl (P1 (p_ldE (xs := r8.1) (a := e21) (e21 : UInt8) ty5 rfl rfl (fun _ => he21) rfl rfl rfl) rfl rfl (M rfl rfl (TL.nil (hK20 _ _ ?_))))
    refine TK.reg ?_
    refine M rfl rfl (P1 (p32_shl (a := n12) (b := 8) rfl rfl) rfl rfl (M rfl rfl (P1 (p_cvt src5 kd106 rfl (cv_u32 _)) rfl rfl (P1 (p32_or (a := (shl32 n12 8)) (b := (u32 (e21.toNat : Int))) rfl rfl) rfl rfl (M rfl rfl (TL.nil (hK19 _ _ ?_)))))))
    refine TK.reg ?_
    refine P1 (p_add rfl rfl) rfl rfl (M rfl rfl (TL.nil ?_))
    exact ⟨_, (some_in hX).symm, (), rfl, (Nd.pick nd (is := [0]) (by decide)), (HSub.pick nd (is := [0]) (by decide))⟩
  · have hX := ite_f hc hX
    refine TK.exit ?_
    obtain rfl := hR10 _ (some_in hX).symm
    exact E10 n12 _ _ ⟨(), rfl, (Nd.pick nd (is := [0]) (by decide)), (HSub.pick nd (is := [0]) (by decide))⟩ hA10

/-- (*cartridge/code.Reader).Raw -/
theorem ok_code_Reader_Raw (n4 : Int) (b1 : (List UInt8)) (bad2 : Bool) (b3 : Nat) (nd : Nd [(b3, RV 215 [Enc.v (b1 : (List UInt8)), Enc.v (bad2 : Bool)])]) (r : ((List UInt8) × ((List UInt8) × Bool))) (hX : X.code_Reader_Raw n4 b1 bad2 = some r) : TCX Tryd.prog 114 [.ref b3 0 2, Enc.v (n4 : Int)] [(b3, RV 215 [Enc.v (b1 : (List UInt8)), Enc.v (bad2 : Bool)])] (fun rv h' => rv = Enc.v (r.1 : (List UInt8)) ∧ h' = [(b3, RV 215 [Enc.v (r.2.1 : (List UInt8)), Enc.v (r.2.2 : Bool)])]) := by
  refine TCX.of b114 (Nat.le_of_ble_eq_true rfl) ?_
  unfold k114
  unfold X.code_Reader_Raw at hX
  refine SR fun K5 hK5 => M rfl rfl (TL.nil (hK5 _ _ (SR fun K6 hK6 => M rfl rfl (M rfl rfl (P1 (p_max rfl rfl) rfl rfl ?_)))))
  obtain ⟨r7, hr7, hX⟩ := bind_some hX
  refine TL.tcX [(b3, RV 215 [Enc.v b1, Enc.v bad2])] [] rfl nd (dlt rfl) rfl ⟨rfl, ⟨rfl, ⟨rfl, trivial⟩⟩⟩ (ok_code_Reader_take (max (0 : Int) n4) b1 bad2 b3 (Nd.take nd 1 rfl) _ hr7) ?_
  rintro _ _ hQ nd
  obtain ⟨rfl, rfl⟩ := hQ
  obtain ⟨r9, hr9, hX⟩ := bind_some hX
  refine TL.cvX rfl rfl rfl (fun _ => ⟨rfl, ⟨rfl, trivial⟩⟩) (fun e => ok_slices_Clone_Lbyte_byte r7.1 _ hr9) ?_
  refine M rfl rfl (TL.nil (hK6 _ _ ?_))
  refine TK.ret ?_
  try dsimp only [thenQ]
  exact retX (v := Enc.v r9) (res1 rfl) (by obtain rfl := some_in hX; exact ⟨rfl, rfl⟩) nd (inH_val (v_val _)) ⟨rowIn_RV ⟨inH_val (v_val _), inH_val (v_val _), trivial⟩, trivial⟩

/-- (*cartridge/code.Reader).Bad -/
theorem ok_code_Reader_Bad (b1 : (List UInt8)) (bad2 : Bool) (r : Bool) (hX : X.code_Reader_Bad b1 bad2 = some r) : Fun Tryd.prog 115 [.vref (ofL [Enc.v (b1 : (List UInt8)), Enc.v (bad2 : Bool)]) 2 0] (· = Enc.v (r : Bool)) := by
  refine Fun.of b115 (Nat.le_of_ble_eq_true rfl) (allVal.mem ⟨(by exact (vref_val (l := [Enc.v (b1 : (List UInt8)), Enc.v (bad2 : Bool)]) rfl ⟨(v_val _), (v_val _), trivial⟩)), trivial⟩) ?_
  unfold k115
  have nd : Nd [] := Nd_nil
  unfold X.code_Reader_Bad at hX
  refine SR fun K3 hK3 => M rfl rfl (TL.nil (hK3 _ _ (SR fun K4 hK4 => M rfl rfl (P1 (p_neV kd184 rfl rfl) rfl rfl (M rfl rfl ?_)))))
  refine TL.guardT rfl ?_
  refine M rfl rfl ?_
  refine TL.guardT rfl ?_
  refine P1 (p_ncV rfl) rfl rfl ?_
  refine TL.guardT rfl ?_
  refine P1 (p_faR fs215_1 (by decide) rfl) rfl rfl ?_
  refine TL.guardT rfl ?_
  refine P1 (p_ldR (v := Enc.v bad2) ty4 rfl rfl rfl rfl rfl rfl) rfl rfl (P1 (p_and rfl rfl (fun e => ⟨rfl, fun h => rfl⟩)) rfl rfl (M rfl rfl (TL.nil (hK4 _ _ ?_))))
  refine TK.ret ?_
  try dsimp only [thenQ]
  exact R1 rfl hX

/-- slices.Equal[[]byte,byte] -/
theorem ok_slices_Equal_Lbyte_byte (s11 : (List UInt8)) (s22 : (List UInt8)) (r : Bool) (hX : X.slices_Equal_Lbyte_byte s11 s22 = some r) : Fun Tryd.prog 116 [Enc.v (s11 : (List UInt8)), Enc.v (s22 : (List UInt8))] (· = Enc.v (r : Bool)) := by
  refine Fun.of b116 (Nat.le_of_ble_eq_true rfl) (allVal.mem ⟨(by exact (v_val _)), (by exact (v_val _)), trivial⟩) ?_
  unfold k116
  have nd : Nd [] := Nd_nil
  unfold X.slices_Equal_Lbyte_byte at hX
  refine SR fun K3 hK3 => M rfl rfl (TL.nil (hK3 _ _ ?_))
  refine TK.seq_k fun K4 hK4 => ?_
  refine SR fun K5 hK5 => M rfl rfl (P1 (p_lenL (xs := s11) kd24 rfl) rfl rfl (M rfl rfl (P1 (p_lenL (xs := s22) kd24 rfl) rfl rfl (P1 (p_neq rfl rfl) rfl rfl (TL.nil (hK5 _ _ ?_))))))
  refine TK.cond (b := ((s11.length : Int) != (s22.length : Int))) rfl (fun hc => ?_) (fun hc => ?_)
  · have hX := ite_t hc hX
    refine SR fun K6 hK6 => M rfl rfl (TL.nil (hK6 _ _ ?_))
    refine TK.ret ?_
    try dsimp only [thenQ]
    exact R1 rfl hX
  · have hX := ite_f hc hX
    refine TK.skip ?_
    refine hK4 _ _ ?_
    refine TK.seq_k fun K7 hK7 => ?_
    refine SR fun K8 hK8 => M rfl rfl (P1 (p_lenL (xs := s11) kd24 rfl) rfl rfl (M rfl rfl (TL.nil (hK8 _ _ ?_))))
    refine TK.block ?_
    obtain ⟨o9, hO9, hA9⟩ := bind_some hX
    have E9 : ∀ (env : Env) (h : Hp), (∃ _u : Unit, keepE [] env = [] ∧ Nd [] ∧ HSub [] h) → X.slices_Equal_Lbyte_byte_e9 = some r → K7 env h := by
      intro  env h hE hX
      obtain ⟨_u, henv, nd, hs⟩ := hE
      unfold X.slices_Equal_Lbyte_byte_e9 at hX
      refine hK7 _ _ (TK.keep [] ?_)
      rw [henv]
      refine TK.subH hs ?_
      refine SR fun K11 hK11 => M rfl rfl (TL.nil (hK11 _ _ ?_))
      refine TK.ret ?_
      try dsimp only [thenQ]
      exact R1 rfl hX
    refine TK.iter [0, 1, 12, 13] (fun s env h => match s with | x10 => ∃ _u : Unit, env = [(0, true, Enc.v s11), (1, true, Enc.v s22), (12, true, Enc.v ((s11.length : Int) : Int)), (13, true, Enc.v x10)] ∧ Nd [] ∧ HSub [] h) hO9 ⟨(), rfl, Nd_nil, HSub.refl _⟩ ?_
    rintro x10 env h x9x ⟨_u, rfl, nd, hs⟩ hX hR9
    refine TK.subH hs ?_
    unfold X.slices_Equal_Lbyte_byte_s9 at hX
    try dsimp only at hX
    refine SR fun K12 hK12 => P1 (p_lss rfl rfl) rfl rfl (TL.nil (hK12 _ _ ?_))
    refine TK.seq_k fun K13 hK13 => ?_
    refine TK.cond (b := (decide (x10 < (s11.length : Int)))) rfl (fun hc => ?_) (fun hc => ?_)
    · have hX := ite_t hc hX
      refine TK.skip ?_
      refine hK13 _ _ ?_
      refine TK.seq_k fun K14 hK14 => ?_
      refine TK.block ?_
      refine SR fun K15 hK15 => M rfl rfl (M rfl rfl (TL.nil (hK15 _ _ ?_)))
      refine TK.seq_k fun K16 hK16 => ?_
      have ndS : Nd [] := Nd.pick nd (is := []) (by decide)
      refine TK.drwX (h := []) (hS := []) [(0, 0), (0, 1), (0, 2), (0, 3), (0, 4), (0, 5), (0, 6), (0, 7), (0, 8)] mixed (by kernel_rfl) (HSub_app nd) ?_
      refine DM rfl rfl rfl ?_
      refine DM rfl rfl rfl ?_
      obtain ⟨e17, he17, hX⟩ := bind_some hX
      refine D0 rfl (p_iaL (xs := s11) kd24 ty5 rfl rfl rfl (fun _ => he17)) rfl rfl ?_
      refine D0 rfl (p_ldE (xs := s11) (a := e17) (e17 : UInt8) ty5 rfl rfl (fun _ => he17) rfl rfl rfl) rfl rfl ?_
      refine DM rfl rfl rfl ?_
      refine DM rfl rfl rfl ?_
      obtain ⟨e18, he18, hX⟩ := bind_some hX
      refine D0 rfl (p_iaL (xs := s22) kd24 ty5 rfl rfl rfl (fun _ => he18)) rfl rfl ?_
      refine D0 rfl (p_ldE (xs := s22) (a := e18) (e18 : UInt8) ty5 rfl rfl (fun _ => he18) rfl rfl rfl) rfl rfl ?_
      refine D0 rfl (p8_neq (a := e17) (b := e18) rfl rfl) rfl rfl ?_
      refine DRend ?_
      refine hK16 _ _ ?_
      refine TK.cond (b := (e17 != e18)) rfl (fun hc => ?_) (fun hc => ?_)
      · have hX := ite_t hc hX
        refine SR fun K19 hK19 => M rfl rfl (TL.nil (hK19 _ _ ?_))
        refine TK.ret ?_
        obtain rfl := hR9 _ (some_in hX).symm
        replace hX := hA9
        try dsimp only [thenQ]
        exact R1 rfl hX
      · have hX := ite_f hc hX
        refine TK.skip ?_
        refine hK14 _ _ ?_
        refine TK.reg ?_
        refine P1 (p_add rfl rfl) rfl rfl (M rfl rfl (TL.nil ?_))
        exact ⟨_, (some_in hX).symm, (), rfl, Nd_nil, HSub.refl _⟩
    · have hX := ite_f hc hX
      refine TK.exit ?_
      obtain rfl := hR9 _ (some_in hX).symm
      exact E9 _ _ ⟨(), rfl, Nd_nil, HSub.refl _⟩ hA9

/-- cartridge/frame.Get -/
theorem bc_frame_Get : BodyC cx 89 47 [.c 2 42, .t 3] k89 := ⟨Enters.of Tryd.func89 (by kernel_rfl) (by kernel_rfl), _, _, Tryd.func89, rfl, by kernel_rfl, rfl, rfl⟩
theorem ok_frame_Get (b1 : (List UInt8)) (r : (Unit_api × Int)) (hX : X.frame_Get b1 = some r) : Fun Tryd.prog 89 [Enc.v (b1 : (List UInt8))] (· = .tup 2 (ofL [Enc.v r.1, Enc.v r.2])) := by
  refine Fun.ofC (C := cx) bc_frame_Get (Nat.le_of_ble_eq_true rfl) (allVal.mem ⟨(by exact (v_val _)), trivial⟩) ?_
  unfold k89
  have nd : Nd [] := Nd_nil
  unfold X.frame_Get at hX
  refine SR fun K2 hK2 => ?_
  refine TLc.alO (l := [Enc.v ((0 : Int) : Int), Enc.v ((0 : Int) : Int), Enc.v ((0 : Int) : Int), .nils]) nd ty42 ti42_z rfl rfl fun b3 nd => ?_
  refine M rfl rfl (TL.nil (hK2 _ _ ?_))
  refine TK.cvR nd (j := 0) rfl (l' := [Enc.v ((0 : Int) : Int), Enc.v ((0 : Int) : Int), Enc.v ((0 : Int) : Int), Enc.v (([] : (List UInt8)) : (List UInt8))]) ⟨Wk.refl _, Wk.refl _, Wk.refl _, Wk_nil, trivial⟩ fun nd => ?_
  refine SR fun K4 hK4 => M rfl rfl ?_
  obtain ⟨r5, hr5, hX⟩ := bind_some hX
  refine TL.tcX [] [(b3, RV 42 [Enc.v ((0 : Int) : Int), Enc.v ((0 : Int) : Int), Enc.v ((0 : Int) : Int), Enc.v (([] : (List UInt8)) : (List UInt8))])] rfl nd (dlt rfl) rfl ⟨rfl, ⟨rfl, trivial⟩⟩ (ok_code_NewReader b1 (Nd.take nd 0 rfl) _ hr5) ?_
  rintro _ _ hQ nd
  obtain ⟨b6, rfl, rfl⟩ := hQ
  refine M rfl rfl (TL.nil (hK4 _ _ (SR fun K7 hK7 => M rfl rfl ?_)))
  obtain ⟨r8, hr8, hX⟩ := bind_some hX
  refine TL.tcX [(b6, RV 215 [Enc.v r5.1, Enc.v r5.2])] [(b3, RV 42 [Enc.v ((0 : Int) : Int), Enc.v ((0 : Int) : Int), Enc.v ((0 : Int) : Int), Enc.v (([] : (List UInt8)) : (List UInt8))])] rfl nd (dlt rfl) rfl ⟨rfl, ⟨rfl, trivial⟩⟩ (ok_code_Reader_Byte r5.1 r5.2 b6 (Nd.take nd 1 rfl) _ hr8) ?_
  rintro _ _ hQ nd
  obtain ⟨rfl, rfl⟩ := hQ
  refine P1 (p_cvt src5 kd3 rfl (cv_8 r8.1)) rfl rfl ?_
  refine TLc.p (gc := true) (p_bld (l := [Enc.v ((r8.1.toNat : Int) : Int), Enc.v ((0 : Int) : Int), Enc.v ((0 : Int) : Int), .nils]) ty42 rfl all42 rfl (fun _ => ⟨⟨rfl, trivial, rfl⟩, trivial⟩)) rfl rfl (TL.wk (v' := Enc.v ((Unit_api.mk (r8.1.toNat : Int) (0 : Int) (0 : Int) ([] : (List UInt8))) : Unit_api)) (Wk_agg ⟨Wk.refl _, Wk.refl _, Wk.refl _, Wk_nil, trivial⟩) ?_)
  refine TLc.alO (l := [Enc.v ((0 : Int) : Int), Enc.v ((0 : Int) : Int), Enc.v ((0 : Int) : Int), .nils]) nd ty42 ti42_z rfl rfl fun b10 nd => ?_
  refine TLc.stV (lu := Enc.cl ((Unit_api.mk (r8.1.toNat : Int) (0 : Int) (0 : Int) ([] : (List UInt8))) : Unit_api)) nd ty42 rfl (j := 0) rfl rfl rfl (Cells_v ((Unit_api.mk (r8.1.toNat : Int) (0 : Int) (0 : Int) ([] : (List UInt8))) : Unit_api)) rfl rfl [Enc.v ((Unit_api.mk (r8.1.toNat : Int) (0 : Int) (0 : Int) ([] : (List UInt8))).Kind : Int), Enc.v ((Unit_api.mk (r8.1.toNat : Int) (0 : Int) (0 : Int) ([] : (List UInt8))).Label : Int), Enc.v ((Unit_api.mk (r8.1.toNat : Int) (0 : Int) (0 : Int) ([] : (List UInt8))).Number : Int), Enc.v ((Unit_api.mk (r8.1.toNat : Int) (0 : Int) (0 : Int) ([] : (List UInt8))).Load : (List UInt8))] rfl fun nd => ?_
  refine TL.nil (hK7 _ _ (SR fun K11 hK11 => M rfl rfl ?_))
  obtain ⟨r12, hr12, hX⟩ := bind_some hX
  refine TL.pick [1, 0, 2] nd (by decide) fun nd => ?_
  refine TL.tcX [(b6, RV 215 [Enc.v r8.2.1, Enc.v r8.2.2])] [(b10, RV 42 [Enc.v ((Unit_api.mk (r8.1.toNat : Int) (0 : Int) (0 : Int) ([] : (List UInt8))).Kind : Int), Enc.v ((Unit_api.mk (r8.1.toNat : Int) (0 : Int) (0 : Int) ([] : (List UInt8))).Label : Int), Enc.v ((Unit_api.mk (r8.1.toNat : Int) (0 : Int) (0 : Int) ([] : (List UInt8))).Number : Int), Enc.v ((Unit_api.mk (r8.1.toNat : Int) (0 : Int) (0 : Int) ([] : (List UInt8))).Load : (List UInt8))]), (b3, RV 42 [Enc.v ((0 : Int) : Int), Enc.v ((0 : Int) : Int), Enc.v ((0 : Int) : Int), Enc.v (([] : (List UInt8)) : (List UInt8))])] rfl nd (dlt rfl) rfl ⟨rfl, ⟨rfl, trivial⟩⟩ (ok_code_Reader_Int r8.2.1 r8.2.2 b6 (Nd.take nd 1 rfl) _ hr12) ?_
  rintro _ _ hQ nd
  obtain ⟨rfl, rfl⟩ := hQ
  refine P1 (p_faV fs42_1 (by decide) rfl nd (j := 1) rfl rfl) rfl rfl ?_
  refine TLc.stV (lu := Enc.cl (r12.1 : Int)) nd ty3 rfl (j := 1) rfl rfl rfl (Cells_v (r12.1 : Int)) rfl rfl [Enc.v ((Unit_api.mk (r8.1.toNat : Int) (0 : Int) (0 : Int) ([] : (List UInt8))).Kind : Int), Enc.v r12.1, Enc.v ((Unit_api.mk (r8.1.toNat : Int) (0 : Int) (0 : Int) ([] : (List UInt8))).Number : Int), Enc.v ((Unit_api.mk (r8.1.toNat : Int) (0 : Int) (0 : Int) ([] : (List UInt8))).Load : (List UInt8))] rfl fun nd => ?_
  refine TL.nil (hK11 _ _ (SR fun K14 hK14 => M rfl rfl ?_))
  obtain ⟨r15, hr15, hX⟩ := bind_some hX
  refine TL.tcX [(b6, RV 215 [Enc.v r12.2.1, Enc.v r12.2.2])] [(b10, RV 42 [Enc.v ((Unit_api.mk (r8.1.toNat : Int) (0 : Int) (0 : Int) ([] : (List UInt8))).Kind : Int), Enc.v r12.1, Enc.v ((Unit_api.mk (r8.1.toNat : Int) (0 : Int) (0 : Int) ([] : (List UInt8))).Number : Int), Enc.v ((Unit_api.mk (r8.1.toNat : Int) (0 : Int) (0 : Int) ([] : (List UInt8))).Load : (List UInt8))]), (b3, RV 42 [Enc.v ((0 : Int) : Int), Enc.v ((0 : Int) : Int), Enc.v ((0 : Int) : Int), Enc.v (([] : (List UInt8)) : (List UInt8))])] rfl nd (dlt rfl) rfl ⟨rfl, ⟨rfl, trivial⟩⟩ (ok_code_Reader_Int r12.2.1 r12.2.2 b6 (Nd.take nd 1 rfl) _ hr15) ?_
  rintro _ _ hQ nd
  obtain ⟨rfl, rfl⟩ := hQ
  refine P1 (p_faV fs42_2 (by decide) rfl nd (j := 1) rfl rfl) rfl rfl ?_
  refine TLc.stV (lu := Enc.cl (r15.1 : Int)) nd ty3 rfl (j := 1) rfl rfl rfl (Cells_v (r15.1 : Int)) rfl rfl [Enc.v ((Unit_api.mk (r8.1.toNat : Int) (0 : Int) (0 : Int) ([] : (List UInt8))).Kind : Int), Enc.v r12.1, Enc.v r15.1, Enc.v ((Unit_api.mk (r8.1.toNat : Int) (0 : Int) (0 : Int) ([] : (List UInt8))).Load : (List UInt8))] rfl fun nd => ?_
  refine TL.nil (hK14 _ _ (SR fun K17 hK17 => M rfl rfl ?_))
  obtain ⟨r18, hr18, hX⟩ := bind_some hX
  refine TL.tcX [(b6, RV 215 [Enc.v r15.2.1, Enc.v r15.2.2])] [(b10, RV 42 [Enc.v ((Unit_api.mk (r8.1.toNat : Int) (0 : Int) (0 : Int) ([] : (List UInt8))).Kind : Int), Enc.v r12.1, Enc.v r15.1, Enc.v ((Unit_api.mk (r8.1.toNat : Int) (0 : Int) (0 : Int) ([] : (List UInt8))).Load : (List UInt8))]), (b3, RV 42 [Enc.v ((0 : Int) : Int), Enc.v ((0 : Int) : Int), Enc.v ((0 : Int) : Int), Enc.v (([] : (List UInt8)) : (List UInt8))])] rfl nd (dlt rfl) rfl ⟨rfl, ⟨rfl, trivial⟩⟩ (ok_code_Reader_Byte r15.2.1 r15.2.2 b6 (Nd.take nd 1 rfl) _ hr18) ?_
  rintro _ _ hQ nd
  obtain ⟨rfl, rfl⟩ := hQ
  refine P1 (p_cvt src5 kd3 rfl (cv_8 r18.1)) rfl rfl (P1 (p_shl rfl rfl (fun _ => by omega)) rfl rfl (M rfl rfl ?_))
  obtain ⟨r20, hr20, hX⟩ := bind_some hX
  refine TL.tcX [(b6, RV 215 [Enc.v r18.2.1, Enc.v r18.2.2])] [(b10, RV 42 [Enc.v ((Unit_api.mk (r8.1.toNat : Int) (0 : Int) (0 : Int) ([] : (List UInt8))).Kind : Int), Enc.v r12.1, Enc.v r15.1, Enc.v ((Unit_api.mk (r8.1.toNat : Int) (0 : Int) (0 : Int) ([] : (List UInt8))).Load : (List UInt8))]), (b3, RV 42 [Enc.v ((0 : Int) : Int), Enc.v ((0 : Int) : Int), Enc.v ((0 : Int) : Int), Enc.v (([] : (List UInt8)) : (List UInt8))])] rfl nd (dlt rfl) rfl ⟨rfl, ⟨rfl, trivial⟩⟩ (ok_code_Reader_Byte r18.2.1 r18.2.2 b6 (Nd.take nd 1 rfl) _ hr20) ?_
  rintro _ _ hQ nd
  obtain ⟨rfl, rfl⟩ := hQ
  refine P1 (p_cvt src5 kd3 rfl (cv_8 r20.1)) rfl rfl (P1 (p_or64 rfl rfl) rfl rfl (M rfl rfl (TL.nil (hK17 _ _ (SR fun K22 hK22 => M rfl rfl (M rfl rfl ?_))))))
  obtain ⟨r23, hr23, hX⟩ := bind_some hX
  refine TL.tcX [(b6, RV 215 [Enc.v r20.2.1, Enc.v r20.2.2])] [(b10, RV 42 [Enc.v ((Unit_api.mk (r8.1.toNat : Int) (0 : Int) (0 : Int) ([] : (List UInt8))).Kind : Int), Enc.v r12.1, Enc.v r15.1, Enc.v ((Unit_api.mk (r8.1.toNat : Int) (0 : Int) (0 : Int) ([] : (List UInt8))).Load : (List UInt8))]), (b3, RV 42 [Enc.v ((0 : Int) : Int), Enc.v ((0 : Int) : Int), Enc.v ((0 : Int) : Int), Enc.v (([] : (List UInt8)) : (List UInt8))])] rfl nd (dlt rfl) rfl ⟨rfl, ⟨rfl, ⟨rfl, trivial⟩⟩⟩ (ok_code_Reader_Raw (or64 (shl64 (r18.1.toNat : Int) ((8 : UInt64).toNat : Int)) (r20.1.toNat : Int)) r20.2.1 r20.2.2 b6 (Nd.take nd 1 rfl) _ hr23) ?_
  rintro _ _ hQ nd
  obtain ⟨rfl, rfl⟩ := hQ
  refine P1 (p_faV fs42_3 (by decide) rfl nd (j := 1) rfl rfl) rfl rfl ?_
  refine TLc.stV (lu := Enc.cl (r23.1 : (List UInt8))) nd ty24 rfl (j := 1) rfl rfl rfl (Cells_v (r23.1 : (List UInt8))) rfl rfl [Enc.v ((Unit_api.mk (r8.1.toNat : Int) (0 : Int) (0 : Int) ([] : (List UInt8))).Kind : Int), Enc.v r12.1, Enc.v r15.1, Enc.v r23.1] rfl fun nd => ?_
  refine TL.nil (hK22 _ _ ?_)
  refine TK.seq_k fun K25 hK25 => ?_
  refine SR fun K26 hK26 => M rfl rfl ?_
  obtain ⟨r27, hr27, hX⟩ := bind_some hX
  refine TL.lookX [.vref (ofL [Enc.v r23.2.1, Enc.v r23.2.2]) 2 0] rfl rfl rfl (fun _ => ⟨rfl, ⟨rfl, trivial⟩⟩) ⟨look_ref (l := [Enc.v r23.2.1, Enc.v r23.2.2]) nd (j := 0) rfl ⟨look_v (v := Enc.v r23.2.1) (v_val _), look_v (v := Enc.v r23.2.2) (v_val _), trivial⟩, trivial⟩ (fun e => ok_code_Reader_Bad r23.2.1 r23.2.2 _ hr27) (trivial) ?_
  refine M rfl rfl ?_
  refine TLc.p (gc := (!r27)) (p_ldVa (l' := Enc.cl ((Unit_api.mk (Unit_api.mk (r8.1.toNat : Int) (0 : Int) (0 : Int) ([] : (List UInt8))).Kind r12.1 r15.1 r23.1) : Unit_api)) ty42 rfl rfl nd (j := 1) rfl rfl rfl rfl (Nat.le_of_ble_eq_true rfl) (hg := fun e => rfl)) (gcF1 rfl) rfl ?_
  obtain ⟨r28, hr28, hX⟩ := bind_some hX
  refine TL.cvX (gcF1 rfl) rfl rfl (fun e => ⟨rfl, ⟨e, trivial⟩⟩) (fun e => ok_frame_check (Unit_api.mk (Unit_api.mk (r8.1.toNat : Int) (0 : Int) (0 : Int) ([] : (List UInt8))).Kind r12.1 r15.1 r23.1) _ (optG_t hr28 e)) ?_
  refine TLc.p (gc := (!r27)) (p_neq rfl rfl (hg := fun e => ⟨e, rfl⟩)) (gcF1 rfl) rfl ?_
  refine P1 (p_or rfl rfl (fun e => ⟨rfl, fun h => (not_t h)⟩)) rfl rfl (M rfl rfl ?_)
  refine TLc.p (gc := (!((r27 || (r28 != (0 : Int)))))) (p_mv rfl (hg := fun e => rfl)) (gcF1 rfl) rfl ?_
  refine TLc.p (gc := (!((r27 || (r28 != (0 : Int)))))) (p_ldVa (l' := Enc.cl ((Unit_api.mk (Unit_api.mk (r8.1.toNat : Int) (0 : Int) (0 : Int) ([] : (List UInt8))).Kind r12.1 r15.1 r23.1) : Unit_api)) ty42 rfl rfl nd (j := 1) rfl rfl rfl rfl (Nat.le_of_ble_eq_true rfl) (hg := fun e => rfl)) (gcF1 rfl) rfl ?_
  obtain ⟨r29, hr29, hX⟩ := bind_some hX
  refine TL.cvX (gcF1 rfl) rfl rfl (fun e => ⟨rfl, ⟨e, trivial⟩⟩) (fun e => ok_frame_made (Unit_api.mk (Unit_api.mk (r8.1.toNat : Int) (0 : Int) (0 : Int) ([] : (List UInt8))).Kind r12.1 r15.1 r23.1) _ (optG_t hr29 e)) ?_
  obtain ⟨r30, hr30, hX⟩ := bind_some hX
  refine TL.cvX (gcF1 rfl) rfl rfl (fun e => ⟨rfl, ⟨e, ⟨e, trivial⟩⟩⟩) (fun e => ok_slices_Equal_Lbyte_byte b1 r29 _ (optG_t hr30 e)) ?_
  refine TLc.p (gc := (!((r27 || (r28 != (0 : Int)))))) (p_not rfl (hg := fun e => e)) (gcF1 rfl) rfl ?_
  refine P1 (p_or rfl rfl (fun e => ⟨rfl, fun h => (not_t h)⟩)) rfl rfl (TL.nil (hK26 _ _ ?_))
  refine TK.cond (b := ((r27 || (r28 != (0 : Int))) || (!r30))) rfl (fun hc => ?_) (fun hc => ?_)
  · have hX := ite_t hc hX
    refine SR fun K31 hK31 => ?_
    refine TLc.p (gc := true) (p_bld (l := [Enc.v ((0 : Int) : Int), Enc.v ((0 : Int) : Int), Enc.v ((0 : Int) : Int), .nils]) ty42 rfl all42 rfl (fun _ => trivial)) rfl rfl (TL.wk (v' := Enc.v ((Unit_api.mk (0 : Int) (0 : Int) (0 : Int) ([] : (List UInt8))) : Unit_api)) (Wk_agg ⟨Wk.refl _, Wk.refl _, Wk.refl _, Wk_nil, trivial⟩) ?_)
    refine TLc.stV (lu := Enc.cl ((Unit_api.mk (0 : Int) (0 : Int) (0 : Int) ([] : (List UInt8))) : Unit_api)) nd ty42 rfl (j := 2) rfl rfl rfl (Cells_v ((Unit_api.mk (0 : Int) (0 : Int) (0 : Int) ([] : (List UInt8))) : Unit_api)) rfl rfl [Enc.v ((Unit_api.mk (0 : Int) (0 : Int) (0 : Int) ([] : (List UInt8))).Kind : Int), Enc.v ((Unit_api.mk (0 : Int) (0 : Int) (0 : Int) ([] : (List UInt8))).Label : Int), Enc.v ((Unit_api.mk (0 : Int) (0 : Int) (0 : Int) ([] : (List UInt8))).Number : Int), Enc.v ((Unit_api.mk (0 : Int) (0 : Int) (0 : Int) ([] : (List UInt8))).Load : (List UInt8))] rfl fun nd => ?_
    refine M rfl rfl (TL.nil (hK31 _ _ ?_))
    refine TK.ret ?_
    try dsimp only [thenQ]
    exact retC [Enc.v ((Unit_api.mk (0 : Int) (0 : Int) (0 : Int) ([] : (List UInt8))) : Unit_api), Enc.v ((2 : Int) : Int)] ⟨p_ldVa (l' := Enc.cl ((Unit_api.mk (0 : Int) (0 : Int) (0 : Int) ([] : (List UInt8))) : Unit_api)) ty42 rfl rfl nd (j := 2) rfl rfl rfl rfl (Nat.le_of_ble_eq_true rfl), p_mv rfl, trivial⟩ (by obtain rfl := some_in hX; rfl) (tup_val (allVal.mem ⟨v_val _, v_val _, trivial⟩))
  · have hX := ite_f hc hX
    refine TK.skip ?_
    refine hK25 _ _ (SR fun K32 hK32 => P1 (p_ldVa (l' := Enc.cl ((Unit_api.mk (Unit_api.mk (r8.1.toNat : Int) (0 : Int) (0 : Int) ([] : (List UInt8))).Kind r12.1 r15.1 r23.1) : Unit_api)) ty42 rfl rfl nd (j := 1) rfl rfl rfl rfl (Nat.le_of_ble_eq_true rfl)) rfl rfl ?_)
    refine TLc.stV (lu := Enc.cl ((Unit_api.mk (Unit_api.mk (r8.1.toNat : Int) (0 : Int) (0 : Int) ([] : (List UInt8))).Kind r12.1 r15.1 r23.1) : Unit_api)) nd ty42 rfl (j := 2) rfl rfl rfl (Cells_v ((Unit_api.mk (Unit_api.mk (r8.1.toNat : Int) (0 : Int) (0 : Int) ([] : (List UInt8))).Kind r12.1 r15.1 r23.1) : Unit_api)) rfl rfl [Enc.v ((Unit_api.mk (Unit_api.mk (r8.1.toNat : Int) (0 : Int) (0 : Int) ([] : (List UInt8))).Kind r12.1 r15.1 r23.1).Kind : Int), Enc.v ((Unit_api.mk (Unit_api.mk (r8.1.toNat : Int) (0 : Int) (0 : Int) ([] : (List UInt8))).Kind r12.1 r15.1 r23.1).Label : Int), Enc.v ((Unit_api.mk (Unit_api.mk (r8.1.toNat : Int) (0 : Int) (0 : Int) ([] : (List UInt8))).Kind r12.1 r15.1 r23.1).Number : Int), Enc.v ((Unit_api.mk (Unit_api.mk (r8.1.toNat : Int) (0 : Int) (0 : Int) ([] : (List UInt8))).Kind r12.1 r15.1 r23.1).Load : (List UInt8))] rfl fun nd => ?_
    refine M rfl rfl (TL.nil (hK32 _ _ ?_))
    refine TK.ret ?_
    try dsimp only [thenQ]
    exact retC [Enc.v ((Unit_api.mk (Unit_api.mk (r8.1.toNat : Int) (0 : Int) (0 : Int) ([] : (List UInt8))).Kind r12.1 r15.1 r23.1) : Unit_api), Enc.v ((0 : Int) : Int)] ⟨p_ldVa (l' := Enc.cl ((Unit_api.mk (Unit_api.mk (r8.1.toNat : Int) (0 : Int) (0 : Int) ([] : (List UInt8))).Kind r12.1 r15.1 r23.1) : Unit_api)) ty42 rfl rfl nd (j := 2) rfl rfl rfl rfl (Nat.le_of_ble_eq_true rfl), p_mv rfl, trivial⟩ (by obtain rfl := some_in hX; rfl) (tup_val (allVal.mem ⟨v_val _, v_val _, trivial⟩))

/-- cartridge/volume.Good -/
theorem bc_volume_Good : BodyC cx 52 48 [.c 4 42, .t 5] k52 := ⟨Enters.of Tryd.func52 (by kernel_rfl) (by kernel_rfl), _, _, Tryd.func52, rfl, by kernel_rfl, rfl, rfl⟩
theorem ok_volume_Good (t1 : Tape_api) (n2 : Int) (r : (Unit_api × Bool)) (hX : X.volume_Good t1 n2 = some r) : Fun Tryd.prog 52 [Enc.v (t1 : Tape_api), Enc.v (n2 : Int)] (· = .tup 2 (ofL [Enc.v r.1, Enc.v r.2])) := by
  refine Fun.ofC (C := cx) bc_volume_Good (Nat.le_of_ble_eq_true rfl) (allVal.mem ⟨(by exact (v_val _)), (by exact (v_val _)), trivial⟩) ?_
  unfold k52
  have nd : Nd [] := Nd_nil
  unfold X.volume_Good at hX
  refine SR fun K3 hK3 => ?_
  refine TLc.boxV (lu := [Enc.v t1.Label, Enc.v t1.Cap, Enc.v t1.Blocks, Enc.v t1.Lost]) nd rfl (Cells_v (t1 : Tape_api)) rfl ?_
  refine TLc.alO (l := [Enc.v ((0 : Int) : Int), Enc.v ((0 : Int) : Int), Enc.v ((0 : Int) : Int), .nils]) nd ty42 ti42_z rfl rfl fun b4 nd => ?_
  refine M rfl rfl (TL.nil (hK3 _ _ ?_))
  refine TK.cvR nd (j := 0) rfl (l' := [Enc.v ((0 : Int) : Int), Enc.v ((0 : Int) : Int), Enc.v ((0 : Int) : Int), Enc.v (([] : (List UInt8)) : (List UInt8))]) ⟨Wk.refl _, Wk.refl _, Wk.refl _, Wk_nil, trivial⟩ fun nd => ?_
  refine TK.seq_k fun K5 hK5 => ?_
  refine SR fun K6 hK6 => P1 (p_faR fs38_3 (by decide) rfl) rfl rfl (P1 (p_ldR (v := Enc.v t1.Lost) ty4 rfl rfl rfl rfl rfl rfl) rfl rfl (M rfl rfl ?_))
  refine TLc.p (gc := (!(t1.Lost))) (p_mv rfl (hg := fun e => rfl)) (gcF1 rfl) rfl ?_
  refine TLc.p (gc := (!(t1.Lost))) (p_lss rfl rfl (hg := fun e => ⟨e, rfl⟩)) (gcF1 rfl) rfl ?_
  refine P1 (p_or rfl rfl (fun e => ⟨rfl, fun h => (not_t h)⟩)) rfl rfl (M rfl rfl ?_)
  refine TLc.p (gc := (!((t1.Lost || (decide (n2 < (0 : Int))))))) (p_mv rfl (hg := fun e => rfl)) (gcF1 rfl) rfl ?_
  refine TLc.p (gc := (!((t1.Lost || (decide (n2 < (0 : Int))))))) (p_faR fs38_2 (by decide) rfl (hg := fun e => rfl)) (gcF1 rfl) rfl ?_
  refine TLc.p (gc := (!((t1.Lost || (decide (n2 < (0 : Int))))))) (p_ldR (v := Enc.v t1.Blocks) ty26 rfl rfl rfl rfl rfl rfl (hg := fun e => e)) (gcF1 rfl) rfl ?_
  refine TLc.p (gc := (!((t1.Lost || (decide (n2 < (0 : Int))))))) (p_lenL (xs := t1.Blocks) kd26 rfl (hg := fun e => e)) (gcF1 rfl) rfl ?_
  refine TLc.p (gc := (!((t1.Lost || (decide (n2 < (0 : Int))))))) (p_geq rfl rfl (hg := fun e => ⟨e, e⟩)) (gcF1 rfl) rfl ?_
  refine P1 (p_or rfl rfl (fun e => ⟨rfl, fun h => (not_t h)⟩)) rfl rfl (TL.nil (hK6 _ _ ?_))
  refine TK.cond (b := ((t1.Lost || (decide (n2 < (0 : Int)))) || (decide (n2 ≥ (t1.Blocks.length : Int))))) rfl (fun hc => ?_) (fun hc => ?_)
  · have hX := ite_t hc hX
    refine SR fun K7 hK7 => ?_
    refine TLc.p (gc := true) (p_bld (l := [Enc.v ((0 : Int) : Int), Enc.v ((0 : Int) : Int), Enc.v ((0 : Int) : Int), .nils]) ty42 rfl all42 rfl (fun _ => trivial)) rfl rfl (TL.wk (v' := Enc.v ((Unit_api.mk (0 : Int) (0 : Int) (0 : Int) ([] : (List UInt8))) : Unit_api)) (Wk_agg ⟨Wk.refl _, Wk.refl _, Wk.refl _, Wk_nil, trivial⟩) ?_)
    refine TLc.stV (lu := Enc.cl ((Unit_api.mk (0 : Int) (0 : Int) (0 : Int) ([] : (List UInt8))) : Unit_api)) nd ty42 rfl (j := 0) rfl rfl rfl (Cells_v ((Unit_api.mk (0 : Int) (0 : Int) (0 : Int) ([] : (List UInt8))) : Unit_api)) rfl rfl [Enc.v ((Unit_api.mk (0 : Int) (0 : Int) (0 : Int) ([] : (List UInt8))).Kind : Int), Enc.v ((Unit_api.mk (0 : Int) (0 : Int) (0 : Int) ([] : (List UInt8))).Label : Int), Enc.v ((Unit_api.mk (0 : Int) (0 : Int) (0 : Int) ([] : (List UInt8))).Number : Int), Enc.v ((Unit_api.mk (0 : Int) (0 : Int) (0 : Int) ([] : (List UInt8))).Load : (List UInt8))] rfl fun nd => ?_
    refine M rfl rfl (TL.nil (hK7 _ _ ?_))
    refine TK.ret ?_
    try dsimp only [thenQ]
    exact retC [Enc.v ((Unit_api.mk (0 : Int) (0 : Int) (0 : Int) ([] : (List UInt8))) : Unit_api), Enc.v false] ⟨p_ldVa (l' := Enc.cl ((Unit_api.mk (0 : Int) (0 : Int) (0 : Int) ([] : (List UInt8))) : Unit_api)) ty42 rfl rfl nd (j := 0) rfl rfl rfl rfl (Nat.le_of_ble_eq_true rfl), p_mv rfl, trivial⟩ (by obtain rfl := some_in hX; rfl) (tup_val (allVal.mem ⟨v_val _, v_val _, trivial⟩))
  · have hX := ite_f hc hX
    refine TK.skip ?_
    refine hK5 _ _ (SR fun K8 hK8 => P1 (p_faR fs38_2 (by decide) rfl) rfl rfl (P1 (p_ldR (v := Enc.v t1.Blocks) ty26 rfl rfl rfl rfl rfl rfl) rfl rfl (M rfl rfl ?_)))
    obtain ⟨e9, he9, hX⟩ := bind_some hX
    refine P1 (p_iaL (xs := t1.Blocks) kd26 ty24 rfl rfl rfl (fun _ => he9)) rfl rfl (P1 (p_ldE (xs := t1.Blocks) (a := e9) (e9 : (List UInt8)) ty24 rfl rfl (fun _ => he9) rfl rfl rfl) rfl rfl ?_)
    obtain ⟨r10, hr10, hX⟩ := bind_some hX
    refine TL.cvX rfl rfl rfl (fun _ => ⟨rfl, ⟨rfl, trivial⟩⟩) (fun e => ok_frame_Get e9 _ hr10) ?_
    refine M rfl rfl (P1 (p_ex rfl rfl (by decide)) rfl rfl (P1 (p_ex rfl rfl (by decide)) rfl rfl ?_))
    refine TLc.alO (l := [Enc.v ((0 : Int) : Int), Enc.v ((0 : Int) : Int), Enc.v ((0 : Int) : Int), .nils]) nd ty42 ti42_z rfl rfl fun b11 nd => ?_
    refine TLc.stV (lu := Enc.cl (r10.1 : Unit_api)) nd ty42 rfl (j := 0) rfl rfl rfl (Cells_v (r10.1 : Unit_api)) rfl rfl [Enc.v r10.1.Kind, Enc.v r10.1.Label, Enc.v r10.1.Number, Enc.v r10.1.Load] rfl fun nd => ?_
    refine M rfl rfl (TL.nil (hK8 _ _ ?_))
    refine TK.seq_k fun K12 hK12 => ?_
    refine SR fun K13 hK13 => M rfl rfl (P1 (p_neq rfl rfl) rfl rfl (M rfl rfl ?_))
    refine TLc.p (gc := (!((r10.2 != (0 : Int))))) (p_faV fs42_1 (by decide) rfl nd (j := 0) rfl rfl (hg := fun e => rfl)) (gcF1 rfl) rfl ?_
    refine TLc.p (gc := (!((r10.2 != (0 : Int))))) (p_ldV (v := Enc.v r10.1.Label) ty3 rfl rfl nd (j := 0) rfl rfl rfl rfl rfl (hg := fun e => e)) (gcF1 rfl) rfl ?_
    refine TLc.p (gc := (!((r10.2 != (0 : Int))))) (p_faR fs38_0 (by decide) rfl (hg := fun e => rfl)) (gcF1 rfl) rfl ?_
    refine TLc.p (gc := (!((r10.2 != (0 : Int))))) (p_ldR (v := Enc.v t1.Label) ty3 rfl rfl rfl rfl rfl rfl (hg := fun e => e)) (gcF1 rfl) rfl ?_
    refine TLc.p (gc := (!((r10.2 != (0 : Int))))) (p_neq rfl rfl (hg := fun e => ⟨e, e⟩)) (gcF1 rfl) rfl ?_
    refine P1 (p_or rfl rfl (fun e => ⟨rfl, fun h => (not_t h)⟩)) rfl rfl (M rfl rfl ?_)
    refine TLc.p (gc := (!(((r10.2 != (0 : Int)) || (r10.1.Label != t1.Label))))) (p_faV fs42_2 (by decide) rfl nd (j := 0) rfl rfl (hg := fun e => rfl)) (gcF1 rfl) rfl ?_
    refine TLc.p (gc := (!(((r10.2 != (0 : Int)) || (r10.1.Label != t1.Label))))) (p_ldV (v := Enc.v r10.1.Number) ty3 rfl rfl nd (j := 0) rfl rfl rfl rfl rfl (hg := fun e => e)) (gcF1 rfl) rfl ?_
    refine TLc.p (gc := (!(((r10.2 != (0 : Int)) || (r10.1.Label != t1.Label))))) (p_mv rfl (hg := fun e => rfl)) (gcF1 rfl) rfl ?_
    refine TLc.p (gc := (!(((r10.2 != (0 : Int)) || (r10.1.Label != t1.Label))))) (p_neq rfl rfl (hg := fun e => ⟨e, e⟩)) (gcF1 rfl) rfl ?_
    refine P1 (p_or rfl rfl (fun e => ⟨rfl, fun h => (not_t h)⟩)) rfl rfl (TL.nil (hK13 _ _ ?_))
    refine TK.cond (b := (((r10.2 != (0 : Int)) || (r10.1.Label != t1.Label)) || (r10.1.Number != n2))) rfl (fun hc => ?_) (fun hc => ?_)
    · have hX := ite_t hc hX
      refine SR fun K14 hK14 => ?_
      refine TLc.p (gc := true) (p_bld (l := [Enc.v ((0 : Int) : Int), Enc.v ((0 : Int) : Int), Enc.v ((0 : Int) : Int), .nils]) ty42 rfl all42 rfl (fun _ => trivial)) rfl rfl (TL.wk (v' := Enc.v ((Unit_api.mk (0 : Int) (0 : Int) (0 : Int) ([] : (List UInt8))) : Unit_api)) (Wk_agg ⟨Wk.refl _, Wk.refl _, Wk.refl _, Wk_nil, trivial⟩) ?_)
      refine TLc.stV (lu := Enc.cl ((Unit_api.mk (0 : Int) (0 : Int) (0 : Int) ([] : (List UInt8))) : Unit_api)) nd ty42 rfl (j := 1) rfl rfl rfl (Cells_v ((Unit_api.mk (0 : Int) (0 : Int) (0 : Int) ([] : (List UInt8))) : Unit_api)) rfl rfl [Enc.v ((Unit_api.mk (0 : Int) (0 : Int) (0 : Int) ([] : (List UInt8))).Kind : Int), Enc.v ((Unit_api.mk (0 : Int) (0 : Int) (0 : Int) ([] : (List UInt8))).Label : Int), Enc.v ((Unit_api.mk (0 : Int) (0 : Int) (0 : Int) ([] : (List UInt8))).Number : Int), Enc.v ((Unit_api.mk (0 : Int) (0 : Int) (0 : Int) ([] : (List UInt8))).Load : (List UInt8))] rfl fun nd => ?_
      refine M rfl rfl (TL.nil (hK14 _ _ ?_))
      refine TK.ret ?_
      try dsimp only [thenQ]
      exact retC [Enc.v ((Unit_api.mk (0 : Int) (0 : Int) (0 : Int) ([] : (List UInt8))) : Unit_api), Enc.v false] ⟨p_ldVa (l' := Enc.cl ((Unit_api.mk (0 : Int) (0 : Int) (0 : Int) ([] : (List UInt8))) : Unit_api)) ty42 rfl rfl nd (j := 1) rfl rfl rfl rfl (Nat.le_of_ble_eq_true rfl), p_mv rfl, trivial⟩ (by obtain rfl := some_in hX; rfl) (tup_val (allVal.mem ⟨v_val _, v_val _, trivial⟩))
    · have hX := ite_f hc hX
      refine TK.skip ?_
      refine hK12 _ _ (SR fun K15 hK15 => P1 (p_ldVa (l' := Enc.cl (r10.1 : Unit_api)) ty42 rfl rfl nd (j := 0) rfl rfl rfl rfl (Nat.le_of_ble_eq_true rfl)) rfl rfl ?_)
      refine TLc.stV (lu := Enc.cl (r10.1 : Unit_api)) nd ty42 rfl (j := 1) rfl rfl rfl (Cells_v (r10.1 : Unit_api)) rfl rfl [Enc.v r10.1.Kind, Enc.v r10.1.Label, Enc.v r10.1.Number, Enc.v r10.1.Load] rfl fun nd => ?_
      refine M rfl rfl (TL.nil (hK15 _ _ ?_))
      refine TK.ret ?_
      try dsimp only [thenQ]
      exact retC [Enc.v r10.1, Enc.v true] ⟨p_ldVa (l' := Enc.cl (r10.1 : Unit_api)) ty42 rfl rfl nd (j := 1) rfl rfl rfl rfl (Nat.le_of_ble_eq_true rfl), p_mv rfl, trivial⟩ (by obtain rfl := some_in hX; rfl) (tup_val (allVal.mem ⟨v_val _, v_val _, trivial⟩))

/-- (*cartridge/code.Reader).Text -/
theorem ok_code_Reader_Text (b1 : (List UInt8)) (bad2 : Bool) (b3 : Nat) (nd : Nd [(b3, RV 215 [Enc.v (b1 : (List UInt8)), Enc.v (bad2 : Bool)])]) (r : (Str × ((List UInt8) × Bool))) (hX : X.code_Reader_Text b1 bad2 = some r) : TCX Tryd.prog 117 [.ref b3 0 2] [(b3, RV 215 [Enc.v (b1 : (List UInt8)), Enc.v (bad2 : Bool)])] (fun rv h' => rv = Enc.v (r.1 : Str) ∧ h' = [(b3, RV 215 [Enc.v (r.2.1 : (List UInt8)), Enc.v (r.2.2 : Bool)])]) := by
  refine TCX.of b117 (Nat.le_of_ble_eq_true rfl) ?_
  unfold k117
  unfold X.code_Reader_Text at hX
  refine SR fun K4 hK4 => M rfl rfl (TL.nil (hK4 _ _ (SR fun K5 hK5 => M rfl rfl (M rfl rfl ?_))))
  obtain ⟨r6, hr6, hX⟩ := bind_some hX
  refine TL.tcX [(b3, RV 215 [Enc.v b1, Enc.v bad2])] [] rfl nd (dlt rfl) rfl ⟨rfl, ⟨rfl, trivial⟩⟩ (ok_code_Reader_Byte b1 bad2 b3 (Nd.take nd 1 rfl) _ hr6) ?_
  rintro _ _ hQ nd
  obtain ⟨rfl, rfl⟩ := hQ
  refine P1 (p_cvt src5 kd3 rfl (cv_8 r6.1)) rfl rfl ?_
  obtain ⟨r8, hr8, hX⟩ := bind_some hX
  refine TL.tcX [(b3, RV 215 [Enc.v r6.2.1, Enc.v r6.2.2])] [] rfl nd (dlt rfl) rfl ⟨rfl, ⟨rfl, ⟨rfl, trivial⟩⟩⟩ (ok_code_Reader_take (r6.1.toNat : Int) r6.2.1 r6.2.2 b3 (Nd.take nd 1 rfl) _ hr8) ?_
  rintro _ _ hQ nd
  obtain ⟨rfl, rfl⟩ := hQ
  refine TL.ofV (gc := true) (vok_cvtBS (C := cx) (gc := true) (xs := r8.1) kd24 kd5 kd9 rfl (look_v (v := Enc.v r8.1) (v_val _))) rfl rfl ?_
  refine M rfl rfl (TL.nil (hK5 _ _ ?_))
  refine TK.ret ?_
  try dsimp only [thenQ]
  exact retX (v := Enc.v ((Str.mk r8.1) : Str)) (res1 rfl) (by obtain rfl := some_in hX; exact ⟨rfl, rfl⟩) nd (inH_val (v_val _)) ⟨rowIn_RV ⟨inH_val (v_val _), inH_val (v_val _), trivial⟩, trivial⟩

/-- cartridge/record.ReadHead -/
theorem bc_record_ReadHead : BodyC cx 90 50 [.c 2 23, .t 3] k90 := ⟨Enters.of Tryd.func90 (by kernel_rfl) (by kernel_rfl), _, _, Tryd.func90, rfl, by kernel_rfl, rfl, rfl⟩
theorem ok_record_ReadHead (b1 : (List UInt8)) (r : (Head_api × Int)) (hX : X.record_ReadHead b1 = some r) : Fun Tryd.prog 90 [Enc.v (b1 : (List UInt8))] (· = .tup 2 (ofL [Enc.v r.1, Enc.v r.2])) := by
  refine Fun.ofC (C := cx) bc_record_ReadHead (Nat.le_of_ble_eq_true rfl) (allVal.mem ⟨(by exact (v_val _)), trivial⟩) ?_
  unfold k90
  have nd : Nd [] := Nd_nil
  unfold X.record_ReadHead at hX
  refine SR fun K2 hK2 => ?_
  refine TLc.alO (l := [Enc.v ((Str.mk []) : Str), Enc.v ((0 : Int) : Int), Enc.v ((0 : Int) : Int), Enc.v ((0 : Int) : Int), Enc.v ((0 : Int) : Int), Enc.v ((0 : Int) : Int), Enc.v ((0 : Int) : Int), Enc.v false]) nd ty23 ti23_z rfl rfl fun b3 nd => ?_
  refine M rfl rfl (TL.nil (hK2 _ _ (SR fun K4 hK4 => M rfl rfl ?_)))
  obtain ⟨r5, hr5, hX⟩ := bind_some hX
  refine TL.tcX [] [(b3, RV 23 [Enc.v ((Str.mk []) : Str), Enc.v ((0 : Int) : Int), Enc.v ((0 : Int) : Int), Enc.v ((0 : Int) : Int), Enc.v ((0 : Int) : Int), Enc.v ((0 : Int) : Int), Enc.v ((0 : Int) : Int), Enc.v false])] rfl nd (dlt rfl) rfl ⟨rfl, ⟨rfl, trivial⟩⟩ (ok_code_NewReader b1 (Nd.take nd 0 rfl) _ hr5) ?_
  rintro _ _ hQ nd
  obtain ⟨b6, rfl, rfl⟩ := hQ
  refine M rfl rfl (TL.nil (hK4 _ _ (SR fun K7 hK7 => M rfl rfl ?_)))
  obtain ⟨r8, hr8, hX⟩ := bind_some hX
  refine TL.tcX [(b6, RV 215 [Enc.v r5.1, Enc.v r5.2])] [(b3, RV 23 [Enc.v ((Str.mk []) : Str), Enc.v ((0 : Int) : Int), Enc.v ((0 : Int) : Int), Enc.v ((0 : Int) : Int), Enc.v ((0 : Int) : Int), Enc.v ((0 : Int) : Int), Enc.v ((0 : Int) : Int), Enc.v false])] rfl nd (dlt rfl) rfl ⟨rfl, ⟨rfl, trivial⟩⟩ (ok_code_Reader_Text r5.1 r5.2 b6 (Nd.take nd 1 rfl) _ hr8) ?_
  rintro _ _ hQ nd
  obtain ⟨rfl, rfl⟩ := hQ
  refine P1 (p_bld (l := Enc.cl ((Head_api.mk r8.1 (0 : Int) (0 : Int) (0 : Int) (0 : Int) (0 : Int) (0 : Int) false) : Head_api)) ty23 rfl all23 rfl (fun _ => ⟨⟨rfl, trivial, rfl⟩, trivial⟩)) rfl rfl ?_
  refine TLc.alO (l := [Enc.v ((Str.mk []) : Str), Enc.v ((0 : Int) : Int), Enc.v ((0 : Int) : Int), Enc.v ((0 : Int) : Int), Enc.v ((0 : Int) : Int), Enc.v ((0 : Int) : Int), Enc.v ((0 : Int) : Int), Enc.v false]) nd ty23 ti23_z rfl rfl fun b10 nd => ?_
  refine TLc.stV (lu := Enc.cl ((Head_api.mk r8.1 (0 : Int) (0 : Int) (0 : Int) (0 : Int) (0 : Int) (0 : Int) false) : Head_api)) nd ty23 rfl (j := 0) rfl rfl rfl (Cells_v ((Head_api.mk r8.1 (0 : Int) (0 : Int) (0 : Int) (0 : Int) (0 : Int) (0 : Int) false) : Head_api)) rfl rfl [Enc.v ((Head_api.mk r8.1 (0 : Int) (0 : Int) (0 : Int) (0 : Int) (0 : Int) (0 : Int) false).Path : Str), Enc.v ((Head_api.mk r8.1 (0 : Int) (0 : Int) (0 : Int) (0 : Int) (0 : Int) (0 : Int) false).Version : Int), Enc.v ((Head_api.mk r8.1 (0 : Int) (0 : Int) (0 : Int) (0 : Int) (0 : Int) (0 : Int) false).Size : Int), Enc.v ((Head_api.mk r8.1 (0 : Int) (0 : Int) (0 : Int) (0 : Int) (0 : Int) (0 : Int) false).From : Int), Enc.v ((Head_api.mk r8.1 (0 : Int) (0 : Int) (0 : Int) (0 : Int) (0 : Int) (0 : Int) false).Len : Int), Enc.v ((Head_api.mk r8.1 (0 : Int) (0 : Int) (0 : Int) (0 : Int) (0 : Int) (0 : Int) false).Serial : Int), Enc.v ((Head_api.mk r8.1 (0 : Int) (0 : Int) (0 : Int) (0 : Int) (0 : Int) (0 : Int) false).Sum : Int), Enc.v ((Head_api.mk r8.1 (0 : Int) (0 : Int) (0 : Int) (0 : Int) (0 : Int) (0 : Int) false).Gone : Bool)] rfl fun nd => ?_
  refine TL.nil (hK7 _ _ ?_)
  refine TK.seq_k fun K11 hK11 => ?_
  refine SR fun K12 hK12 => P1 (p_faV fs23_1 (by decide) rfl nd (j := 0) rfl rfl) rfl rfl (P1 (p_faV fs23_2 (by decide) rfl nd (j := 0) rfl rfl) rfl rfl (P1 (p_faV fs23_3 (by decide) rfl nd (j := 0) rfl rfl) rfl rfl (P1 (p_faV fs23_4 (by decide) rfl nd (j := 0) rfl rfl) rfl rfl (P1 (p_faV fs23_5 (by decide) rfl nd (j := 0) rfl rfl) rfl rfl (P1 (p_faV fs23_6 (by decide) rfl nd (j := 0) rfl rfl) rfl rfl ?_)))))
  refine TLc.litR [.ref b10 1 8, .ref b10 2 8, .ref b10 3 8, .ref b10 4 8, .ref b10 5 8, .ref b10 6 8] kd189 ty188 rfl ⟨⟨rfl, rfl, refOK_of nd (j := 0) rfl rfl⟩, ⟨rfl, rfl, refOK_of nd (j := 0) rfl rfl⟩, ⟨rfl, rfl, refOK_of nd (j := 0) rfl rfl⟩, ⟨rfl, rfl, refOK_of nd (j := 0) rfl rfl⟩, ⟨rfl, rfl, refOK_of nd (j := 0) rfl rfl⟩, ⟨rfl, rfl, refOK_of nd (j := 0) rfl rfl⟩, trivial⟩ rfl rfl rfl ?_
  refine P1 (p_lenR' kd189 rfl) rfl rfl (M rfl rfl (TL.nil (hK12 _ _ ?_)))
  refine TK.block ?_
  refine TK.unroll 16 ?_
  refine unr_s ?_
  refine SR fun K14 hK14 => P1 (p_lss rfl rfl) rfl rfl (TL.nil (hK14 _ _ ?_))
  refine TK.seq_k fun K15 hK15 => ?_
  refine TK.cond (b := true) rfl (fun _ => ?_) (fun hc => by simp at hc)
  refine TK.skip ?_
  refine hK15 _ _ ?_
  refine TK.seq_k fun K16 hK16 => ?_
  refine TK.block ?_
  refine SR fun K17 hK17 => P1 (p_iaR kd189 ty188 rfl rfl rfl (by decide) (by decide)) rfl rfl (P1 (p_ldR (v := .ref b10 1 8) ty188 rfl rfl rfl rfl rfl rfl) rfl rfl (M rfl rfl (TL.nil (hK17 _ _ ?_))))
  refine TK.reg ?_
  refine M rfl rfl (M rfl rfl ?_)
  obtain ⟨r18, hr18, hX⟩ := bind_some hX
  refine TL.pick [1, 0, 2] nd (by decide) fun nd => ?_
  refine TL.tcX [(b6, RV 215 [Enc.v r8.2.1, Enc.v r8.2.2])] [(b10, RV 23 [Enc.v ((Head_api.mk r8.1 (0 : Int) (0 : Int) (0 : Int) (0 : Int) (0 : Int) (0 : Int) false).Path : Str), Enc.v ((Head_api.mk r8.1 (0 : Int) (0 : Int) (0 : Int) (0 : Int) (0 : Int) (0 : Int) false).Version : Int), Enc.v ((Head_api.mk r8.1 (0 : Int) (0 : Int) (0 : Int) (0 : Int) (0 : Int) (0 : Int) false).Size : Int), Enc.v ((Head_api.mk r8.1 (0 : Int) (0 : Int) (0 : Int) (0 : Int) (0 : Int) (0 : Int) false).From : Int), Enc.v ((Head_api.mk r8.1 (0 : Int) (0 : Int) (0 : Int) (0 : Int) (0 : Int) (0 : Int) false).Len : Int), Enc.v ((Head_api.mk r8.1 (0 : Int) (0 : Int) (0 : Int) (0 : Int) (0 : Int) (0 : Int) false).Serial : Int), Enc.v ((Head_api.mk r8.1 (0 : Int) (0 : Int) (0 : Int) (0 : Int) (0 : Int) (0 : Int) false).Sum : Int), Enc.v ((Head_api.mk r8.1 (0 : Int) (0 : Int) (0 : Int) (0 : Int) (0 : Int) (0 : Int) false).Gone : Bool)]), (b3, RV 23 [Enc.v ((Str.mk []) : Str), Enc.v ((0 : Int) : Int), Enc.v ((0 : Int) : Int), Enc.v ((0 : Int) : Int), Enc.v ((0 : Int) : Int), Enc.v ((0 : Int) : Int), Enc.v ((0 : Int) : Int), Enc.v false])] rfl nd (dlt rfl) rfl ⟨rfl, ⟨rfl, trivial⟩⟩ (ok_code_Reader_Int r8.2.1 r8.2.2 b6 (Nd.take nd 1 rfl) _ hr18) ?_
  rintro _ _ hQ nd
  obtain ⟨rfl, rfl⟩ := hQ
  refine P1 (p_ncR rfl (fun _ => refOK_of nd (j := 1) rfl rfl)) rfl rfl ?_
  refine TLc.stV (lu := Enc.cl (r18.1 : Int)) nd ty3 rfl (j := 1) rfl rfl rfl (Cells_v (r18.1 : Int)) rfl rfl [Enc.v ((Head_api.mk r8.1 (0 : Int) (0 : Int) (0 : Int) (0 : Int) (0 : Int) (0 : Int) false).Path : Str), Enc.v r18.1, Enc.v ((Head_api.mk r8.1 (0 : Int) (0 : Int) (0 : Int) (0 : Int) (0 : Int) (0 : Int) false).Size : Int), Enc.v ((Head_api.mk r8.1 (0 : Int) (0 : Int) (0 : Int) (0 : Int) (0 : Int) (0 : Int) false).From : Int), Enc.v ((Head_api.mk r8.1 (0 : Int) (0 : Int) (0 : Int) (0 : Int) (0 : Int) (0 : Int) false).Len : Int), Enc.v ((Head_api.mk r8.1 (0 : Int) (0 : Int) (0 : Int) (0 : Int) (0 : Int) (0 : Int) false).Serial : Int), Enc.v ((Head_api.mk r8.1 (0 : Int) (0 : Int) (0 : Int) (0 : Int) (0 : Int) (0 : Int) false).Sum : Int), Enc.v ((Head_api.mk r8.1 (0 : Int) (0 : Int) (0 : Int) (0 : Int) (0 : Int) (0 : Int) false).Gone : Bool)] rfl fun nd => ?_
  refine TL.nil (hK16 _ _ ?_)
  refine TK.reg ?_
  refine P1 (p_add rfl rfl) rfl rfl (M rfl rfl (TL.nil ?_))
  try dsimp only [thenQ]
  refine unr_s ?_
  refine SR fun K20 hK20 => P1 (p_lss rfl rfl) rfl rfl (TL.nil (hK20 _ _ ?_))
  refine TK.seq_k fun K21 hK21 => ?_
  refine TK.cond (b := true) rfl (fun _ => ?_) (fun hc => by simp at hc)
  refine TK.skip ?_
  refine hK21 _ _ ?_
  refine TK.seq_k fun K22 hK22 => ?_
  refine TK.block ?_
  refine SR fun K23 hK23 => P1 (p_iaR kd189 ty188 rfl rfl rfl (by decide) (by decide)) rfl rfl (P1 (p_ldR (v := .ref b10 2 8) ty188 rfl rfl rfl rfl rfl rfl) rfl rfl (M rfl rfl (TL.nil (hK23 _ _ ?_))))
  refine TK.reg ?_
  refine M rfl rfl (M rfl rfl ?_)
  obtain ⟨r24, hr24, hX⟩ := bind_some hX
  refine TL.tcX [(b6, RV 215 [Enc.v r18.2.1, Enc.v r18.2.2])] [(b10, RV 23 [Enc.v ((Head_api.mk r8.1 (0 : Int) (0 : Int) (0 : Int) (0 : Int) (0 : Int) (0 : Int) false).Path : Str), Enc.v r18.1, Enc.v ((Head_api.mk r8.1 (0 : Int) (0 : Int) (0 : Int) (0 : Int) (0 : Int) (0 : Int) false).Size : Int), Enc.v ((Head_api.mk r8.1 (0 : Int) (0 : Int) (0 : Int) (0 : Int) (0 : Int) (0 : Int) false).From : Int), Enc.v ((Head_api.mk r8.1 (0 : Int) (0 : Int) (0 : Int) (0 : Int) (0 : Int) (0 : Int) false).Len : Int), Enc.v ((Head_api.mk r8.1 (0 : Int) (0 : Int) (0 : Int) (0 : Int) (0 : Int) (0 : Int) false).Serial : Int), Enc.v ((Head_api.mk r8.1 (0 : Int) (0 : Int) (0 : Int) (0 : Int) (0 : Int) (0 : Int) false).Sum : Int), Enc.v ((Head_api.mk r8.1 (0 : Int) (0 : Int) (0 : Int) (0 : Int) (0 : Int) (0 : Int) false).Gone : Bool)]), (b3, RV 23 [Enc.v ((Str.mk []) : Str), Enc.v ((0 : Int) : Int), Enc.v ((0 : Int) : Int), Enc.v ((0 : Int) : Int), Enc.v ((0 : Int) : Int), Enc.v ((0 : Int) : Int), Enc.v ((0 : Int) : Int), Enc.v false])] rfl nd (dlt rfl) rfl ⟨rfl, ⟨rfl, trivial⟩⟩ (ok_code_Reader_Int r18.2.1 r18.2.2 b6 (Nd.take nd 1 rfl) _ hr24) ?_
  rintro _ _ hQ nd
  obtain ⟨rfl, rfl⟩ := hQ
  refine P1 (p_ncR rfl (fun _ => refOK_of nd (j := 1) rfl rfl)) rfl rfl ?_
  refine TLc.stV (lu := Enc.cl (r24.1 : Int)) nd ty3 rfl (j := 1) rfl rfl rfl (Cells_v (r24.1 : Int)) rfl rfl [Enc.v ((Head_api.mk r8.1 (0 : Int) (0 : Int) (0 : Int) (0 : Int) (0 : Int) (0 : Int) false).Path : Str), Enc.v r18.1, Enc.v r24.1, Enc.v ((Head_api.mk r8.1 (0 : Int) (0 : Int) (0 : Int) (0 : Int) (0 : Int) (0 : Int) false).From : Int), Enc.v ((Head_api.mk r8.1 (0 : Int) (0 : Int) (0 : Int) (0 : Int) (0 : Int) (0 : Int) false).Len : Int), Enc.v ((Head_api.mk r8.1 (0 : Int) (0 : Int) (0 : Int) (0 : Int) (0 : Int) (0 : Int) false).Serial : Int), Enc.v ((Head_api.mk r8.1 (0 : Int) (0 : Int) (0 : Int) (0 : Int) (0 : Int) (0 : Int) false).Sum : Int), Enc.v ((Head_api.mk r8.1 (0 : Int) (0 : Int) (0 : Int) (0 : Int) (0 : Int) (0 : Int) false).Gone : Bool)] rfl fun nd => ?_
  refine TL.nil (hK22 _ _ ?_)
  refine TK.reg ?_
  refine P1 (p_add rfl rfl) rfl rfl (M rfl rfl (TL.nil ?_))
  try dsimp only [thenQ]
  refine unr_s ?_
  refine SR fun K26 hK26 => P1 (p_lss rfl rfl) rfl rfl (TL.nil (hK26 _ _ ?_))
  refine TK.seq_k fun K27 hK27 => ?_
  refine TK.cond (b := true) rfl (fun _ => ?_) (fun hc => by simp at hc)
  refine TK.skip ?_
  refine hK27 _ _ ?_
  refine TK.seq_k fun K28 hK28 => ?_
  refine TK.block ?_
  refine SR fun K29 hK29 => P1 (p_iaR kd189 ty188 rfl rfl rfl (by decide) (by decide)) rfl rfl (P1 (p_ldR (v := .ref b10 3 8) ty188 rfl rfl rfl rfl rfl rfl) rfl rfl (M rfl rfl (TL.nil (hK29 _ _ ?_))))
  refine TK.reg ?_
  refine M rfl rfl (M rfl rfl ?_)
  obtain ⟨r30, hr30, hX⟩ := bind_some hX
  refine TL.tcX [(b6, RV 215 [Enc.v r24.2.1, Enc.v r24.2.2])] [(b10, RV 23 [Enc.v ((Head_api.mk r8.1 (0 : Int) (0 : Int) (0 : Int) (0 : Int) (0 : Int) (0 : Int) false).Path : Str), Enc.v r18.1, Enc.v r24.1, Enc.v ((Head_api.mk r8.1 (0 : Int) (0 : Int) (0 : Int) (0 : Int) (0 : Int) (0 : Int) false).From : Int), Enc.v ((Head_api.mk r8.1 (0 : Int) (0 : Int) (0 : Int) (0 : Int) (0 : Int) (0 : Int) false).Len : Int), Enc.v ((Head_api.mk r8.1 (0 : Int) (0 : Int) (0 : Int) (0 : Int) (0 : Int) (0 : Int) false).Serial : Int), Enc.v ((Head_api.mk r8.1 (0 : Int) (0 : Int) (0 : Int) (0 : Int) (0 : Int) (0 : Int) false).Sum : Int), Enc.v ((Head_api.mk r8.1 (0 : Int) (0 : Int) (0 : Int) (0 : Int) (0 : Int) (0 : Int) false).Gone : Bool)]), (b3, RV 23 [Enc.v ((Str.mk []) : Str), Enc.v ((0 : Int) : Int), Enc.v ((0 : Int) : Int), Enc.v ((0 : Int) : Int), Enc.v ((0 : Int) : Int), Enc.v ((0 : Int) : Int), Enc.v ((0 : Int) : Int), Enc.v false])] rfl nd (dlt rfl) rfl ⟨rfl, ⟨rfl, trivial⟩⟩ (ok_code_Reader_Int r24.2.1 r24.2.2 b6 (Nd.take nd 1 rfl) _ hr30) ?_
  rintro _ _ hQ nd
  obtain ⟨rfl, rfl⟩ := hQ
  refine P1 (p_ncR rfl (fun _ => refOK_of nd (j := 1) rfl rfl)) rfl rfl ?_
  refine TLc.stV (lu := Enc.cl (r30.1 : Int)) nd ty3 rfl (j := 1) rfl rfl rfl (Cells_v (r30.1 : Int)) rfl rfl [Enc.v ((Head_api.mk r8.1 (0 : Int) (0 : Int) (0 : Int) (0 : Int) (0 : Int) (0 : Int) false).Path : Str), Enc.v r18.1, Enc.v r24.1, Enc.v r30.1, Enc.v ((Head_api.mk r8.1 (0 : Int) (0 : Int) (0 : Int) (0 : Int) (0 : Int) (0 : Int) false).Len : Int), Enc.v ((Head_api.mk r8.1 (0 : Int) (0 : Int) (0 : Int) (0 : Int) (0 : Int) (0 : Int) false).Serial : Int), Enc.v ((Head_api.mk r8.1 (0 : Int) (0 : Int) (0 : Int) (0 : Int) (0 : Int) (0 : Int) false).Sum : Int), Enc.v ((Head_api.mk r8.1 (0 : Int) (0 : Int) (0 : Int) (0 : Int) (0 : Int) (0 : Int) false).Gone : Bool)] rfl fun nd => ?_
  refine TL.nil (hK28 _ _ ?_)
  refine TK.reg ?_
  refine P1 (p_add rfl rfl) rfl rfl (M rfl rfl (TL.nil ?_))
  try dsimp only [thenQ]
  refine unr_s ?_
  refine SR fun K32 hK32 => P1 (p_lss rfl rfl) rfl rfl (TL.nil (hK32 _ _ ?_))
  refine TK.seq_k fun K33 hK33 => ?_
  refine TK.cond (b := true) rfl (fun _ => ?_) (fun hc => by simp at hc)
  refine TK.skip ?_
  refine hK33 _ _ ?_
  refine TK.seq_k fun K34 hK34 => ?_
  refine TK.block ?_
  refine SR fun K35 hK35 => P1 (p_iaR kd189 ty188 rfl rfl rfl (by decide) (by decide)) rfl rfl (P1 (p_ldR (v := .ref b10 4 8) ty188 rfl rfl rfl rfl rfl rfl) rfl rfl (M rfl rfl (TL.nil (hK35 _ _ ?_))))
  refine TK.reg ?_
  refine M rfl rfl (M rfl rfl ?_)
  obtain ⟨r36, hr36, hX⟩ := bind_some hX
  refine TL.tcX [(b6, RV 215 [Enc.v r30.2.1, Enc.v r30.2.2])] [(b10, RV 23 [Enc.v ((Head_api.mk r8.1 (0 : Int) (0 : Int) (0 : Int) (0 : Int) (0 : Int) (0 : Int) false).Path : Str), Enc.v r18.1, Enc.v r24.1, Enc.v r30.1, Enc.v ((Head_api.mk r8.1 (0 : Int) (0 : Int) (0 : Int) (0 : Int) (0 : Int) (0 : Int) false).Len : Int), Enc.v ((Head_api.mk r8.1 (0 : Int) (0 : Int) (0 : Int) (0 : Int) (0 : Int) (0 : Int) false).Serial : Int), Enc.v ((Head_api.mk r8.1 (0 : Int) (0 : Int) (0 : Int) (0 : Int) (0 : Int) (0 : Int) false).Sum : Int), Enc.v ((Head_api.mk r8.1 (0 : Int) (0 : Int) (0 : Int) (0 : Int) (0 : Int) (0 : Int) false).Gone : Bool)]), (b3, RV 23 [Enc.v ((Str.mk []) : Str), Enc.v ((0 : Int) : Int), Enc.v ((0 : Int) : Int), Enc.v ((0 : Int) : Int), Enc.v ((0 : Int) : Int), Enc.v ((0 : Int) : Int), Enc.v ((0 : Int) : Int), Enc.v false])] rfl nd (dlt rfl) rfl ⟨rfl, ⟨rfl, trivial⟩⟩ (ok_code_Reader_Int r30.2.1 r30.2.2 b6 (Nd.take nd 1 rfl) _ hr36) ?_
  rintro _ _ hQ nd
  obtain ⟨rfl, rfl⟩ := hQ
  refine P1 (p_ncR rfl (fun _ => refOK_of nd (j := 1) rfl rfl)) rfl rfl ?_
  refine TLc.stV (lu := Enc.cl (r36.1 : Int)) nd ty3 rfl (j := 1) rfl rfl rfl (Cells_v (r36.1 : Int)) rfl rfl [Enc.v ((Head_api.mk r8.1 (0 : Int) (0 : Int) (0 : Int) (0 : Int) (0 : Int) (0 : Int) false).Path : Str), Enc.v r18.1, Enc.v r24.1, Enc.v r30.1, Enc.v r36.1, Enc.v ((Head_api.mk r8.1 (0 : Int) (0 : Int) (0 : Int) (0 : Int) (0 : Int) (0 : Int) false).Serial : Int), Enc.v ((Head_api.mk r8.1 (0 : Int) (0 : Int) (0 : Int) (0 : Int) (0 : Int) (0 : Int) false).Sum : Int), Enc.v ((Head_api.mk r8.1 (0 : Int) (0 : Int) (0 : Int) (0 : Int) (0 : Int) (0 : Int) false).Gone : Bool)] rfl fun nd => ?_
  refine TL.nil (hK34 _ _ ?_)
  refine TK.reg ?_
  refine P1 (p_add rfl rfl) rfl rfl (M rfl rfl (TL.nil ?_))
  try dsimp only [thenQ]
  refine unr_s ?_
  refine SR fun K38 hK38 => P1 (p_lss rfl rfl) rfl rfl (TL.nil (hK38 _ _ ?_))
  refine TK.seq_k fun K39 hK39 => ?_
  refine TK.cond (b := true) rfl (fun _ => ?_) (fun hc => by simp at hc)
  refine TK.skip ?_
  refine hK39 _ _ ?_
  refine TK.seq_k fun K40 hK40 => ?_
  refine TK.block ?_
  refine SR fun K41 hK41 => P1 (p_iaR kd189 ty188 rfl rfl rfl (by decide) (by decide)) rfl rfl (P1 (p_ldR (v := .ref b10 5 8) ty188 rfl rfl rfl rfl rfl rfl) rfl rfl (M rfl rfl (TL.nil (hK41 _ _ ?_))))
  refine TK.reg ?_
  refine M rfl rfl (M rfl rfl ?_)
  obtain ⟨r42, hr42, hX⟩ := bind_some hX
  refine TL.tcX [(b6, RV 215 [Enc.v r36.2.1, Enc.v r36.2.2])] [(b10, RV 23 [Enc.v ((Head_api.mk r8.1 (0 : Int) (0 : Int) (0 : Int) (0 : Int) (0 : Int) (0 : Int) false).Path : Str), Enc.v r18.1, Enc.v r24.1, Enc.v r30.1, Enc.v r36.1, Enc.v ((Head_api.mk r8.1 (0 : Int) (0 : Int) (0 : Int) (0 : Int) (0 : Int) (0 : Int) false).Serial : Int), Enc.v ((Head_api.mk r8.1 (0 : Int) (0 : Int) (0 : Int) (0 : Int) (0 : Int) (0 : Int) false).Sum : Int), Enc.v ((Head_api.mk r8.1 (0 : Int) (0 : Int) (0 : Int) (0 : Int) (0 : Int) (0 : Int) false).Gone : Bool)]), (b3, RV 23 [Enc.v ((Str.mk []) : Str), Enc.v ((0 : Int) : Int), Enc.v ((0 : Int) : Int), Enc.v ((0 : Int) : Int), Enc.v ((0 : Int) : Int), Enc.v ((0 : Int) : Int), Enc.v ((0 : Int) : Int), Enc.v false])] rfl nd (dlt rfl) rfl ⟨rfl, ⟨rfl, trivial⟩⟩ (ok_code_Reader_Int r36.2.1 r36.2.2 b6 (Nd.take nd 1 rfl) _ hr42) ?_
  rintro _ _ hQ nd
  obtain ⟨rfl, rfl⟩ := hQ
  refine P1 (p_ncR rfl (fun _ => refOK_of nd (j := 1) rfl rfl)) rfl rfl ?_
  refine TLc.stV (lu := Enc.cl (r42.1 : Int)) nd ty3 rfl (j := 1) rfl rfl rfl (Cells_v (r42.1 : Int)) rfl rfl [Enc.v ((Head_api.mk r8.1 (0 : Int) (0 : Int) (0 : Int) (0 : Int) (0 : Int) (0 : Int) false).Path : Str), Enc.v r18.1, Enc.v r24.1, Enc.v r30.1, Enc.v r36.1, Enc.v r42.1, Enc.v ((Head_api.mk r8.1 (0 : Int) (0 : Int) (0 : Int) (0 : Int) (0 : Int) (0 : Int) false).Sum : Int), Enc.v ((Head_api.mk r8.1 (0 : Int) (0 : Int) (0 : Int) (0 : Int) (0 : Int) (0 : Int) false).Gone : Bool)] rfl fun nd => ?_
  refine TL.nil (hK40 _ _ ?_)
  refine TK.reg ?_
  refine P1 (p_add rfl rfl) rfl rfl (M rfl rfl (TL.nil ?_))
  try dsimp only [thenQ]
  refine unr_s ?_
  refine SR fun K44 hK44 => P1 (p_lss rfl rfl) rfl rfl (TL.nil (hK44 _ _ ?_))
  refine TK.seq_k fun K45 hK45 => ?_
  refine TK.cond (b := true) rfl (fun _ => ?_) (fun hc => by simp at hc)
  refine TK.skip ?_
  refine hK45 _ _ ?_
  refine TK.seq_k fun K46 hK46 => ?_
  refine TK.block ?_
  refine SR fun K47 hK47 => P1 (p_iaR kd189 ty188 rfl rfl rfl (by decide) (by decide)) rfl rfl (P1 (p_ldR (v := .ref b10 6 8) ty188 rfl rfl rfl rfl rfl rfl) rfl rfl (M rfl rfl (TL.nil (hK47 _ _ ?_))))
  refine TK.reg ?_
  refine M rfl rfl (M rfl rfl ?_)
  obtain ⟨r48, hr48, hX⟩ := bind_some hX
  refine TL.tcX [(b6, RV 215 [Enc.v r42.2.1, Enc.v r42.2.2])] [(b10, RV 23 [Enc.v ((Head_api.mk r8.1 (0 : Int) (0 : Int) (0 : Int) (0 : Int) (0 : Int) (0 : Int) false).Path : Str), Enc.v r18.1, Enc.v r24.1, Enc.v r30.1, Enc.v r36.1, Enc.v r42.1, Enc.v ((Head_api.mk r8.1 (0 : Int) (0 : Int) (0 : Int) (0 : Int) (0 : Int) (0 : Int) false).Sum : Int), Enc.v ((Head_api.mk r8.1 (0 : Int) (0 : Int) (0 : Int) (0 : Int) (0 : Int) (0 : Int) false).Gone : Bool)]), (b3, RV 23 [Enc.v ((Str.mk []) : Str), Enc.v ((0 : Int) : Int), Enc.v ((0 : Int) : Int), Enc.v ((0 : Int) : Int), Enc.v ((0 : Int) : Int), Enc.v ((0 : Int) : Int), Enc.v ((0 : Int) : Int), Enc.v false])] rfl nd (dlt rfl) rfl ⟨rfl, ⟨rfl, trivial⟩⟩ (ok_code_Reader_Int r42.2.1 r42.2.2 b6 (Nd.take nd 1 rfl) _ hr48) ?_
  rintro _ _ hQ nd
  obtain ⟨rfl, rfl⟩ := hQ
  refine P1 (p_ncR rfl (fun _ => refOK_of nd (j := 1) rfl rfl)) rfl rfl ?_
  refine TLc.stV (lu := Enc.cl (r48.1 : Int)) nd ty3 rfl (j := 1) rfl rfl rfl (Cells_v (r48.1 : Int)) rfl rfl [Enc.v ((Head_api.mk r8.1 (0 : Int) (0 : Int) (0 : Int) (0 : Int) (0 : Int) (0 : Int) false).Path : Str), Enc.v r18.1, Enc.v r24.1, Enc.v r30.1, Enc.v r36.1, Enc.v r42.1, Enc.v r48.1, Enc.v ((Head_api.mk r8.1 (0 : Int) (0 : Int) (0 : Int) (0 : Int) (0 : Int) (0 : Int) false).Gone : Bool)] rfl fun nd => ?_
  refine TL.nil (hK46 _ _ ?_)
  refine TK.reg ?_
  refine P1 (p_add rfl rfl) rfl rfl (M rfl rfl (TL.nil ?_))
  try dsimp only [thenQ]
  refine unr_s ?_
  refine SR fun K50 hK50 => P1 (p_lss rfl rfl) rfl rfl (TL.nil (hK50 _ _ ?_))
  refine TK.seq_k fun K51 hK51 => ?_
  refine TK.cond (b := false) rfl (fun hc => by simp at hc) (fun _ => ?_)
  refine TK.exit ?_
  refine hK11 _ _ (SR fun K52 hK52 => M rfl rfl ?_)
  obtain ⟨r53, hr53, hX⟩ := bind_some hX
  refine TL.tcX [(b6, RV 215 [Enc.v r48.2.1, Enc.v r48.2.2])] [(b10, RV 23 [Enc.v ((Head_api.mk r8.1 (0 : Int) (0 : Int) (0 : Int) (0 : Int) (0 : Int) (0 : Int) false).Path : Str), Enc.v r18.1, Enc.v r24.1, Enc.v r30.1, Enc.v r36.1, Enc.v r42.1, Enc.v r48.1, Enc.v ((Head_api.mk r8.1 (0 : Int) (0 : Int) (0 : Int) (0 : Int) (0 : Int) (0 : Int) false).Gone : Bool)]), (b3, RV 23 [Enc.v ((Str.mk []) : Str), Enc.v ((0 : Int) : Int), Enc.v ((0 : Int) : Int), Enc.v ((0 : Int) : Int), Enc.v ((0 : Int) : Int), Enc.v ((0 : Int) : Int), Enc.v ((0 : Int) : Int), Enc.v false])] rfl nd (dlt rfl) rfl ⟨rfl, ⟨rfl, trivial⟩⟩ (ok_code_Reader_Byte r48.2.1 r48.2.2 b6 (Nd.take nd 1 rfl) _ hr53) ?_
  rintro _ _ hQ nd
  obtain ⟨rfl, rfl⟩ := hQ
  refine P1 (p8_eql (a := r53.1) (b := (1 : UInt8)) rfl rfl) rfl rfl (P1 (p_faV fs23_7 (by decide) rfl nd (j := 1) rfl rfl) rfl rfl ?_)
  refine TLc.stV (lu := Enc.cl ((r53.1 == (1 : UInt8)) : Bool)) nd ty4 rfl (j := 1) rfl rfl rfl (Cells_v ((r53.1 == (1 : UInt8)) : Bool)) rfl rfl [Enc.v ((Head_api.mk r8.1 (0 : Int) (0 : Int) (0 : Int) (0 : Int) (0 : Int) (0 : Int) false).Path : Str), Enc.v r18.1, Enc.v r24.1, Enc.v r30.1, Enc.v r36.1, Enc.v r42.1, Enc.v r48.1, Enc.v ((r53.1 == (1 : UInt8)) : Bool)] rfl fun nd => ?_
  refine TL.nil (hK52 _ _ ?_)
  refine TK.seq_k fun K55 hK55 => ?_
  refine SR fun K56 hK56 => M rfl rfl ?_
  obtain ⟨r57, hr57, hX⟩ := bind_some hX
  refine TL.lookX [.vref (ofL [Enc.v r53.2.1, Enc.v r53.2.2]) 2 0] rfl rfl rfl (fun _ => ⟨rfl, ⟨rfl, trivial⟩⟩) ⟨look_ref (l := [Enc.v r53.2.1, Enc.v r53.2.2]) nd (j := 0) rfl ⟨look_v (v := Enc.v r53.2.1) (v_val _), look_v (v := Enc.v r53.2.2) (v_val _), trivial⟩, trivial⟩ (fun e => ok_code_Reader_Bad r53.2.1 r53.2.2 _ hr57) (trivial) ?_
  refine M rfl rfl ?_
  refine TLc.p (gc := (!r57)) (p_ldVa (l' := Enc.cl ((Head_api.mk (Head_api.mk r8.1 (0 : Int) (0 : Int) (0 : Int) (0 : Int) (0 : Int) (0 : Int) false).Path r18.1 r24.1 r30.1 r36.1 r42.1 r48.1 (r53.1 == (1 : UInt8))) : Head_api)) ty23 rfl rfl nd (j := 1) rfl rfl rfl rfl (Nat.le_of_ble_eq_true rfl) (hg := fun e => rfl)) (gcF1 rfl) rfl ?_
  obtain ⟨r58, hr58, hX⟩ := bind_some hX
  refine TL.cvX (gcF1 rfl) rfl rfl (fun e => ⟨rfl, ⟨e, trivial⟩⟩) (fun e => ok_record_RightHead (Head_api.mk (Head_api.mk r8.1 (0 : Int) (0 : Int) (0 : Int) (0 : Int) (0 : Int) (0 : Int) false).Path r18.1 r24.1 r30.1 r36.1 r42.1 r48.1 (r53.1 == (1 : UInt8))) _ (optG_t hr58 e)) ?_
  refine TLc.p (gc := (!r57)) (p_not rfl (hg := fun e => e)) (gcF1 rfl) rfl ?_
  refine P1 (p_or rfl rfl (fun e => ⟨rfl, fun h => (not_t h)⟩)) rfl rfl (M rfl rfl ?_)
  refine TLc.p (gc := (!((r57 || (!r58))))) (p_mv rfl (hg := fun e => rfl)) (gcF1 rfl) rfl ?_
  refine TLc.p (gc := (!((r57 || (!r58))))) (p_ldVa (l' := Enc.cl ((Head_api.mk (Head_api.mk r8.1 (0 : Int) (0 : Int) (0 : Int) (0 : Int) (0 : Int) (0 : Int) false).Path r18.1 r24.1 r30.1 r36.1 r42.1 r48.1 (r53.1 == (1 : UInt8))) : Head_api)) ty23 rfl rfl nd (j := 1) rfl rfl rfl rfl (Nat.le_of_ble_eq_true rfl) (hg := fun e => rfl)) (gcF1 rfl) rfl ?_
  obtain ⟨r59, hr59, hX⟩ := bind_some hX
  refine TL.cvX (gcF1 rfl) rfl rfl (fun e => ⟨rfl, ⟨e, trivial⟩⟩) (fun e => ok_record_HeadBytes (Head_api.mk (Head_api.mk r8.1 (0 : Int) (0 : Int) (0 : Int) (0 : Int) (0 : Int) (0 : Int) false).Path r18.1 r24.1 r30.1 r36.1 r42.1 r48.1 (r53.1 == (1 : UInt8))) _ (optG_t hr59 e)) ?_
  obtain ⟨r60, hr60, hX⟩ := bind_some hX
  refine TL.cvX (gcF1 rfl) rfl rfl (fun e => ⟨rfl, ⟨e, ⟨e, trivial⟩⟩⟩) (fun e => ok_slices_Equal_Lbyte_byte b1 r59 _ (optG_t hr60 e)) ?_
  refine TLc.p (gc := (!((r57 || (!r58))))) (p_not rfl (hg := fun e => e)) (gcF1 rfl) rfl ?_
  refine P1 (p_or rfl rfl (fun e => ⟨rfl, fun h => (not_t h)⟩)) rfl rfl (TL.nil (hK56 _ _ ?_))
  refine TK.cond (b := ((r57 || (!r58)) || (!r60))) rfl (fun hc => ?_) (fun hc => ?_)
  · have hX := ite_t hc hX
    refine SR fun K61 hK61 => P1 (p_bld (l := Enc.cl ((Head_api.mk (Str.mk []) (0 : Int) (0 : Int) (0 : Int) (0 : Int) (0 : Int) (0 : Int) false) : Head_api)) ty23 rfl all23 rfl (fun _ => trivial)) rfl rfl ?_
    refine TLc.stV (lu := Enc.cl ((Head_api.mk (Str.mk []) (0 : Int) (0 : Int) (0 : Int) (0 : Int) (0 : Int) (0 : Int) false) : Head_api)) nd ty23 rfl (j := 2) rfl rfl rfl (Cells_v ((Head_api.mk (Str.mk []) (0 : Int) (0 : Int) (0 : Int) (0 : Int) (0 : Int) (0 : Int) false) : Head_api)) rfl rfl [Enc.v ((Head_api.mk (Str.mk []) (0 : Int) (0 : Int) (0 : Int) (0 : Int) (0 : Int) (0 : Int) false).Path : Str), Enc.v ((Head_api.mk (Str.mk []) (0 : Int) (0 : Int) (0 : Int) (0 : Int) (0 : Int) (0 : Int) false).Version : Int), Enc.v ((Head_api.mk (Str.mk []) (0 : Int) (0 : Int) (0 : Int) (0 : Int) (0 : Int) (0 : Int) false).Size : Int), Enc.v ((Head_api.mk (Str.mk []) (0 : Int) (0 : Int) (0 : Int) (0 : Int) (0 : Int) (0 : Int) false).From : Int), Enc.v ((Head_api.mk (Str.mk []) (0 : Int) (0 : Int) (0 : Int) (0 : Int) (0 : Int) (0 : Int) false).Len : Int), Enc.v ((Head_api.mk (Str.mk []) (0 : Int) (0 : Int) (0 : Int) (0 : Int) (0 : Int) (0 : Int) false).Serial : Int), Enc.v ((Head_api.mk (Str.mk []) (0 : Int) (0 : Int) (0 : Int) (0 : Int) (0 : Int) (0 : Int) false).Sum : Int), Enc.v ((Head_api.mk (Str.mk []) (0 : Int) (0 : Int) (0 : Int) (0 : Int) (0 : Int) (0 : Int) false).Gone : Bool)] rfl fun nd => ?_
    refine M rfl rfl (TL.nil (hK61 _ _ ?_))
    refine TK.ret ?_
    try dsimp only [thenQ]
    exact retC [Enc.v ((Head_api.mk (Str.mk []) (0 : Int) (0 : Int) (0 : Int) (0 : Int) (0 : Int) (0 : Int) false) : Head_api), Enc.v ((2 : Int) : Int)] ⟨p_ldVa (l' := Enc.cl ((Head_api.mk (Str.mk []) (0 : Int) (0 : Int) (0 : Int) (0 : Int) (0 : Int) (0 : Int) false) : Head_api)) ty23 rfl rfl nd (j := 2) rfl rfl rfl rfl (Nat.le_of_ble_eq_true rfl), p_mv rfl, trivial⟩ (by obtain rfl := some_in hX; rfl) (tup_val (allVal.mem ⟨v_val _, v_val _, trivial⟩))
  · have hX := ite_f hc hX
    refine TK.skip ?_
    refine hK55 _ _ (SR fun K62 hK62 => P1 (p_ldVa (l' := Enc.cl ((Head_api.mk (Head_api.mk r8.1 (0 : Int) (0 : Int) (0 : Int) (0 : Int) (0 : Int) (0 : Int) false).Path r18.1 r24.1 r30.1 r36.1 r42.1 r48.1 (r53.1 == (1 : UInt8))) : Head_api)) ty23 rfl rfl nd (j := 1) rfl rfl rfl rfl (Nat.le_of_ble_eq_true rfl)) rfl rfl ?_)
    refine TLc.stV (lu := Enc.cl ((Head_api.mk (Head_api.mk r8.1 (0 : Int) (0 : Int) (0 : Int) (0 : Int) (0 : Int) (0 : Int) false).Path r18.1 r24.1 r30.1 r36.1 r42.1 r48.1 (r53.1 == (1 : UInt8))) : Head_api)) nd ty23 rfl (j := 2) rfl rfl rfl (Cells_v ((Head_api.mk (Head_api.mk r8.1 (0 : Int) (0 : Int) (0 : Int) (0 : Int) (0 : Int) (0 : Int) false).Path r18.1 r24.1 r30.1 r36.1 r42.1 r48.1 (r53.1 == (1 : UInt8))) : Head_api)) rfl rfl [Enc.v ((Head_api.mk (Head_api.mk r8.1 (0 : Int) (0 : Int) (0 : Int) (0 : Int) (0 : Int) (0 : Int) false).Path r18.1 r24.1 r30.1 r36.1 r42.1 r48.1 (r53.1 == (1 : UInt8))).Path : Str), Enc.v ((Head_api.mk (Head_api.mk r8.1 (0 : Int) (0 : Int) (0 : Int) (0 : Int) (0 : Int) (0 : Int) false).Path r18.1 r24.1 r30.1 r36.1 r42.1 r48.1 (r53.1 == (1 : UInt8))).Version : Int), Enc.v ((Head_api.mk (Head_api.mk r8.1 (0 : Int) (0 : Int) (0 : Int) (0 : Int) (0 : Int) (0 : Int) false).Path r18.1 r24.1 r30.1 r36.1 r42.1 r48.1 (r53.1 == (1 : UInt8))).Size : Int), Enc.v ((Head_api.mk (Head_api.mk r8.1 (0 : Int) (0 : Int) (0 : Int) (0 : Int) (0 : Int) (0 : Int) false).Path r18.1 r24.1 r30.1 r36.1 r42.1 r48.1 (r53.1 == (1 : UInt8))).From : Int), Enc.v ((Head_api.mk (Head_api.mk r8.1 (0 : Int) (0 : Int) (0 : Int) (0 : Int) (0 : Int) (0 : Int) false).Path r18.1 r24.1 r30.1 r36.1 r42.1 r48.1 (r53.1 == (1 : UInt8))).Len : Int), Enc.v ((Head_api.mk (Head_api.mk r8.1 (0 : Int) (0 : Int) (0 : Int) (0 : Int) (0 : Int) (0 : Int) false).Path r18.1 r24.1 r30.1 r36.1 r42.1 r48.1 (r53.1 == (1 : UInt8))).Serial : Int), Enc.v ((Head_api.mk (Head_api.mk r8.1 (0 : Int) (0 : Int) (0 : Int) (0 : Int) (0 : Int) (0 : Int) false).Path r18.1 r24.1 r30.1 r36.1 r42.1 r48.1 (r53.1 == (1 : UInt8))).Sum : Int), Enc.v ((Head_api.mk (Head_api.mk r8.1 (0 : Int) (0 : Int) (0 : Int) (0 : Int) (0 : Int) (0 : Int) false).Path r18.1 r24.1 r30.1 r36.1 r42.1 r48.1 (r53.1 == (1 : UInt8))).Gone : Bool)] rfl fun nd => ?_
    refine M rfl rfl (TL.nil (hK62 _ _ ?_))
    refine TK.ret ?_
    try dsimp only [thenQ]
    exact retC [Enc.v ((Head_api.mk (Head_api.mk r8.1 (0 : Int) (0 : Int) (0 : Int) (0 : Int) (0 : Int) (0 : Int) false).Path r18.1 r24.1 r30.1 r36.1 r42.1 r48.1 (r53.1 == (1 : UInt8))) : Head_api), Enc.v ((0 : Int) : Int)] ⟨p_ldVa (l' := Enc.cl ((Head_api.mk (Head_api.mk r8.1 (0 : Int) (0 : Int) (0 : Int) (0 : Int) (0 : Int) (0 : Int) false).Path r18.1 r24.1 r30.1 r36.1 r42.1 r48.1 (r53.1 == (1 : UInt8))) : Head_api)) ty23 rfl rfl nd (j := 2) rfl rfl rfl rfl (Nat.le_of_ble_eq_true rfl), p_mv rfl, trivial⟩ (by obtain rfl := some_in hX; rfl) (tup_val (allVal.mem ⟨v_val _, v_val _, trivial⟩))

/-- cartridge/volume.part -/
theorem bc_volume_part : BodyC cx 53 50 [.c 4 48, .t 5] k53 := ⟨Enters.of Tryd.func53 (by kernel_rfl) (by kernel_rfl), _, _, Tryd.func53, rfl, by kernel_rfl, rfl, rfl⟩
theorem ok_volume_part (t1 : Tape_api) (n2 : Int) (r : (Part_api × Bool)) (hX : X.volume_part t1 n2 = some r) : Fun Tryd.prog 53 [Enc.v (t1 : Tape_api), Enc.v (n2 : Int)] (· = .tup 2 (ofL [Enc.v r.1, Enc.v r.2])) := by
  refine Fun.ofC (C := cx) bc_volume_part (Nat.le_of_ble_eq_true rfl) (allVal.mem ⟨(by exact (v_val _)), (by exact (v_val _)), trivial⟩) ?_
  unfold k53
  have nd : Nd [] := Nd_nil
  unfold X.volume_part at hX
  refine SR fun K3 hK3 => ?_
  refine TLc.boxV (lu := [Enc.v t1.Label, Enc.v t1.Cap, Enc.v t1.Blocks, Enc.v t1.Lost]) nd rfl (Cells_v (t1 : Tape_api)) rfl ?_
  refine TLc.alO (l := [Enc.v ((Str.mk []) : Str), Enc.v ((0 : Int) : Int), Enc.v ((0 : Int) : Int), Enc.v ((0 : Int) : Int), Enc.v ((0 : Int) : Int), Enc.v ((0 : Int) : Int), Enc.v ((0 : Int) : Int), Enc.v false, Enc.v ((0 : Int) : Int), Enc.v ((0 : Int) : Int)]) nd ty48 ti48_z rfl rfl fun b4 nd => ?_
  refine M rfl rfl (TL.nil (hK3 _ _ (SR fun K5 hK5 => P1 (p_ldRa (l' := Enc.cl (t1 : Tape_api)) ty38 rfl rfl rfl rfl rfl (Nat.le_of_ble_eq_true rfl)) rfl rfl (M rfl rfl ?_))))
  obtain ⟨r6, hr6, hX⟩ := bind_some hX
  refine TL.cvX rfl rfl rfl (fun _ => ⟨rfl, ⟨rfl, ⟨rfl, trivial⟩⟩⟩) (fun e => ok_volume_Good t1 n2 _ hr6) ?_
  refine M rfl rfl (P1 (p_ex rfl rfl (by decide)) rfl rfl (P1 (p_ex rfl rfl (by decide)) rfl rfl ?_))
  refine TLc.alO (l := [Enc.v ((0 : Int) : Int), Enc.v ((0 : Int) : Int), Enc.v ((0 : Int) : Int), .nils]) nd ty42 ti42_z rfl rfl fun b7 nd => ?_
  refine TLc.stV (lu := Enc.cl (r6.1 : Unit_api)) nd ty42 rfl (j := 0) rfl rfl rfl (Cells_v (r6.1 : Unit_api)) rfl rfl [Enc.v r6.1.Kind, Enc.v r6.1.Label, Enc.v r6.1.Number, Enc.v r6.1.Load] rfl fun nd => ?_
  refine M rfl rfl (TL.nil (hK5 _ _ ?_))
  refine TK.seq_k fun K8 hK8 => ?_
  refine SR fun K9 hK9 => M rfl rfl (P1 (p_not rfl) rfl rfl (M rfl rfl ?_))
  refine TLc.p (gc := (!((!r6.2)))) (p_faV fs42_0 (by decide) rfl nd (j := 0) rfl rfl (hg := fun e => rfl)) (gcF1 rfl) rfl ?_
  refine TLc.p (gc := (!((!r6.2)))) (p_ldV (v := Enc.v r6.1.Kind) ty3 rfl rfl nd (j := 0) rfl rfl rfl rfl rfl (hg := fun e => e)) (gcF1 rfl) rfl ?_
  refine TLc.p (gc := (!((!r6.2)))) (p_neq rfl rfl (hg := fun e => ⟨e, rfl⟩)) (gcF1 rfl) rfl ?_
  refine P1 (p_or rfl rfl (fun e => ⟨rfl, fun h => (not_t h)⟩)) rfl rfl (TL.nil (hK9 _ _ ?_))
  refine TK.cond (b := ((!r6.2) || (r6.1.Kind != (2 : Int)))) rfl (fun hc => ?_) (fun hc => ?_)
  · have hX := ite_t hc hX
    refine SR fun K10 hK10 => P1 (p_bld (l := Enc.cl ((Part_api.mk (Head_api.mk (Str.mk []) (0 : Int) (0 : Int) (0 : Int) (0 : Int) (0 : Int) (0 : Int) false) (0 : Int) (0 : Int)) : Part_api)) ty48 rfl all48 rfl (fun _ => trivial)) rfl rfl ?_
    refine TLc.stV (lu := Enc.cl ((Part_api.mk (Head_api.mk (Str.mk []) (0 : Int) (0 : Int) (0 : Int) (0 : Int) (0 : Int) (0 : Int) false) (0 : Int) (0 : Int)) : Part_api)) nd ty48 rfl (j := 1) rfl rfl rfl (Cells_v ((Part_api.mk (Head_api.mk (Str.mk []) (0 : Int) (0 : Int) (0 : Int) (0 : Int) (0 : Int) (0 : Int) false) (0 : Int) (0 : Int)) : Part_api)) rfl rfl [Enc.v ((Part_api.mk (Head_api.mk (Str.mk []) (0 : Int) (0 : Int) (0 : Int) (0 : Int) (0 : Int) (0 : Int) false) (0 : Int) (0 : Int)).Head.Path : Str), Enc.v ((Part_api.mk (Head_api.mk (Str.mk []) (0 : Int) (0 : Int) (0 : Int) (0 : Int) (0 : Int) (0 : Int) false) (0 : Int) (0 : Int)).Head.Version : Int), Enc.v ((Part_api.mk (Head_api.mk (Str.mk []) (0 : Int) (0 : Int) (0 : Int) (0 : Int) (0 : Int) (0 : Int) false) (0 : Int) (0 : Int)).Head.Size : Int), Enc.v ((Part_api.mk (Head_api.mk (Str.mk []) (0 : Int) (0 : Int) (0 : Int) (0 : Int) (0 : Int) (0 : Int) false) (0 : Int) (0 : Int)).Head.From : Int), Enc.v ((Part_api.mk (Head_api.mk (Str.mk []) (0 : Int) (0 : Int) (0 : Int) (0 : Int) (0 : Int) (0 : Int) false) (0 : Int) (0 : Int)).Head.Len : Int), Enc.v ((Part_api.mk (Head_api.mk (Str.mk []) (0 : Int) (0 : Int) (0 : Int) (0 : Int) (0 : Int) (0 : Int) false) (0 : Int) (0 : Int)).Head.Serial : Int), Enc.v ((Part_api.mk (Head_api.mk (Str.mk []) (0 : Int) (0 : Int) (0 : Int) (0 : Int) (0 : Int) (0 : Int) false) (0 : Int) (0 : Int)).Head.Sum : Int), Enc.v ((Part_api.mk (Head_api.mk (Str.mk []) (0 : Int) (0 : Int) (0 : Int) (0 : Int) (0 : Int) (0 : Int) false) (0 : Int) (0 : Int)).Head.Gone : Bool), Enc.v ((Part_api.mk (Head_api.mk (Str.mk []) (0 : Int) (0 : Int) (0 : Int) (0 : Int) (0 : Int) (0 : Int) false) (0 : Int) (0 : Int)).Label : Int), Enc.v ((Part_api.mk (Head_api.mk (Str.mk []) (0 : Int) (0 : Int) (0 : Int) (0 : Int) (0 : Int) (0 : Int) false) (0 : Int) (0 : Int)).Block : Int)] rfl fun nd => ?_
    refine M rfl rfl (TL.nil (hK10 _ _ ?_))
    refine TK.ret ?_
    try dsimp only [thenQ]
    exact retC [Enc.v ((Part_api.mk (Head_api.mk (Str.mk []) (0 : Int) (0 : Int) (0 : Int) (0 : Int) (0 : Int) (0 : Int) false) (0 : Int) (0 : Int)) : Part_api), Enc.v false] ⟨p_ldVa (l' := Enc.cl ((Part_api.mk (Head_api.mk (Str.mk []) (0 : Int) (0 : Int) (0 : Int) (0 : Int) (0 : Int) (0 : Int) false) (0 : Int) (0 : Int)) : Part_api)) ty48 rfl rfl nd (j := 1) rfl rfl rfl rfl (Nat.le_of_ble_eq_true rfl), p_mv rfl, trivial⟩ (by obtain rfl := some_in hX; rfl) (tup_val (allVal.mem ⟨v_val _, v_val _, trivial⟩))
  · have hX := ite_f hc hX
    refine TK.skip ?_
    refine hK8 _ _ (SR fun K11 hK11 => P1 (p_faV fs42_3 (by decide) rfl nd (j := 0) rfl rfl) rfl rfl (P1 (p_ldV (v := Enc.v r6.1.Load) ty24 rfl rfl nd (j := 0) rfl rfl rfl rfl rfl) rfl rfl ?_))
    obtain ⟨r12, hr12, hX⟩ := bind_some hX
    refine TL.cvX rfl rfl rfl (fun _ => ⟨rfl, ⟨rfl, trivial⟩⟩) (fun e => ok_record_ReadHead r6.1.Load _ hr12) ?_
    refine M rfl rfl (P1 (p_ex rfl rfl (by decide)) rfl rfl (P1 (p_ex rfl rfl (by decide)) rfl rfl ?_))
    refine TLc.alO (l := [Enc.v ((Str.mk []) : Str), Enc.v ((0 : Int) : Int), Enc.v ((0 : Int) : Int), Enc.v ((0 : Int) : Int), Enc.v ((0 : Int) : Int), Enc.v ((0 : Int) : Int), Enc.v ((0 : Int) : Int), Enc.v false]) nd ty23 ti23_z rfl rfl fun b13 nd => ?_
    refine TLc.stV (lu := Enc.cl (r12.1 : Head_api)) nd ty23 rfl (j := 0) rfl rfl rfl (Cells_v (r12.1 : Head_api)) rfl rfl [Enc.v r12.1.Path, Enc.v r12.1.Version, Enc.v r12.1.Size, Enc.v r12.1.From, Enc.v r12.1.Len, Enc.v r12.1.Serial, Enc.v r12.1.Sum, Enc.v r12.1.Gone] rfl fun nd => ?_
    refine M rfl rfl (TL.nil (hK11 _ _ ?_))
    refine TK.seq_k fun K14 hK14 => ?_
    refine TK.seq_k fun K15 hK15 => ?_
    have ndS : Nd [(b13, RV 23 [Enc.v r12.1.Path, Enc.v r12.1.Version, Enc.v r12.1.Size, Enc.v r12.1.From, Enc.v r12.1.Len, Enc.v r12.1.Serial, Enc.v r12.1.Sum, Enc.v r12.1.Gone]), (b7, RV 42 [Enc.v r6.1.Kind, Enc.v r6.1.Label, Enc.v r6.1.Number, Enc.v r6.1.Load]), (b4, RV 48 [Enc.v ((Str.mk []) : Str), Enc.v ((0 : Int) : Int), Enc.v ((0 : Int) : Int), Enc.v ((0 : Int) : Int), Enc.v ((0 : Int) : Int), Enc.v ((0 : Int) : Int), Enc.v ((0 : Int) : Int), Enc.v false, Enc.v ((0 : Int) : Int), Enc.v ((0 : Int) : Int)])] := Nd.pick nd (is := [0, 1, 2]) (by decide)
    refine TK.drwX (h := []) (hS := [(b13, RV 23 [Enc.v r12.1.Path, Enc.v r12.1.Version, Enc.v r12.1.Size, Enc.v r12.1.From, Enc.v r12.1.Len, Enc.v r12.1.Serial, Enc.v r12.1.Sum, Enc.v r12.1.Gone]), (b7, RV 42 [Enc.v r6.1.Kind, Enc.v r6.1.Label, Enc.v r6.1.Number, Enc.v r6.1.Load]), (b4, RV 48 [Enc.v ((Str.mk []) : Str), Enc.v ((0 : Int) : Int), Enc.v ((0 : Int) : Int), Enc.v ((0 : Int) : Int), Enc.v ((0 : Int) : Int), Enc.v ((0 : Int) : Int), Enc.v ((0 : Int) : Int), Enc.v false, Enc.v ((0 : Int) : Int), Enc.v ((0 : Int) : Int)])]) [(0, 0), (0, 1), (0, 2), (0, 3), (0, 4), (0, 5), (0, 6), (0, 7), (0, 8), (0, 9), (0, 10), (0, 11), (0, 12), (0, 13)] mixed (by kernel_rfl) (HSub_app nd) ?_
    refine DM rfl rfl rfl ?_
    refine D0 rfl (p_neq rfl rfl) rfl rfl ?_
    refine DM rfl rfl rfl ?_
    refine DR0 (gc := (!((r12.2 != (0 : Int))))) rfl (vok_p (C := cx) (p_mv rfl (hg := fun e => rfl))) (gcF1 rfl) rfl ?_
    refine DR0 (gc := (!((r12.2 != (0 : Int))))) rfl (vok_p (C := cx) (p_add rfl rfl (hg := fun e => ⟨e, rfl⟩))) (gcF1 rfl) rfl ?_
    refine DR0 (gc := (!((r12.2 != (0 : Int))))) rfl (vok_p (C := cx) (p_faV fs23_4 (by decide) rfl ndS (j := 0) rfl rfl (hg := fun e => rfl))) (gcF1 rfl) rfl ?_
    refine DR0 (gc := (!((r12.2 != (0 : Int))))) rfl (vok_p (C := cx) (p_ldV (v := Enc.v r12.1.Len) ty3 rfl rfl ndS (j := 0) rfl rfl rfl rfl rfl (hg := fun e => e))) (gcF1 rfl) rfl ?_
    obtain ⟨r16, hr16, hX⟩ := bind_some hX
    refine DR0 (gc := (!((r12.2 != (0 : Int))))) rfl (vok_c rfl (fun e => ⟨rfl, ⟨e, trivial⟩⟩) (fun e => ok_volume_data r12.1.Len _ (optG_t hr16 e))) (gcF1 rfl) rfl ?_
    refine DR0 (gc := (!((r12.2 != (0 : Int))))) rfl (vok_p (C := cx) (p_add rfl rfl (hg := fun e => ⟨e, e⟩))) (gcF1 rfl) rfl ?_
    refine DR0 (gc := (!((r12.2 != (0 : Int))))) rfl (vok_p (C := cx) (p_faR fs38_2 (by decide) rfl (hg := fun e => rfl))) (gcF1 rfl) rfl ?_
    refine DR0 (gc := (!((r12.2 != (0 : Int))))) rfl (vok_p (C := cx) (p_ldR (v := Enc.v t1.Blocks) ty26 rfl rfl rfl rfl rfl rfl (hg := fun e => e))) (gcF1 rfl) rfl ?_
    refine DR0 (gc := (!((r12.2 != (0 : Int))))) rfl (vok_p (C := cx) (p_lenL (xs := t1.Blocks) kd26 rfl (hg := fun e => e))) (gcF1 rfl) rfl ?_
    refine DR0 (gc := (!((r12.2 != (0 : Int))))) rfl (vok_p (C := cx) (p_geq rfl rfl (hg := fun e => ⟨e, e⟩))) (gcF1 rfl) rfl ?_
    refine D0 rfl (p_or rfl rfl (fun e => ⟨rfl, fun h => (not_t h)⟩)) rfl rfl ?_
    refine DRend ?_
    refine hK15 _ _ ?_
    refine TK.cond (b := ((r12.2 != (0 : Int)) || (decide ((wr ((wr (n2 + (1 : Int))) + r16)) ≥ (t1.Blocks.length : Int))))) rfl (fun hc => ?_) (fun hc => ?_)
    · have hX := ite_t hc hX
      refine SR fun K17 hK17 => P1 (p_bld (l := Enc.cl ((Part_api.mk (Head_api.mk (Str.mk []) (0 : Int) (0 : Int) (0 : Int) (0 : Int) (0 : Int) (0 : Int) false) (0 : Int) (0 : Int)) : Part_api)) ty48 rfl all48 rfl (fun _ => trivial)) rfl rfl ?_
      refine TLc.stV (lu := Enc.cl ((Part_api.mk (Head_api.mk (Str.mk []) (0 : Int) (0 : Int) (0 : Int) (0 : Int) (0 : Int) (0 : Int) false) (0 : Int) (0 : Int)) : Part_api)) nd ty48 rfl (j := 2) rfl rfl rfl (Cells_v ((Part_api.mk (Head_api.mk (Str.mk []) (0 : Int) (0 : Int) (0 : Int) (0 : Int) (0 : Int) (0 : Int) false) (0 : Int) (0 : Int)) : Part_api)) rfl rfl [Enc.v ((Part_api.mk (Head_api.mk (Str.mk []) (0 : Int) (0 : Int) (0 : Int) (0 : Int) (0 : Int) (0 : Int) false) (0 : Int) (0 : Int)).Head.Path : Str), Enc.v ((Part_api.mk (Head_api.mk (Str.mk []) (0 : Int) (0 : Int) (0 : Int) (0 : Int) (0 : Int) (0 : Int) false) (0 : Int) (0 : Int)).Head.Version : Int), Enc.v ((Part_api.mk (Head_api.mk (Str.mk []) (0 : Int) (0 : Int) (0 : Int) (0 : Int) (0 : Int) (0 : Int) false) (0 : Int) (0 : Int)).Head.Size : Int), Enc.v ((Part_api.mk (Head_api.mk (Str.mk []) (0 : Int) (0 : Int) (0 : Int) (0 : Int) (0 : Int) (0 : Int) false) (0 : Int) (0 : Int)).Head.From : Int), Enc.v ((Part_api.mk (Head_api.mk (Str.mk []) (0 : Int) (0 : Int) (0 : Int) (0 : Int) (0 : Int) (0 : Int) false) (0 : Int) (0 : Int)).Head.Len : Int), Enc.v ((Part_api.mk (Head_api.mk (Str.mk []) (0 : Int) (0 : Int) (0 : Int) (0 : Int) (0 : Int) (0 : Int) false) (0 : Int) (0 : Int)).Head.Serial : Int), Enc.v ((Part_api.mk (Head_api.mk (Str.mk []) (0 : Int) (0 : Int) (0 : Int) (0 : Int) (0 : Int) (0 : Int) false) (0 : Int) (0 : Int)).Head.Sum : Int), Enc.v ((Part_api.mk (Head_api.mk (Str.mk []) (0 : Int) (0 : Int) (0 : Int) (0 : Int) (0 : Int) (0 : Int) false) (0 : Int) (0 : Int)).Head.Gone : Bool), Enc.v ((Part_api.mk (Head_api.mk (Str.mk []) (0 : Int) (0 : Int) (0 : Int) (0 : Int) (0 : Int) (0 : Int) false) (0 : Int) (0 : Int)).Label : Int), Enc.v ((Part_api.mk (Head_api.mk (Str.mk []) (0 : Int) (0 : Int) (0 : Int) (0 : Int) (0 : Int) (0 : Int) false) (0 : Int) (0 : Int)).Block : Int)] rfl fun nd => ?_
      refine M rfl rfl (TL.nil (hK17 _ _ ?_))
      refine TK.ret ?_
      try dsimp only [thenQ]
      exact retC [Enc.v ((Part_api.mk (Head_api.mk (Str.mk []) (0 : Int) (0 : Int) (0 : Int) (0 : Int) (0 : Int) (0 : Int) false) (0 : Int) (0 : Int)) : Part_api), Enc.v false] ⟨p_ldVa (l' := Enc.cl ((Part_api.mk (Head_api.mk (Str.mk []) (0 : Int) (0 : Int) (0 : Int) (0 : Int) (0 : Int) (0 : Int) false) (0 : Int) (0 : Int)) : Part_api)) ty48 rfl rfl nd (j := 2) rfl rfl rfl rfl (Nat.le_of_ble_eq_true rfl), p_mv rfl, trivial⟩ (by obtain rfl := some_in hX; rfl) (tup_val (allVal.mem ⟨v_val _, v_val _, trivial⟩))
    · have hX := ite_f hc hX
      refine TK.skip ?_
      refine hK14 _ _ (SR fun K18 hK18 => P1 (p_ldVa (l' := Enc.cl (r12.1 : Head_api)) ty23 rfl rfl nd (j := 0) rfl rfl rfl rfl (Nat.le_of_ble_eq_true rfl)) rfl rfl (P1 (p_faR fs38_0 (by decide) rfl) rfl rfl (P1 (p_ldR (v := Enc.v t1.Label) ty3 rfl rfl rfl rfl rfl rfl) rfl rfl (M rfl rfl ?_))))
      refine P1 (p_bld (l := Enc.cl ((Part_api.mk r12.1 t1.Label n2) : Part_api)) ty48 rfl all48 rfl (fun _ => ⟨⟨rfl, trivial, rfl⟩, ⟨rfl, trivial, rfl⟩, ⟨rfl, trivial, rfl⟩, trivial⟩)) rfl rfl ?_
      refine TLc.stV (lu := Enc.cl ((Part_api.mk r12.1 t1.Label n2) : Part_api)) nd ty48 rfl (j := 2) rfl rfl rfl (Cells_v ((Part_api.mk r12.1 t1.Label n2) : Part_api)) rfl rfl [Enc.v ((Part_api.mk r12.1 t1.Label n2).Head.Path : Str), Enc.v ((Part_api.mk r12.1 t1.Label n2).Head.Version : Int), Enc.v ((Part_api.mk r12.1 t1.Label n2).Head.Size : Int), Enc.v ((Part_api.mk r12.1 t1.Label n2).Head.From : Int), Enc.v ((Part_api.mk r12.1 t1.Label n2).Head.Len : Int), Enc.v ((Part_api.mk r12.1 t1.Label n2).Head.Serial : Int), Enc.v ((Part_api.mk r12.1 t1.Label n2).Head.Sum : Int), Enc.v ((Part_api.mk r12.1 t1.Label n2).Head.Gone : Bool), Enc.v ((Part_api.mk r12.1 t1.Label n2).Label : Int), Enc.v ((Part_api.mk r12.1 t1.Label n2).Block : Int)] rfl fun nd => ?_
      refine M rfl rfl (TL.nil (hK18 _ _ ?_))
      refine TK.ret ?_
      try dsimp only [thenQ]
      exact retC [Enc.v ((Part_api.mk r12.1 t1.Label n2) : Part_api), Enc.v true] ⟨p_ldVa (l' := Enc.cl ((Part_api.mk r12.1 t1.Label n2) : Part_api)) ty48 rfl rfl nd (j := 2) rfl rfl rfl rfl (Nat.le_of_ble_eq_true rfl), p_mv rfl, trivial⟩ (by obtain rfl := some_in hX; rfl) (tup_val (allVal.mem ⟨v_val _, v_val _, trivial⟩))

/-- cartridge/volume.Parts -/
theorem ok_volume_Parts (t1 : Tape_api) (r : (List Part_api)) (hX : X.volume_Parts t1 = some r) : Fun Tryd.prog 21 [Enc.v (t1 : Tape_api)] (· = Enc.v (r : (List Part_api))) := by
  refine Fun.of b21 (Nat.le_of_ble_eq_true rfl) (allVal.mem ⟨(by exact (v_val _)), trivial⟩) ?_
  unfold k21
  have nd : Nd [] := Nd_nil
  unfold X.volume_Parts at hX
  refine SR fun K2 hK2 => ?_
  refine TLc.boxV (lu := [Enc.v t1.Label, Enc.v t1.Cap, Enc.v t1.Blocks, Enc.v t1.Lost]) nd rfl (Cells_v (t1 : Tape_api)) rfl ?_
  refine M rfl rfl (TL.nil (hK2 _ _ (SR fun K3 hK3 => M rfl rfl (TL.nil (hK3 _ _ ?_)))))
  refine TK.ownL (α := Part_api) 3 48 nd rfl (.inl rfl) fun b4 nd => ?_
  refine TK.seq_k fun K5 hK5 => ?_
  refine SR fun K6 hK6 => P1 (p_faR fs38_3 (by decide) rfl) rfl rfl (P1 (p_ldR (v := Enc.v t1.Lost) ty4 rfl rfl rfl rfl rfl rfl) rfl rfl (TL.nil (hK6 _ _ ?_)))
  refine TK.cond (b := t1.Lost) rfl (fun hc => ?_) (fun hc => ?_)
  · have hX := ite_t hc hX
    refine SR fun K7 hK7 => M rfl rfl (TL.nil (hK7 _ _ ?_))
    refine TK.wk 2 (L ([] : (List Part_api))) rfl Wk_nil ?_
    refine TK.ret ?_
    try dsimp only [thenQ]
    exact R1 rfl hX
  · have hX := ite_f hc hX
    refine TK.skip ?_
    refine hK5 _ _ ?_
    refine TK.seq_k fun K8 hK8 => ?_
    refine SR fun K9 hK9 => M rfl rfl (TL.nil (hK9 _ _ ?_))
    refine TK.block ?_
    obtain ⟨o10, hO10, hA10⟩ := bind_some hX
    have E10 : ∀ (l15 : List Part_api) (env : Env) (h : Hp), (∃ b14, keepE [3] env = [(3, true, OL b14 l15)] ∧ Nd [(b14, RL (α := Part_api) 48 l15)] ∧ HSub [(b14, RL (α := Part_api) 48 l15)] h) → X.volume_Parts_e10 l15 = some r → K8 env h := by
      intro l15 env h hE hX
      obtain ⟨b14, henv, nd, hs⟩ := hE
      unfold X.volume_Parts_e10 at hX
      refine hK8 _ _ (TK.keep [3] ?_)
      rw [henv]
      refine TK.subH hs ?_
      refine SR fun K16 hK16 => M rfl rfl (M rfl rfl (TL.nil (hK16 _ _ ?_)))
      refine TK.lay [(2, L l15)] nd (j := 0) rfl ⟨⟨_, rfl, fix_OL nd (j := 0) rfl, rfl⟩, trivial⟩ fun nd => ?_
      refine TK.ret ?_
      try dsimp only [thenQ]
      exact R1 rfl hX
    refine TK.iter [1, 3, 4] (fun s env h => match s with | (out12, n13) => ∃ b11, env = [(1, true, .vref (ofL [Enc.v t1.Label, Enc.v t1.Cap, Enc.v t1.Blocks, Enc.v t1.Lost]) 4 0), (3, true, OL b11 out12), (4, true, Enc.v n13)] ∧ Nd [(b11, RL (α := Part_api) 48 out12)] ∧ HSub [(b11, RL (α := Part_api) 48 out12)] h) hO10 ⟨b4, rfl, (Nd.pick nd (is := [0]) (by decide)), (HSub.pick nd (is := [0]) (by decide))⟩ ?_
    rintro ⟨out12, n13⟩ env h x10x ⟨b11, rfl, nd, hs⟩ hX hR10
    refine TK.subH hs ?_
    unfold X.volume_Parts_s10 at hX
    try dsimp only at hX
    refine TK.seq_k fun K17 hK17 => ?_
    refine SR fun K18 hK18 => M rfl rfl (P1 (p_faR fs38_2 (by decide) rfl) rfl rfl (P1 (p_ldR (v := Enc.v t1.Blocks) ty26 rfl rfl rfl rfl rfl rfl) rfl rfl (P1 (p_lenL (xs := t1.Blocks) kd26 rfl) rfl rfl (P1 (p_lss rfl rfl) rfl rfl (TL.nil (hK18 _ _ ?_))))))
    refine TK.cond (b := (decide (n13 < (t1.Blocks.length : Int)))) rfl (fun hc => ?_) (fun hc => ?_)
    · have hX := ite_t hc hX
      refine TK.skip ?_
      refine hK17 _ _ ?_
      refine TK.seq_k fun K19 hK19 => ?_
      have J19 : ∀ (l21 : List Part_api) (n22 : Int) (env : Env) (h : Hp), (∃ b20, keepE [1, 3, 4] env = [(1, true, .vref (ofL [Enc.v t1.Label, Enc.v t1.Cap, Enc.v t1.Blocks, Enc.v t1.Lost]) 4 0), (3, true, OL b20 l21), (4, true, Enc.v n22)] ∧ Nd [(b20, RL (α := Part_api) 48 l21)] ∧ HSub [(b20, RL (α := Part_api) 48 l21)] h) → X.volume_Parts_j19 l21 n22 = some x10x → K19 env h := by
        intro l21 n22 env h hE hX
        obtain ⟨b20, henv, nd, hs⟩ := hE
        unfold X.volume_Parts_j19 at hX
        refine hK19 _ _ (TK.keep [1, 3, 4] ?_)
        rw [henv]
        refine TK.subH hs ?_
        refine TK.reg ?_
        refine M rfl rfl (P1 (p_add rfl rfl) rfl rfl (M rfl rfl (TL.nil ?_)))
        exact ⟨_, (some_in hX).symm, b20, rfl, (Nd.pick nd (is := [0]) (by decide)), (HSub.pick nd (is := [0]) (by decide))⟩
      refine TK.block ?_
      refine SR fun K23 hK23 => P1 (p_ldRa (l' := Enc.cl (t1 : Tape_api)) ty38 rfl rfl rfl rfl rfl (Nat.le_of_ble_eq_true rfl)) rfl rfl (M rfl rfl ?_)
      obtain ⟨r24, hr24, hX⟩ := bind_some hX
      refine TL.cvX rfl rfl rfl (fun _ => ⟨rfl, ⟨rfl, ⟨rfl, trivial⟩⟩⟩) (fun e => ok_volume_part t1 n13 _ hr24) ?_
      refine M rfl rfl (P1 (p_ex rfl rfl (by decide)) rfl rfl (P1 (p_ex rfl rfl (by decide)) rfl rfl ?_))
      refine TLc.alO (l := [Enc.v ((Str.mk []) : Str), Enc.v ((0 : Int) : Int), Enc.v ((0 : Int) : Int), Enc.v ((0 : Int) : Int), Enc.v ((0 : Int) : Int), Enc.v ((0 : Int) : Int), Enc.v ((0 : Int) : Int), Enc.v false, Enc.v ((0 : Int) : Int), Enc.v ((0 : Int) : Int)]) nd ty48 ti48_z rfl rfl fun b25 nd => ?_
      refine TLc.stV (lu := Enc.cl (r24.1 : Part_api)) nd ty48 rfl (j := 0) rfl rfl rfl (Cells_v (r24.1 : Part_api)) rfl rfl [Enc.v r24.1.Head.Path, Enc.v r24.1.Head.Version, Enc.v r24.1.Head.Size, Enc.v r24.1.Head.From, Enc.v r24.1.Head.Len, Enc.v r24.1.Head.Serial, Enc.v r24.1.Head.Sum, Enc.v r24.1.Head.Gone, Enc.v r24.1.Label, Enc.v r24.1.Block] rfl fun nd => ?_
      refine M rfl rfl (TL.nil (hK23 _ _ (SR fun K26 hK26 => M rfl rfl (TL.nil (hK26 _ _ ?_)))))
      refine TK.cond (b := r24.2) rfl (fun hc => ?_) (fun hc => ?_)
      · have hX := ite_t hc hX
        refine SR fun K27 hK27 => M rfl rfl (P1 (p_ldVa (l' := Enc.cl (r24.1 : Part_api)) ty48 rfl rfl nd (j := 0) rfl rfl rfl rfl (Nat.le_of_ble_eq_true rfl)) rfl rfl ?_)
        refine TLc.lit ([r24.1] : List Part_api) kd44 ty48 rfl ⟨⟨rfl, rfl⟩, trivial⟩ rfl rfl rfl ?_
        obtain ⟨u28, hu28, hX⟩ := bind_some hX
        refine TLc.appO nd kd44 bo44 ty48 rfl rfl (j := 1) rfl rfl (Src_L _) (by decide) (need_t hu28) rfl fun nd => ?_
        refine M rfl rfl (TL.nil (hK27 _ _ ?_))
        refine TK.reg ?_
        refine M rfl rfl (P1 (p_faV fs48_0 (by decide) rfl nd (j := 0) rfl rfl) rfl rfl (P1 (p_faV fs23_4 (by decide) rfl nd (j := 0) rfl rfl) rfl rfl (P1 (p_ldV (v := Enc.v r24.1.Head.Len) ty3 rfl rfl nd (j := 0) rfl rfl rfl rfl rfl) rfl rfl ?_)))
        obtain ⟨r29, hr29, hX⟩ := bind_some hX
        refine TL.cvX rfl rfl rfl (fun _ => ⟨rfl, ⟨rfl, trivial⟩⟩) (fun e => ok_volume_data r24.1.Head.Len _ hr29) ?_
        refine P1 (p_add rfl rfl) rfl rfl (P1 (p_add rfl rfl) rfl rfl (M rfl rfl (TL.nil ?_)))
        exact J19 (out12 ++ ([r24.1] : List Part_api)) (wr (n13 + (wr (r29 + (1 : Int))))) _ _ ⟨b11, rfl, (Nd.pick nd (is := [1]) (by decide)), (HSub.pick nd (is := [1]) (by decide))⟩ hX
      · have hX := ite_f hc hX
        refine TK.skip ?_
        exact J19 out12 n13 _ _ ⟨b11, rfl, (Nd.pick nd (is := [1]) (by decide)), (HSub.pick nd (is := [1]) (by decide))⟩ hX
    · have hX := ite_f hc hX
      refine TK.exit ?_
      obtain rfl := hR10 _ (some_in hX).symm
      exact E10 out12 _ _ ⟨b11, rfl, (Nd.pick nd (is := [0]) (by decide)), (HSub.pick nd (is := [0]) (by decide))⟩ hA10

/-- cartridge/volume.Keep -/
theorem ok_volume_Keep (t1 : Tape_api) (r : Int) (hX : X.volume_Keep t1 = some r) : Fun Tryd.prog 20 [Enc.v (t1 : Tape_api)] (· = Enc.v (r : Int)) := by
  refine Fun.of b20 (Nat.le_of_ble_eq_true rfl) (allVal.mem ⟨(by exact (v_val _)), trivial⟩) ?_
  unfold k20
  have nd : Nd [] := Nd_nil
  unfold X.volume_Keep at hX
  refine SR fun K2 hK2 => ?_
  refine TLc.boxV (lu := [Enc.v t1.Label, Enc.v t1.Cap, Enc.v t1.Blocks, Enc.v t1.Lost]) nd rfl (Cells_v (t1 : Tape_api)) rfl ?_
  refine M rfl rfl (TL.nil (hK2 _ _ (SR fun K3 hK3 => P1 (p_ldRa (l' := Enc.cl (t1 : Tape_api)) ty38 rfl rfl rfl rfl rfl (Nat.le_of_ble_eq_true rfl)) rfl rfl ?_)))
  obtain ⟨r4, hr4, hX⟩ := bind_some hX
  refine TL.cvX rfl rfl rfl (fun _ => ⟨rfl, ⟨rfl, trivial⟩⟩) (fun e => ok_volume_Parts t1 _ hr4) ?_
  refine M rfl rfl (TL.nil (hK3 _ _ ?_))
  refine TK.seq_k fun K5 hK5 => ?_
  refine SR fun K6 hK6 => M rfl rfl (P1 (p_lenL (xs := r4) kd44 rfl) rfl rfl (P1 (p_gtr rfl rfl) rfl rfl (TL.nil (hK6 _ _ ?_))))
  refine TK.cond (b := (decide ((r4.length : Int) > (0 : Int)))) rfl (fun hc => ?_) (fun hc => ?_)
  · have hX := ite_t hc hX
    refine SR fun K7 hK7 => M rfl rfl (M rfl rfl (P1 (p_lenL (xs := r4) kd44 rfl) rfl rfl (P1 (p_sub rfl rfl) rfl rfl ?_)))
    obtain ⟨e8, he8, hX⟩ := bind_some hX
    refine P1 (p_iaL (xs := r4) kd44 ty48 rfl rfl rfl (fun _ => he8)) rfl rfl (P1 (p_ldE (xs := r4) (a := e8) (e8 : Part_api) ty48 rfl rfl (fun _ => he8) rfl rfl rfl) rfl rfl ?_)
    refine TLc.alO (l := [Enc.v ((Str.mk []) : Str), Enc.v ((0 : Int) : Int), Enc.v ((0 : Int) : Int), Enc.v ((0 : Int) : Int), Enc.v ((0 : Int) : Int), Enc.v ((0 : Int) : Int), Enc.v ((0 : Int) : Int), Enc.v false, Enc.v ((0 : Int) : Int), Enc.v ((0 : Int) : Int)]) nd ty48 ti48_z rfl rfl fun b9 nd => ?_
    refine TLc.stV (lu := Enc.cl (e8 : Part_api)) nd ty48 rfl (j := 0) rfl rfl rfl (Cells_v (e8 : Part_api)) rfl rfl [Enc.v e8.Head.Path, Enc.v e8.Head.Version, Enc.v e8.Head.Size, Enc.v e8.Head.From, Enc.v e8.Head.Len, Enc.v e8.Head.Serial, Enc.v e8.Head.Sum, Enc.v e8.Head.Gone, Enc.v e8.Label, Enc.v e8.Block] rfl fun nd => ?_
    refine TL.nil (hK7 _ _ ?_)
    refine TK.seq_k fun K10 hK10 => ?_
    have ndS : Nd [(b9, RV 48 [Enc.v e8.Head.Path, Enc.v e8.Head.Version, Enc.v e8.Head.Size, Enc.v e8.Head.From, Enc.v e8.Head.Len, Enc.v e8.Head.Serial, Enc.v e8.Head.Sum, Enc.v e8.Head.Gone, Enc.v e8.Label, Enc.v e8.Block])] := Nd.pick nd (is := [0]) (by decide)
    refine TK.drwX (h := []) (hS := [(b9, RV 48 [Enc.v e8.Head.Path, Enc.v e8.Head.Version, Enc.v e8.Head.Size, Enc.v e8.Head.From, Enc.v e8.Head.Len, Enc.v e8.Head.Serial, Enc.v e8.Head.Sum, Enc.v e8.Head.Gone, Enc.v e8.Label, Enc.v e8.Block])]) [(0, 0), (0, 1), (0, 2), (0, 3), (0, 4), (0, 5), (0, 6), (0, 7)] mixed (by kernel_rfl) (HSub_app nd) ?_
    refine D0 rfl (p_faV fs48_2 (by decide) rfl ndS (j := 0) rfl rfl) rfl rfl ?_
    refine D0 rfl (p_ldV (v := Enc.v e8.Block) ty3 rfl rfl ndS (j := 0) rfl rfl rfl rfl rfl) rfl rfl ?_
    refine D0 rfl (p_faV fs48_0 (by decide) rfl ndS (j := 0) rfl rfl) rfl rfl ?_
    refine D0 rfl (p_faV fs23_4 (by decide) rfl ndS (j := 0) rfl rfl) rfl rfl ?_
    refine D0 rfl (p_ldV (v := Enc.v e8.Head.Len) ty3 rfl rfl ndS (j := 0) rfl rfl rfl rfl rfl) rfl rfl ?_
    obtain ⟨r11, hr11, hX⟩ := bind_some hX
    refine DR0 (gc := true) rfl (vok_c rfl (fun _ => ⟨rfl, ⟨rfl, trivial⟩⟩) (fun e => ok_volume_Need e8.Head.Len _ hr11)) rfl rfl ?_
    refine D0 rfl (p_add rfl rfl) rfl rfl ?_
    refine DM rfl rfl rfl ?_
    refine DRend ?_
    refine hK10 _ _ ?_
    refine TK.ret ?_
    try dsimp only [thenQ]
    exact R1 rfl hX
  · have hX := ite_f hc hX
    refine TK.skip ?_
    refine hK5 _ _ ?_
    refine TK.seq_k fun K12 hK12 => ?_
    refine SR fun K13 hK13 => P1 (p_ldRa (l' := Enc.cl (t1 : Tape_api)) ty38 rfl rfl rfl rfl rfl (Nat.le_of_ble_eq_true rfl)) rfl rfl ?_
    obtain ⟨r14, hr14, hX⟩ := bind_some hX
    refine TL.cvX rfl rfl rfl (fun _ => ⟨rfl, ⟨rfl, ⟨rfl, trivial⟩⟩⟩) (fun e => ok_volume_Good t1 (0 : Int) _ hr14) ?_
    refine M rfl rfl (P1 (p_ex rfl rfl (by decide)) rfl rfl (P1 (p_ex rfl rfl (by decide)) rfl rfl ?_))
    refine TLc.alO (l := [Enc.v ((0 : Int) : Int), Enc.v ((0 : Int) : Int), Enc.v ((0 : Int) : Int), .nils]) nd ty42 ti42_z rfl rfl fun b15 nd => ?_
    refine TLc.stV (lu := Enc.cl (r14.1 : Unit_api)) nd ty42 rfl (j := 0) rfl rfl rfl (Cells_v (r14.1 : Unit_api)) rfl rfl [Enc.v r14.1.Kind, Enc.v r14.1.Label, Enc.v r14.1.Number, Enc.v r14.1.Load] rfl fun nd => ?_
    refine M rfl rfl (TL.nil (hK13 _ _ (SR fun K16 hK16 => M rfl rfl (TL.nil (hK16 _ _ ?_)))))
    refine TK.cond (b := r14.2) rfl (fun hc => ?_) (fun hc => ?_)
    · have hX := ite_t hc hX
      refine SR fun K17 hK17 => M rfl rfl (TL.nil (hK17 _ _ ?_))
      refine TK.ret ?_
      try dsimp only [thenQ]
      exact R1 rfl hX
    · have hX := ite_f hc hX
      refine TK.skip ?_
      refine hK12 _ _ (SR fun K18 hK18 => M rfl rfl (TL.nil (hK18 _ _ ?_)))
      refine TK.ret ?_
      try dsimp only [thenQ]
      exact R1 rfl hX

/-- cartridge/cartridgelaw11.alive -/
theorem ok_cartridgelaw11_alive  (r : Bool) (hX : X.cartridgelaw11_alive = some r) : Fun Tryd.prog 12 [] (· = Enc.v (r : Bool)) := by
  refine Fun.of b12 (Nat.le_of_ble_eq_true rfl) (fun x hx => by cases hx) ?_
  unfold k12
  have nd : Nd [] := Nd_nil
  unfold X.cartridgelaw11_alive at hX
  refine SR fun K1 hK1 => M rfl rfl (TL.nil (hK1 _ _ (SR fun K2 hK2 => P1 (p_bld (l := Enc.cl ((Head_api.mk (Str.mk [97]) (1 : Int) (0 : Int) (0 : Int) (0 : Int) (1 : Int) (0 : Int) false) : Head_api)) ty23 rfl all23 rfl (fun _ => ⟨⟨rfl, trivial, rfl⟩, ⟨rfl, trivial, rfl⟩, ⟨rfl, trivial, rfl⟩, trivial⟩)) rfl rfl ?_)))
  obtain ⟨r3, hr3, hX⟩ := bind_some hX
  refine TL.cvX rfl rfl rfl (fun _ => ⟨rfl, ⟨rfl, ⟨rfl, ⟨rfl, ⟨rfl, trivial⟩⟩⟩⟩⟩) (fun e => (Fun.wk (args' := [Enc.v ((1 : Int) : Int), Enc.v ((1 : Int) : Int), Enc.v ((Head_api.mk (Str.mk [97]) (1 : Int) (0 : Int) (0 : Int) (0 : Int) (1 : Int) (0 : Int) false) : Head_api), L ([] : List UInt8)]) ⟨Wk.refl _, Wk.refl _, Wk.refl _, Wk_nil, trivial⟩ (ok_volume_Blocks (1 : Int) (1 : Int) (Head_api.mk (Str.mk [97]) (1 : Int) (0 : Int) (0 : Int) (0 : Int) (1 : Int) (0 : Int) false) ([] : List UInt8) _ hr3))) ?_
  refine M rfl rfl (P1 (p_ex rfl rfl (by decide)) rfl rfl (P1 (p_ex rfl rfl (by decide)) rfl rfl (M rfl rfl (M rfl rfl (TL.nil (hK2 _ _ (SR fun K4 hK4 => ?_)))))))
  obtain ⟨r5, hr5, hX⟩ := bind_some hX
  refine TL.cvX rfl rfl rfl (fun _ => ⟨rfl, ⟨rfl, trivial⟩⟩) (fun e => ok_volume_Need (0 : Int) _ hr5) ?_
  refine P1 (p_eql rfl rfl) rfl rfl (M rfl rfl ?_)
  refine TLc.p (gc := ((r5 == (2 : Int)))) (p_mv rfl (hg := fun e => rfl)) (gcT1 rfl) rfl ?_
  obtain ⟨r6, hr6, hX⟩ := bind_some hX
  refine TL.cvX (gcT1 rfl) rfl rfl (fun e => ⟨rfl, ⟨e, trivial⟩⟩) (fun e => ok_cartridgelaw11_num r3.2 _ (optG_t hr6 e)) ?_
  refine TLc.p (gc := ((r5 == (2 : Int)))) (p_eql rfl rfl (hg := fun e => ⟨e, rfl⟩)) (gcT1 rfl) rfl ?_
  refine P1 (p_and rfl rfl (fun e => ⟨rfl, fun h => h⟩)) rfl rfl (M rfl rfl ?_)
  refine TLc.p (gc := (((r5 == (2 : Int)) && (r6 == (0 : Int))))) (p_mv rfl (hg := fun e => rfl)) (gcT1 rfl) rfl ?_
  refine TLc.p (gc := (((r5 == (2 : Int)) && (r6 == (0 : Int))))) (p_lenL (xs := r3.1) kd26 rfl (hg := fun e => e)) (gcT1 rfl) rfl ?_
  refine TLc.p (gc := (((r5 == (2 : Int)) && (r6 == (0 : Int))))) (p_eql rfl rfl (hg := fun e => ⟨e, rfl⟩)) (gcT1 rfl) rfl ?_
  refine P1 (p_and rfl rfl (fun e => ⟨rfl, fun h => h⟩)) rfl rfl (M rfl rfl ?_)
  refine TLc.p (gc := ((((r5 == (2 : Int)) && (r6 == (0 : Int))) && ((r3.1.length : Int) == (2 : Int))))) (p_bld (l := [Enc.v ((0 : Int) : Int), Enc.v ((0 : Int) : Int), .nils, Enc.v false]) ty38 rfl all38 rfl (fun _ => trivial)) (gcT1 rfl) rfl (TL.wk (v' := Enc.v ((Tape_api.mk (0 : Int) (0 : Int) ([] : (List (List UInt8))) false) : Tape_api)) (Wk_agg ⟨Wk.refl _, Wk.refl _, Wk_nil, Wk.refl _, trivial⟩) ?_)
  obtain ⟨r7, hr7, hX⟩ := bind_some hX
  refine TL.cvX (gcT1 rfl) rfl rfl (fun e => ⟨rfl, ⟨e, trivial⟩⟩) (fun e => ok_volume_Keep (Tape_api.mk (0 : Int) (0 : Int) ([] : (List (List UInt8))) false) _ (optG_t hr7 e)) ?_
  refine TLc.p (gc := ((((r5 == (2 : Int)) && (r6 == (0 : Int))) && ((r3.1.length : Int) == (2 : Int))))) (p_eql rfl rfl (hg := fun e => ⟨e, rfl⟩)) (gcT1 rfl) rfl ?_
  refine P1 (p_and rfl rfl (fun e => ⟨rfl, fun h => h⟩)) rfl rfl (M rfl rfl (TL.nil (hK4 _ _ ?_)))
  refine TK.ret ?_
  try dsimp only [thenQ]
  exact R1 rfl hX

/-- (*cartridge/cartridgeref1.Writer).Byte -/
theorem ok_cartridgeref1_Writer_Byte (c4 : UInt8) (B1 : (List UInt8)) (b2 : Nat) (b3 : Nat) (nd : Nd [(b2, RV 102 [OL (α := UInt8) b3 B1]), (b3, RL (α := UInt8) 5 B1)]) (r : (List UInt8)) (hX : X.cartridgeref1_Writer_Byte c4 B1 = some r) : TCX Tryd.prog 49 [.ref b2 0 1, Enc.v (c4 : UInt8)] [(b2, RV 102 [OL (α := UInt8) b3 B1]), (b3, RL (α := UInt8) 5 B1)] (fun rv h' => ∃ b7, rv = .tup 0 (ofL []) ∧ h' = [(b2, RV 102 [OL (α := UInt8) b7 r]), (b7, RL (α := UInt8) 5 r)]) := by
  refine TCX.of b49 (Nat.le_of_ble_eq_true rfl) ?_
  unfold k49
  unfold X.cartridgeref1_Writer_Byte at hX
  refine TK.endK fun KE hKE => ?_
  refine TK.reg ?_
  refine M rfl rfl (M rfl rfl (P1 (p_ncR rfl (fun _ => refOK_of nd (j := 0) rfl rfl)) rfl rfl (P1 (p_faV fs102_0 (by decide) rfl nd (j := 0) rfl rfl) rfl rfl (P1 (p_ldV (v := OL b3 B1) ty24 rfl rfl nd (j := 0) rfl rfl rfl rfl rfl) rfl rfl (M rfl rfl ?_)))))
  refine TLc.lit ([c4] : List UInt8) kd24 ty5 rfl ⟨⟨rfl, rfl⟩, trivial⟩ rfl rfl rfl ?_
  obtain ⟨u5, hu5, hX⟩ := bind_some hX
  refine TLc.appO nd kd24 bo24 ty5 rfl rfl (j := 1) rfl rfl (Src_L _) (by decide) (need_t hu5) rfl fun nd => ?_
  refine P1 (p_ncR rfl (fun _ => refOK_of nd (j := 0) rfl rfl)) rfl rfl (P1 (p_faV fs102_0 (by decide) rfl nd (j := 0) rfl rfl) rfl rfl ?_)
  refine TLc.stV (lu := [OL (α := UInt8) b3 (B1 ++ ([c4] : List UInt8))]) nd ty24 rfl (j := 0) rfl rfl rfl (Cells_rs (refOK_of nd (j := 1) rfl rfl)) rfl rfl [OL (α := UInt8) b3 (B1 ++ ([c4] : List UInt8))] rfl fun nd => ?_
  refine TL.nil (hKE _ _ (TL.nil ?_))
  try dsimp only [thenQ]
  refine RetQ_end ?_
  exact retX (v := .tup 0 (ofL [])) res0 (by obtain rfl := some_in hX; exact ⟨b3, rfl, rfl⟩) nd (inH_tup (l := []) trivial) ⟨rowIn_RV ⟨inH_rs nd (j := 1) rfl, trivial⟩, rowIn_RL, trivial⟩

/-- (*cartridge/cartridgeref1.Writer).Int -/
theorem ok_cartridgeref1_Writer_Int (n4 : Int) (B1 : (List UInt8)) (b2 : Nat) (b3 : Nat) (nd : Nd [(b2, RV 102 [OL (α := UInt8) b3 B1]), (b3, RL (α := UInt8) 5 B1)]) (r : (List UInt8)) (hX : X.cartridgeref1_Writer_Int n4 B1 = some r) : TCX Tryd.prog 50 [.ref b2 0 1, Enc.v (n4 : Int)] [(b2, RV 102 [OL (α := UInt8) b3 B1]), (b3, RL (α := UInt8) 5 B1)] (fun rv h' => ∃ b8, rv = .tup 0 (ofL []) ∧ h' = [(b2, RV 102 [OL (α := UInt8) b8 r]), (b8, RL (α := UInt8) 5 r)]) := by
  refine TCX.of b50 (Nat.le_of_ble_eq_true rfl) ?_
  unfold k50
  unfold X.cartridgeref1_Writer_Int at hX
  refine TK.endK fun KE hKE => ?_
  refine SR fun K5 hK5 => M rfl rfl (P1 (p_cvt src3 kd152 rfl (cv_u64 _)) rfl rfl (M rfl rfl (TL.nil (hK5 _ _ ?_))))
  refine TK.reg ?_
  refine M rfl rfl (M rfl rfl (P1 (p_ncR rfl (fun _ => refOK_of nd (j := 0) rfl rfl)) rfl rfl (P1 (p_faV fs102_0 (by decide) rfl nd (j := 0) rfl rfl) rfl rfl (P1 (p_ldV (v := OL b3 B1) ty24 rfl rfl nd (j := 0) rfl rfl rfl rfl rfl) rfl rfl (M rfl rfl (P1 (pu64_shr (a := (u64 n4)) (b := 24) rfl rfl) rfl rfl (P1 (pu64_and (a := (shru64 (u64 n4) 24)) (b := (255 : UInt64)) rfl rfl) rfl rfl ?_)))))))
  refine P1 (p_cvt src152 kd5 rfl (cv_u8 _)) rfl rfl (M rfl rfl (P1 (pu64_shr (a := (u64 n4)) (b := 16) rfl rfl) rfl rfl (P1 (pu64_and (a := (shru64 (u64 n4) 16)) (b := (255 : UInt64)) rfl rfl) rfl rfl (P1 (p_cvt src152 kd5 rfl (cv_u8 _)) rfl rfl (M rfl rfl (P1 (pu64_shr (a := (u64 n4)) (b := 8) rfl rfl) rfl rfl (P1 (pu64_and (a := (shru64 (u64 n4) 8)) (b := (255 : UInt64)) rfl rfl) rfl rfl ?_)))))))
  refine P1 (p_cvt src152 kd5 rfl (cv_u8 _)) rfl rfl (M rfl rfl (P1 (pu64_and (a := (u64 n4)) (b := (255 : UInt64)) rfl rfl) rfl rfl (P1 (p_cvt src152 kd5 rfl (cv_u8 _)) rfl rfl ?_)))
  refine TLc.lit ([(u8 (((shru64 (u64 n4) 24) &&& (255 : UInt64)).toNat : Int)), (u8 (((shru64 (u64 n4) 16) &&& (255 : UInt64)).toNat : Int)), (u8 (((shru64 (u64 n4) 8) &&& (255 : UInt64)).toNat : Int)), (u8 (((u64 n4) &&& (255 : UInt64)).toNat : Int))] : List UInt8) kd24 ty5 rfl ⟨⟨rfl, rfl⟩, ⟨rfl, rfl⟩, ⟨rfl, rfl⟩, ⟨rfl, rfl⟩, trivial⟩ rfl rfl rfl ?_
  obtain ⟨u6, hu6, hX⟩ := bind_some hX
  refine TLc.appO nd kd24 bo24 ty5 rfl rfl (j := 1) rfl rfl (Src_L _) (by decide) (need_t hu6) rfl fun nd => ?_
  refine P1 (p_ncR rfl (fun _ => refOK_of nd (j := 0) rfl rfl)) rfl rfl (P1 (p_faV fs102_0 (by decide) rfl nd (j := 0) rfl rfl) rfl rfl ?_)
  refine TLc.stV (lu := [OL (α := UInt8) b3 (B1 ++ ([(u8 (((shru64 (u64 n4) 24) &&& (255 : UInt64)).toNat : Int)), (u8 (((shru64 (u64 n4) 16) &&& (255 : UInt64)).toNat : Int)), (u8 (((shru64 (u64 n4) 8) &&& (255 : UInt64)).toNat : Int)), (u8 (((u64 n4) &&& (255 : UInt64)).toNat : Int))] : List UInt8))]) nd ty24 rfl (j := 0) rfl rfl rfl (Cells_rs (refOK_of nd (j := 1) rfl rfl)) rfl rfl [OL (α := UInt8) b3 (B1 ++ ([(u8 (((shru64 (u64 n4) 24) &&& (255 : UInt64)).toNat : Int)), (u8 (((shru64 (u64 n4) 16) &&& (255 : UInt64)).toNat : Int)), (u8 (((shru64 (u64 n4) 8) &&& (255 : UInt64)).toNat : Int)), (u8 (((u64 n4) &&& (255 : UInt64)).toNat : Int))] : List UInt8))] rfl fun nd => ?_
  refine TL.nil (hKE _ _ (TL.nil ?_))
  try dsimp only [thenQ]
  refine RetQ_end ?_
  exact retX (v := .tup 0 (ofL [])) res0 (by obtain rfl := some_in hX; exact ⟨b3, rfl, rfl⟩) nd (inH_tup (l := []) trivial) ⟨rowIn_RV ⟨inH_rs nd (j := 1) rfl, trivial⟩, rowIn_RL, trivial⟩

/-- cartridge/cartridgeref1.More -/
theorem ok_cartridgeref1_More (sum1 : UInt32) (b2 : (List UInt8)) (r : UInt32) (hX : X.cartridgeref1_More sum1 b2 = some r) : Fun Tryd.prog 88 [Enc.v (sum1 : UInt32), Enc.v (b2 : (List UInt8))] (· = Enc.v (r : UInt32)) := by
  refine Fun.of b88 (Nat.le_of_ble_eq_true rfl) (allVal.mem ⟨(by exact (v_val _)), (by exact (v_val _)), trivial⟩) ?_
  unfold k88
  have nd : Nd [] := Nd_nil
  unfold X.cartridgeref1_More at hX
  refine SR fun K3 hK3 => M rfl rfl (TL.nil (hK3 _ _ (SR fun K4 hK4 => M rfl rfl (P1 (p32_xor (a := sum1) (b := (4294967295 : UInt32)) rfl rfl) rfl rfl (M rfl rfl (TL.nil (hK4 _ _ ?_)))))))
  refine TK.seq_k fun K5 hK5 => ?_
  refine SR fun K6 hK6 => M rfl rfl (TL.nil (hK6 _ _ ?_))
  refine TK.block ?_
  obtain ⟨o7, hO7, hA7⟩ := bind_some hX
  have E7 : ∀ (c10 : UInt32) (env : Env) (h : Hp), (∃ _u : Unit, keepE [5] env = [(5, true, Enc.v c10)] ∧ Nd [] ∧ HSub [] h) → X.cartridgeref1_More_e7 c10 = some r → K5 env h := by
    intro c10 env h hE hX
    obtain ⟨_u, henv, nd, hs⟩ := hE
    unfold X.cartridgeref1_More_e7 at hX
    refine hK5 _ _ (TK.keep [5] ?_)
    rw [henv]
    refine TK.subH hs ?_
    refine SR fun K11 hK11 => M rfl rfl (P1 (p32_xor (a := c10) (b := (4294967295 : UInt32)) rfl rfl) rfl rfl (M rfl rfl (TL.nil (hK11 _ _ ?_))))
    refine TK.ret ?_
    try dsimp only [thenQ]
    exact R1 rfl hX
  refine TK.iter [1, 5, 6] (fun s env h => match s with | (c8, i9) => ∃ _u : Unit, env = [(1, true, Enc.v b2), (5, true, Enc.v c8), (6, true, Enc.v i9)] ∧ Nd [] ∧ HSub [] h) hO7 ⟨(), rfl, Nd_nil, HSub.refl _⟩ ?_
  rintro ⟨c8, i9⟩ env h x7x ⟨_u, rfl, nd, hs⟩ hX hR7
  refine TK.subH hs ?_
  unfold X.cartridgeref1_More_s7 at hX
  try dsimp only at hX
  refine TK.seq_k fun K12 hK12 => ?_
  refine SR fun K13 hK13 => M rfl rfl (M rfl rfl (P1 (p_lenL (xs := b2) kd24 rfl) rfl rfl (P1 (p_lss rfl rfl) rfl rfl (TL.nil (hK13 _ _ ?_)))))
  refine TK.cond (b := (decide (i9 < (b2.length : Int)))) rfl (fun hc => ?_) (fun hc => ?_)
  · have hX := ite_t hc hX
    refine TK.skip ?_
    refine hK12 _ _ ?_
    refine TK.seq_k fun K14 hK14 => ?_
    refine TK.block ?_
    refine SR fun K15 hK15 => M rfl rfl (M rfl rfl (M rfl rfl ?_))
    obtain ⟨e16, he16, hX⟩ := bind_some hX
    refine P1 (p_iaL (xs := b2) kd24 ty5 rfl rfl rfl (fun _ => he16)) rfl rfl (P1 (p_ldE (xs := b2) (a := e16) (e16 : UInt8) ty5 rfl rfl (fun _ => he16) rfl rfl rfl) rfl rfl (P1 (p_cvt src5 kd106 rfl (cv_u32 _)) rfl rfl (P1 (p32_xor (a := c8) (b := (u32 (e16.toNat : Int))) rfl rfl) rfl rfl (M rfl rfl (TL.nil (hK15 _ _ (SR fun K17 hK17 => M rfl rfl (TL.nil (hK17 _ _ ?_)))))))))
    refine TK.block ?_
    obtain ⟨o18, hO18, hA18⟩ := bind_some hX
    have E18 : ∀ (c21 : UInt32) (env : Env) (h : Hp), (∃ _u : Unit, keepE [1, 5, 6] env = [(1, true, Enc.v b2), (5, true, Enc.v c21), (6, true, Enc.v i9)] ∧ Nd [] ∧ HSub [] h) → X.cartridgeref1_More_e18 i9 c21 = some x7x → K14 env h := by
      intro c21 env h hE hX
      obtain ⟨_u, henv, nd, hs⟩ := hE
      unfold X.cartridgeref1_More_e18 at hX
      refine hK14 _ _ (TK.keep [1, 5, 6] ?_)
      rw [henv]
      refine TK.subH hs ?_
      refine TK.reg ?_
      refine M rfl rfl (P1 (p_add rfl rfl) rfl rfl (M rfl rfl (TL.nil ?_)))
      exact ⟨_, (some_in hX).symm, (), rfl, Nd_nil, HSub.refl _⟩
    refine TK.iter [1, 5, 6, 7] (fun s env h => match s with | (c19, k20) => ∃ _u : Unit, env = [(1, true, Enc.v b2), (5, true, Enc.v c19), (6, true, Enc.v i9), (7, true, Enc.v k20)] ∧ Nd [] ∧ HSub [] h) hO18 ⟨(), rfl, Nd_nil, HSub.refl _⟩ ?_
    rintro ⟨c19, k20⟩ env h x18x ⟨_u, rfl, nd, hs⟩ hX hR18
    refine TK.subH hs ?_
    unfold X.cartridgeref1_More_s18 at hX
    try dsimp only at hX
    refine TK.seq_k fun K22 hK22 => ?_
    refine SR fun K23 hK23 => M rfl rfl (P1 (p_lss rfl rfl) rfl rfl (TL.nil (hK23 _ _ ?_)))
    refine TK.cond (b := (decide (k20 < (8 : Int)))) rfl (fun hc => ?_) (fun hc => ?_)
    · have hX := ite_t hc hX
      refine TK.skip ?_
      refine hK22 _ _ ?_
      refine TK.seq_k fun K24 hK24 => ?_
      have J24 : ∀ (c25 : UInt32) (env : Env) (h : Hp), (∃ _u : Unit, keepE [1, 5, 6, 7] env = [(1, true, Enc.v b2), (5, true, Enc.v c25), (6, true, Enc.v i9), (7, true, Enc.v k20)] ∧ Nd [] ∧ HSub [] h) → X.cartridgeref1_More_j24 k20 c25 = some x18x → K24 env h := by
        intro c25 env h hE hX
        obtain ⟨_u, henv, nd, hs⟩ := hE
        unfold X.cartridgeref1_More_j24 at hX
        refine hK24 _ _ (TK.keep [1, 5, 6, 7] ?_)
        rw [henv]
        refine TK.subH hs ?_
        refine TK.reg ?_
        refine M rfl rfl (P1 (p_add rfl rfl) rfl rfl (M rfl rfl (TL.nil ?_)))
        exact ⟨_, (some_in hX).symm, (), rfl, Nd_nil, HSub.refl _⟩
      refine TK.block ?_
      refine SR fun K26 hK26 => M rfl rfl (P1 (p32_and (a := c19) (b := (1 : UInt32)) rfl rfl) rfl rfl (P1 (p32_eql (a := (c19 &&& (1 : UInt32))) (b := (1 : UInt32)) rfl rfl) rfl rfl (TL.nil (hK26 _ _ ?_))))
      refine TK.cond (b := ((c19 &&& (1 : UInt32)) == (1 : UInt32))) rfl (fun hc => ?_) (fun hc => ?_)
      · have hX := ite_t hc hX
        refine TK.reg ?_
        refine M rfl rfl (P1 (p32_shr (a := c19) (b := 1) rfl rfl) rfl rfl (P1 (p32_xor (a := (shr32 c19 1)) (b := (2197175160 : UInt32)) rfl rfl) rfl rfl (M rfl rfl (TL.nil ?_))))
        exact J24 ((shr32 c19 1) ^^^ (2197175160 : UInt32)) _ _ ⟨(), rfl, Nd_nil, HSub.refl _⟩ hX
      · have hX := ite_f hc hX
        refine TK.reg ?_
        refine M rfl rfl (P1 (p32_shr (a := c19) (b := 1) rfl rfl) rfl rfl (M rfl rfl (TL.nil ?_)))
        exact J24 (shr32 c19 1) _ _ ⟨(), rfl, Nd_nil, HSub.refl _⟩ hX
    · have hX := ite_f hc hX
      refine TK.exit ?_
      obtain rfl := hR18 _ (some_in hX).symm
      exact E18 c19 _ _ ⟨(), rfl, Nd_nil, HSub.refl _⟩ hA18
  · have hX := ite_f hc hX
    refine TK.exit ?_
    obtain rfl := hR7 _ (some_in hX).symm
    exact E7 c8 _ _ ⟨(), rfl, Nd_nil, HSub.refl _⟩ hA7

/-- cartridge/cartridgeref1.Crc -/
theorem ok_cartridgeref1_Crc (b1 : (List UInt8)) (r : UInt32) (hX : X.cartridgeref1_Crc b1 = some r) : Fun Tryd.prog 51 [Enc.v (b1 : (List UInt8))] (· = Enc.v (r : UInt32)) := by
  refine Fun.of b51 (Nat.le_of_ble_eq_true rfl) (allVal.mem ⟨(by exact (v_val _)), trivial⟩) ?_
  unfold k51
  have nd : Nd [] := Nd_nil
  unfold X.cartridgeref1_Crc at hX
  refine SR fun K2 hK2 => M rfl rfl (TL.nil (hK2 _ _ (SR fun K3 hK3 => M rfl rfl ?_)))
  obtain ⟨r4, hr4, hX⟩ := bind_some hX
  refine TL.cvX rfl rfl rfl (fun _ => ⟨rfl, ⟨rfl, ⟨rfl, trivial⟩⟩⟩) (fun e => ok_cartridgeref1_More (0 : UInt32) b1 _ hr4) ?_
  refine M rfl rfl (TL.nil (hK3 _ _ ?_))
  refine TK.ret ?_
  try dsimp only [thenQ]
  exact R1 rfl hX

/-- cartridge/cartridgeref1.PutFrame -/
theorem ok_cartridgeref1_PutFrame_or (u1 : Unit_api) (nd : Nd []) (r : ((List UInt8) × Int)) (hX : X.cartridgeref1_PutFrame_or u1 = some r) : TCX Tryd.prog 19 [Enc.v (u1 : Unit_api)] [] (fun rv h' => ∃ b41, rv = .tup 2 (ofL [OL (α := UInt8) b41 r.1, Enc.v (r.2 : Int)]) ∧ h' = [(b41, RL (α := UInt8) 5 r.1)]) := by
  refine TCX.of b19 (Nat.le_of_ble_eq_true rfl) ?_
  unfold k19
  unfold X.cartridgeref1_PutFrame_or at hX
  refine SR fun K2 hK2 => ?_
  refine TLc.boxV (lu := [Enc.v u1.Kind, Enc.v u1.Label, Enc.v u1.Number, Enc.v u1.Load]) nd rfl (Cells_v (u1 : Unit_api)) rfl ?_
  refine M rfl rfl (M rfl rfl (TL.nil (hK2 _ _ (SR fun K3 hK3 => M rfl rfl (TL.nil (hK3 _ _ ?_))))))
  refine TK.seq_k fun K4 hK4 => ?_
  have J4 : ∀ (most5 : Int) (env : Env) (h : Hp), (∃ _u : Unit, keepE [1, 4] env = [(1, true, .vref (ofL [Enc.v u1.Kind, Enc.v u1.Label, Enc.v u1.Number, Enc.v u1.Load]) 4 0), (4, true, Enc.v most5)] ∧ Nd [] ∧ HSub [] h) → X.cartridgeref1_PutFrame_or_j4 u1 most5 = some r → K4 env h := by
    intro most5 env h hE hX
    obtain ⟨_u, henv, nd, hs⟩ := hE
    unfold X.cartridgeref1_PutFrame_or_j4 at hX
    refine hK4 _ _ (TK.keep [1, 4] ?_)
    rw [henv]
    refine TK.subH hs ?_
    refine TK.seq_k fun K6 hK6 => ?_
    refine TK.block ?_
    refine SR fun K7 hK7 => P1 (p_faR fs42_0 (by decide) rfl) rfl rfl (P1 (p_ldR (v := Enc.v u1.Kind) ty3 rfl rfl rfl rfl rfl rfl) rfl rfl (P1 (p_lss rfl rfl) rfl rfl (M rfl rfl ?_)))
    refine TLc.p (gc := (!((decide (u1.Kind < (1 : Int)))))) (p_faR fs42_0 (by decide) rfl (hg := fun e => rfl)) (gcF1 rfl) rfl ?_
    refine TLc.p (gc := (!((decide (u1.Kind < (1 : Int)))))) (p_ldR (v := Enc.v u1.Kind) ty3 rfl rfl rfl rfl rfl rfl (hg := fun e => e)) (gcF1 rfl) rfl ?_
    refine TLc.p (gc := (!((decide (u1.Kind < (1 : Int)))))) (p_gtr rfl rfl (hg := fun e => ⟨e, rfl⟩)) (gcF1 rfl) rfl ?_
    refine P1 (p_or rfl rfl (fun e => ⟨rfl, fun h => (not_t h)⟩)) rfl rfl (M rfl rfl ?_)
    refine TLc.p (gc := (!(((decide (u1.Kind < (1 : Int))) || (decide (u1.Kind > (6 : Int))))))) (p_faR fs42_1 (by decide) rfl (hg := fun e => rfl)) (gcF1 rfl) rfl ?_
    refine TLc.p (gc := (!(((decide (u1.Kind < (1 : Int))) || (decide (u1.Kind > (6 : Int))))))) (p_ldR (v := Enc.v u1.Label) ty3 rfl rfl rfl rfl rfl rfl (hg := fun e => e)) (gcF1 rfl) rfl ?_
    refine TLc.p (gc := (!(((decide (u1.Kind < (1 : Int))) || (decide (u1.Kind > (6 : Int))))))) (p_lss rfl rfl (hg := fun e => ⟨e, rfl⟩)) (gcF1 rfl) rfl ?_
    refine P1 (p_or rfl rfl (fun e => ⟨rfl, fun h => (not_t h)⟩)) rfl rfl (M rfl rfl ?_)
    refine TLc.p (gc := (!((((decide (u1.Kind < (1 : Int))) || (decide (u1.Kind > (6 : Int)))) || (decide (u1.Label < (1 : Int))))))) (p_faR fs42_1 (by decide) rfl (hg := fun e => rfl)) (gcF1 rfl) rfl ?_
    refine TLc.p (gc := (!((((decide (u1.Kind < (1 : Int))) || (decide (u1.Kind > (6 : Int)))) || (decide (u1.Label < (1 : Int))))))) (p_ldR (v := Enc.v u1.Label) ty3 rfl rfl rfl rfl rfl rfl (hg := fun e => e)) (gcF1 rfl) rfl ?_
    refine TLc.p (gc := (!((((decide (u1.Kind < (1 : Int))) || (decide (u1.Kind > (6 : Int)))) || (decide (u1.Label < (1 : Int))))))) (p_gtr rfl rfl (hg := fun e => ⟨e, rfl⟩)) (gcF1 rfl) rfl ?_
    refine P1 (p_or rfl rfl (fun e => ⟨rfl, fun h => (not_t h)⟩)) rfl rfl (M rfl rfl ?_)
    refine TLc.p (gc := (!(((((decide (u1.Kind < (1 : Int))) || (decide (u1.Kind > (6 : Int)))) || (decide (u1.Label < (1 : Int)))) || (decide (u1.Label > (2147483647 : Int))))))) (p_faR fs42_2 (by decide) rfl (hg := fun e => rfl)) (gcF1 rfl) rfl ?_
    refine TLc.p (gc := (!(((((decide (u1.Kind < (1 : Int))) || (decide (u1.Kind > (6 : Int)))) || (decide (u1.Label < (1 : Int)))) || (decide (u1.Label > (2147483647 : Int))))))) (p_ldR (v := Enc.v u1.Number) ty3 rfl rfl rfl rfl rfl rfl (hg := fun e => e)) (gcF1 rfl) rfl ?_
    refine TLc.p (gc := (!(((((decide (u1.Kind < (1 : Int))) || (decide (u1.Kind > (6 : Int)))) || (decide (u1.Label < (1 : Int)))) || (decide (u1.Label > (2147483647 : Int))))))) (p_lss rfl rfl (hg := fun e => ⟨e, rfl⟩)) (gcF1 rfl) rfl ?_
    refine P1 (p_or rfl rfl (fun e => ⟨rfl, fun h => (not_t h)⟩)) rfl rfl (M rfl rfl ?_)
    refine TLc.p (gc := (!((((((decide (u1.Kind < (1 : Int))) || (decide (u1.Kind > (6 : Int)))) || (decide (u1.Label < (1 : Int)))) || (decide (u1.Label > (2147483647 : Int)))) || (decide (u1.Number < (0 : Int))))))) (p_faR fs42_2 (by decide) rfl (hg := fun e => rfl)) (gcF1 rfl) rfl ?_
    refine TLc.p (gc := (!((((((decide (u1.Kind < (1 : Int))) || (decide (u1.Kind > (6 : Int)))) || (decide (u1.Label < (1 : Int)))) || (decide (u1.Label > (2147483647 : Int)))) || (decide (u1.Number < (0 : Int))))))) (p_ldR (v := Enc.v u1.Number) ty3 rfl rfl rfl rfl rfl rfl (hg := fun e => e)) (gcF1 rfl) rfl ?_
    refine TLc.p (gc := (!((((((decide (u1.Kind < (1 : Int))) || (decide (u1.Kind > (6 : Int)))) || (decide (u1.Label < (1 : Int)))) || (decide (u1.Label > (2147483647 : Int)))) || (decide (u1.Number < (0 : Int))))))) (p_gtr rfl rfl (hg := fun e => ⟨e, rfl⟩)) (gcF1 rfl) rfl ?_
    refine P1 (p_or rfl rfl (fun e => ⟨rfl, fun h => (not_t h)⟩)) rfl rfl (M rfl rfl (TL.nil (hK7 _ _ ?_)))
    refine TK.cond (b := ((((((decide (u1.Kind < (1 : Int))) || (decide (u1.Kind > (6 : Int)))) || (decide (u1.Label < (1 : Int)))) || (decide (u1.Label > (2147483647 : Int)))) || (decide (u1.Number < (0 : Int)))) || (decide (u1.Number > (2147483647 : Int))))) rfl (fun hc => ?_) (fun hc => ?_)
    · have hX := ite_t hc hX
      refine SR fun K8 hK8 => M rfl rfl (M rfl rfl (TL.nil (hK8 _ _ ?_)))
      refine TK.ownL (α := UInt8) 2 5 nd rfl (.inl rfl) fun b9 nd => ?_
      refine TK.ret ?_
      try dsimp only [thenQ]
      exact retX (v := .tup 2 (ofL [OL (α := UInt8) b9 ([] : List UInt8), Enc.v ((1 : Int) : Int)])) (resN (vs := [OL (α := UInt8) b9 ([] : List UInt8), Enc.v ((1 : Int) : Int)]) ⟨rfl, rfl, trivial⟩) (by obtain rfl := some_in hX; exact ⟨b9, rfl, rfl⟩) nd (inH_tup (l := [OL (α := UInt8) b9 ([] : List UInt8), Enc.v ((1 : Int) : Int)]) ⟨inH_rs nd (j := 0) rfl, inH_val (v_val _), trivial⟩) ⟨rowIn_RL, trivial⟩
    · have hX := ite_f hc hX
      refine SR fun K10 hK10 => P1 (p_faR fs42_3 (by decide) rfl) rfl rfl (P1 (p_ldR (v := Enc.v u1.Load) ty24 rfl rfl rfl rfl rfl rfl) rfl rfl (P1 (p_lenL (xs := u1.Load) kd24 rfl) rfl rfl (M rfl rfl (P1 (p_gtr rfl rfl) rfl rfl (M rfl rfl (TL.nil (hK10 _ _ ?_)))))))
      refine TK.cond (b := (decide ((u1.Load.length : Int) > most5))) rfl (fun hc => ?_) (fun hc => ?_)
      · have hX := ite_t hc hX
        refine SR fun K11 hK11 => M rfl rfl (M rfl rfl (TL.nil (hK11 _ _ ?_)))
        refine TK.ownL (α := UInt8) 2 5 nd rfl (.inl rfl) fun b12 nd => ?_
        refine TK.ret ?_
        try dsimp only [thenQ]
        exact retX (v := .tup 2 (ofL [OL (α := UInt8) b12 ([] : List UInt8), Enc.v ((4 : Int) : Int)])) (resN (vs := [OL (α := UInt8) b12 ([] : List UInt8), Enc.v ((4 : Int) : Int)]) ⟨rfl, rfl, trivial⟩) (by obtain rfl := some_in hX; exact ⟨b12, rfl, rfl⟩) nd (inH_tup (l := [OL (α := UInt8) b12 ([] : List UInt8), Enc.v ((4 : Int) : Int)]) ⟨inH_rs nd (j := 0) rfl, inH_val (v_val _), trivial⟩) ⟨rowIn_RL, trivial⟩
      · have hX := ite_f hc hX
        refine TK.skip ?_
        refine hK6 _ _ (SR fun K13 hK13 => P1 (p_bld (l := [.nils]) ty102 rfl all102 rfl (fun _ => trivial)) rfl rfl ?_)
        refine TLc.boxO (lu := [.nils]) nd rfl (Cells_agg rfl (allA.mem ⟨trivial, trivial⟩)) rfl fun b14 nd => ?_
        refine M rfl rfl (TL.nil (hK13 _ _ ?_))
        refine TK.ownC (α := UInt8) nd (j := 0) rfl 0 5 (.inl rfl) fun b15 nd => ?_
        refine SR fun K16 hK16 => M rfl rfl (P1 (p_faR fs42_0 (by decide) rfl) rfl rfl (P1 (p_ldR (v := Enc.v u1.Kind) ty3 rfl rfl rfl rfl rfl rfl) rfl rfl (P1 (p_cvt src3 kd5 rfl (cv_u8 _)) rfl rfl ?_)))
        obtain ⟨r17, hr17, hX⟩ := bind_some hX
        refine TL.pick [1, 0] nd (by decide) fun nd => ?_
        refine TL.tcX [(b14, RV 102 [OL (α := UInt8) b15 ([] : List UInt8)]), (b15, RL (α := UInt8) 5 ([] : List UInt8))] [] rfl nd (dlt rfl) rfl ⟨rfl, ⟨rfl, ⟨rfl, trivial⟩⟩⟩ (ok_cartridgeref1_Writer_Byte (u8 u1.Kind) ([] : List UInt8) b14 b15 (Nd.take nd 2 rfl) _ hr17) ?_
        rintro _ _ hQ nd
        obtain ⟨b19, rfl, rfl⟩ := hQ
        refine TL.nil (hK16 _ _ (SR fun K20 hK20 => M rfl rfl (P1 (p_faR fs42_1 (by decide) rfl) rfl rfl (P1 (p_ldR (v := Enc.v u1.Label) ty3 rfl rfl rfl rfl rfl rfl) rfl rfl ?_))))
        obtain ⟨r21, hr21, hX⟩ := bind_some hX
        refine TL.tcX [(b14, RV 102 [OL b19 r17]), (b19, RL (α := UInt8) 5 r17)] [] rfl nd (dlt rfl) rfl ⟨rfl, ⟨rfl, ⟨rfl, trivial⟩⟩⟩ (ok_cartridgeref1_Writer_Int u1.Label r17 b14 b19 (Nd.take nd 2 rfl) _ hr21) ?_
        rintro _ _ hQ nd
        obtain ⟨b23, rfl, rfl⟩ := hQ
        refine TL.nil (hK20 _ _ (SR fun K24 hK24 => M rfl rfl (P1 (p_faR fs42_2 (by decide) rfl) rfl rfl (P1 (p_ldR (v := Enc.v u1.Number) ty3 rfl rfl rfl rfl rfl rfl) rfl rfl ?_))))
        obtain ⟨r25, hr25, hX⟩ := bind_some hX
        refine TL.tcX [(b14, RV 102 [OL b23 r21]), (b23, RL (α := UInt8) 5 r21)] [] rfl nd (dlt rfl) rfl ⟨rfl, ⟨rfl, ⟨rfl, trivial⟩⟩⟩ (ok_cartridgeref1_Writer_Int u1.Number r21 b14 b23 (Nd.take nd 2 rfl) _ hr25) ?_
        rintro _ _ hQ nd
        obtain ⟨b27, rfl, rfl⟩ := hQ
        refine TL.nil (hK24 _ _ ?_)
        refine TK.seq_k fun K28 hK28 => ?_
        have ndS : Nd [] := Nd.pick nd (is := []) (by decide)
        refine TK.drwX (h := [(b14, RV 102 [OL b27 r25]), (b27, RL (α := UInt8) 5 r25)]) (hS := []) [(0, 0), (0, 1), (1, 2), (1, 3), (1, 4), (0, 5), (0, 6), (0, 7), (0, 8), (0, 9), (0, 10), (0, 11), (0, 12), (0, 13), (0, 14), (0, 15), (2, 16), (1, 17), (1, 18), (2, 19)] mixed (by kernel_rfl) (HSub_app nd) ?_
        refine DM rfl rfl rfl ?_
        refine DM rfl rfl rfl ?_
        refine DR1 (gc := true) rfl (vok_p (C := cx) (p_ncR rfl (fun _ => refOK_of nd (j := 0) rfl rfl))) rfl rfl ?_
        refine DR1 (gc := true) rfl (vok_p (C := cx) (p_faV fs102_0 (by decide) rfl nd (j := 0) rfl rfl)) rfl rfl ?_
        refine DR1 (gc := true) rfl (vok_p (C := cx) (p_ldV (v := OL b27 r25) ty24 rfl rfl nd (j := 0) rfl rfl rfl rfl rfl)) rfl rfl ?_
        refine D0 rfl (p_faR fs42_3 (by decide) rfl) rfl rfl ?_
        refine D0 rfl (p_ldR (v := Enc.v u1.Load) ty24 rfl rfl rfl rfl rfl rfl) rfl rfl ?_
        refine D0 rfl (p_lenL (xs := u1.Load) kd24 rfl) rfl rfl ?_
        refine D0 rfl (p_shr rfl rfl (fun _ => by omega)) rfl rfl ?_
        refine D0 rfl (p_cvt src3 kd5 rfl (cv_u8 _)) rfl rfl ?_
        refine D0 rfl (p_faR fs42_3 (by decide) rfl) rfl rfl ?_
        refine D0 rfl (p_ldR (v := Enc.v u1.Load) ty24 rfl rfl rfl rfl rfl rfl) rfl rfl ?_
        refine D0 rfl (p_lenL (xs := u1.Load) kd24 rfl) rfl rfl ?_
        refine D0 rfl (p_and64 rfl rfl) rfl rfl ?_
        refine D0 rfl (p_cvt src3 kd5 rfl (cv_u8 _)) rfl rfl ?_
        refine DR0 (gc := true) rfl (vok_lit (C := cx) ([(u8 (shr64 (u1.Load.length : Int) ((8 : UInt64).toNat : Int))), (u8 (and64 (u1.Load.length : Int) (255 : Int)))] : List UInt8) kd24 ty5 rfl ⟨⟨rfl, rfl⟩, ⟨rfl, rfl⟩, trivial⟩ rfl rfl) rfl rfl ?_
        obtain ⟨u29, hu29, hX⟩ := bind_some hX
        refine DR2 rfl rfl ?_
        refine TLc.appO nd kd24 bo24 ty5 rfl rfl (j := 1) rfl rfl (Src_L _) (by decide) (need_t hu29) rfl fun nd => ?_
        refine TL.nil ⟨_, [(b14, RV 102 [OL b27 r25]), (b27, RL (α := UInt8) 5 (r25 ++ ([(u8 (shr64 (u1.Load.length : Int) ((8 : UInt64).toNat : Int))), (u8 (and64 (u1.Load.length : Int) (255 : Int)))] : List UInt8)))], rfl, rfl, HSub_app nd, ?_⟩
        refine DR1 (gc := true) rfl (vok_p (C := cx) (p_ncR rfl (fun _ => refOK_of nd (j := 0) rfl rfl))) rfl rfl ?_
        refine DR1 (gc := true) rfl (vok_p (C := cx) (p_faV fs102_0 (by decide) rfl nd (j := 0) rfl rfl)) rfl rfl ?_
        refine DR2n rfl ?_
        refine TLc.stV (lu := [OL (α := UInt8) b27 (r25 ++ ([(u8 (shr64 (u1.Load.length : Int) ((8 : UInt64).toNat : Int))), (u8 (and64 (u1.Load.length : Int) (255 : Int)))] : List UInt8))]) nd ty24 rfl (j := 0) rfl rfl rfl (Cells_rs (refOK_of nd (j := 1) rfl rfl)) rfl rfl [OL (α := UInt8) b27 (r25 ++ ([(u8 (shr64 (u1.Load.length : Int) ((8 : UInt64).toNat : Int))), (u8 (and64 (u1.Load.length : Int) (255 : Int)))] : List UInt8))] rfl fun nd => ?_
        refine TL.nil ⟨.nilp, [(b14, RV 102 [OL (α := UInt8) b27 (r25 ++ ([(u8 (shr64 (u1.Load.length : Int) ((8 : UInt64).toNat : Int))), (u8 (and64 (u1.Load.length : Int) (255 : Int)))] : List UInt8))]), (b27, RL (α := UInt8) 5 (r25 ++ ([(u8 (shr64 (u1.Load.length : Int) ((8 : UInt64).toNat : Int))), (u8 (and64 (u1.Load.length : Int) (255 : Int)))] : List UInt8)))], rfl, rfl, HSub_app nd, ?_⟩
        refine DRend ?_
        refine hK28 _ _ ?_
        refine TK.seq_k fun K30 hK30 => ?_
        have ndS : Nd [] := Nd.pick nd (is := []) (by decide)
        refine TK.drwX (h := [(b14, RV 102 [OL (α := UInt8) b27 (r25 ++ ([(u8 (shr64 (u1.Load.length : Int) ((8 : UInt64).toNat : Int))), (u8 (and64 (u1.Load.length : Int) (255 : Int)))] : List UInt8))]), (b27, RL (α := UInt8) 5 (r25 ++ ([(u8 (shr64 (u1.Load.length : Int) ((8 : UInt64).toNat : Int))), (u8 (and64 (u1.Load.length : Int) (255 : Int)))] : List UInt8)))]) (hS := []) [(0, 0), (0, 1), (1, 2), (1, 3), (1, 4), (0, 5), (0, 6), (2, 7), (1, 8), (1, 9), (2, 10)] mixed (by kernel_rfl) (HSub_app nd) ?_
        refine DM rfl rfl rfl ?_
        refine DM rfl rfl rfl ?_
        refine DR1 (gc := true) rfl (vok_p (C := cx) (p_ncR rfl (fun _ => refOK_of nd (j := 0) rfl rfl))) rfl rfl ?_
        refine DR1 (gc := true) rfl (vok_p (C := cx) (p_faV fs102_0 (by decide) rfl nd (j := 0) rfl rfl)) rfl rfl ?_
        refine DR1 (gc := true) rfl (vok_p (C := cx) (p_ldV (v := OL (α := UInt8) b27 (r25 ++ ([(u8 (shr64 (u1.Load.length : Int) ((8 : UInt64).toNat : Int))), (u8 (and64 (u1.Load.length : Int) (255 : Int)))] : List UInt8))) ty24 rfl rfl nd (j := 0) rfl rfl rfl rfl rfl)) rfl rfl ?_
        refine D0 rfl (p_faR fs42_3 (by decide) rfl) rfl rfl ?_
        refine D0 rfl (p_ldR (v := Enc.v u1.Load) ty24 rfl rfl rfl rfl rfl rfl) rfl rfl ?_
        obtain ⟨u31, hu31, hX⟩ := bind_some hX
        refine DR2 rfl rfl ?_
        refine TLc.appO nd kd24 bo24 ty5 rfl rfl (j := 1) rfl rfl (Src_L _) (by decide) (need_t hu31) rfl fun nd => ?_
        refine TL.nil ⟨_, [(b14, RV 102 [OL (α := UInt8) b27 (r25 ++ ([(u8 (shr64 (u1.Load.length : Int) ((8 : UInt64).toNat : Int))), (u8 (and64 (u1.Load.length : Int) (255 : Int)))] : List UInt8))]), (b27, RL (α := UInt8) 5 ((r25 ++ ([(u8 (shr64 (u1.Load.length : Int) ((8 : UInt64).toNat : Int))), (u8 (and64 (u1.Load.length : Int) (255 : Int)))] : List UInt8)) ++ u1.Load))], rfl, rfl, HSub_app nd, ?_⟩
        refine DR1 (gc := true) rfl (vok_p (C := cx) (p_ncR rfl (fun _ => refOK_of nd (j := 0) rfl rfl))) rfl rfl ?_
        refine DR1 (gc := true) rfl (vok_p (C := cx) (p_faV fs102_0 (by decide) rfl nd (j := 0) rfl rfl)) rfl rfl ?_
        refine DR2n rfl ?_
        refine TLc.stV (lu := [OL (α := UInt8) b27 ((r25 ++ ([(u8 (shr64 (u1.Load.length : Int) ((8 : UInt64).toNat : Int))), (u8 (and64 (u1.Load.length : Int) (255 : Int)))] : List UInt8)) ++ u1.Load)]) nd ty24 rfl (j := 0) rfl rfl rfl (Cells_rs (refOK_of nd (j := 1) rfl rfl)) rfl rfl [OL (α := UInt8) b27 ((r25 ++ ([(u8 (shr64 (u1.Load.length : Int) ((8 : UInt64).toNat : Int))), (u8 (and64 (u1.Load.length : Int) (255 : Int)))] : List UInt8)) ++ u1.Load)] rfl fun nd => ?_
        refine TL.nil ⟨.nilp, [(b14, RV 102 [OL (α := UInt8) b27 ((r25 ++ ([(u8 (shr64 (u1.Load.length : Int) ((8 : UInt64).toNat : Int))), (u8 (and64 (u1.Load.length : Int) (255 : Int)))] : List UInt8)) ++ u1.Load)]), (b27, RL (α := UInt8) 5 ((r25 ++ ([(u8 (shr64 (u1.Load.length : Int) ((8 : UInt64).toNat : Int))), (u8 (and64 (u1.Load.length : Int) (255 : Int)))] : List UInt8)) ++ u1.Load))], rfl, rfl, HSub_app nd, ?_⟩
        refine DRend ?_
        refine hK30 _ _ ?_
        refine TK.seq_k fun K32 hK32 => ?_
        have ndS : Nd [] := Nd.pick nd (is := []) (by decide)
        refine TK.drwX (h := [(b14, RV 102 [OL (α := UInt8) b27 ((r25 ++ ([(u8 (shr64 (u1.Load.length : Int) ((8 : UInt64).toNat : Int))), (u8 (and64 (u1.Load.length : Int) (255 : Int)))] : List UInt8)) ++ u1.Load)]), (b27, RL (α := UInt8) 5 ((r25 ++ ([(u8 (shr64 (u1.Load.length : Int) ((8 : UInt64).toNat : Int))), (u8 (and64 (u1.Load.length : Int) (255 : Int)))] : List UInt8)) ++ u1.Load))]) (hS := []) [(0, 0), (0, 1), (1, 2), (1, 3), (1, 4), (0, 5), (0, 6), (0, 7), (0, 8), (0, 9), (2, 10), (1, 11), (1, 12), (2, 13)] mixed (by kernel_rfl) (HSub_app nd) ?_
        refine DM rfl rfl rfl ?_
        refine DM rfl rfl rfl ?_
        refine DR1 (gc := true) rfl (vok_p (C := cx) (p_ncR rfl (fun _ => refOK_of nd (j := 0) rfl rfl))) rfl rfl ?_
        refine DR1 (gc := true) rfl (vok_p (C := cx) (p_faV fs102_0 (by decide) rfl nd (j := 0) rfl rfl)) rfl rfl ?_
        refine DR1 (gc := true) rfl (vok_p (C := cx) (p_ldV (v := OL (α := UInt8) b27 ((r25 ++ ([(u8 (shr64 (u1.Load.length : Int) ((8 : UInt64).toNat : Int))), (u8 (and64 (u1.Load.length : Int) (255 : Int)))] : List UInt8)) ++ u1.Load)) ty24 rfl rfl nd (j := 0) rfl rfl rfl rfl rfl)) rfl rfl ?_
        refine DM rfl rfl rfl ?_
        refine D0 rfl (p_faR fs42_3 (by decide) rfl) rfl rfl ?_
        refine D0 rfl (p_ldR (v := Enc.v u1.Load) ty24 rfl rfl rfl rfl rfl rfl) rfl rfl ?_
        refine D0 rfl (p_lenL (xs := u1.Load) kd24 rfl) rfl rfl ?_
        refine D0 rfl (p_sub rfl rfl) rfl rfl ?_
        obtain ⟨u33, hu33, hX⟩ := bind_some hX
        refine DR2 rfl rfl ?_
        refine TLc.appOZ nd (0 : UInt8) kd24 kd3 ty5 rfl (fun j hj => by (have : j = 0 := by simpa [Enc.sz] using hj); subst this; rfl) rfl (j := 1) rfl rfl (need_t hu33).1 (by decide) (need_t hu33).2 rfl fun nd => ?_
        refine TL.nil ⟨_, [(b14, RV 102 [OL (α := UInt8) b27 ((r25 ++ ([(u8 (shr64 (u1.Load.length : Int) ((8 : UInt64).toNat : Int))), (u8 (and64 (u1.Load.length : Int) (255 : Int)))] : List UInt8)) ++ u1.Load)]), (b27, RL (α := UInt8) 5 (((r25 ++ ([(u8 (shr64 (u1.Load.length : Int) ((8 : UInt64).toNat : Int))), (u8 (and64 (u1.Load.length : Int) (255 : Int)))] : List UInt8)) ++ u1.Load) ++ (List.replicate (wr (most5 - (u1.Load.length : Int))).toNat (0 : UInt8))))], rfl, rfl, HSub_app nd, ?_⟩
        refine DR1 (gc := true) rfl (vok_p (C := cx) (p_ncR rfl (fun _ => refOK_of nd (j := 0) rfl rfl))) rfl rfl ?_
        refine DR1 (gc := true) rfl (vok_p (C := cx) (p_faV fs102_0 (by decide) rfl nd (j := 0) rfl rfl)) rfl rfl ?_
        refine DR2n rfl ?_
        refine TLc.stV (lu := [OL (α := UInt8) b27 (((r25 ++ ([(u8 (shr64 (u1.Load.length : Int) ((8 : UInt64).toNat : Int))), (u8 (and64 (u1.Load.length : Int) (255 : Int)))] : List UInt8)) ++ u1.Load) ++ (List.replicate (wr (most5 - (u1.Load.length : Int))).toNat (0 : UInt8)))]) nd ty24 rfl (j := 0) rfl rfl rfl (Cells_rs (refOK_of nd (j := 1) rfl rfl)) rfl rfl [OL (α := UInt8) b27 (((r25 ++ ([(u8 (shr64 (u1.Load.length : Int) ((8 : UInt64).toNat : Int))), (u8 (and64 (u1.Load.length : Int) (255 : Int)))] : List UInt8)) ++ u1.Load) ++ (List.replicate (wr (most5 - (u1.Load.length : Int))).toNat (0 : UInt8)))] rfl fun nd => ?_
        refine TL.nil ⟨.nilp, [(b14, RV 102 [OL (α := UInt8) b27 (((r25 ++ ([(u8 (shr64 (u1.Load.length : Int) ((8 : UInt64).toNat : Int))), (u8 (and64 (u1.Load.length : Int) (255 : Int)))] : List UInt8)) ++ u1.Load) ++ (List.replicate (wr (most5 - (u1.Load.length : Int))).toNat (0 : UInt8)))]), (b27, RL (α := UInt8) 5 (((r25 ++ ([(u8 (shr64 (u1.Load.length : Int) ((8 : UInt64).toNat : Int))), (u8 (and64 (u1.Load.length : Int) (255 : Int)))] : List UInt8)) ++ u1.Load) ++ (List.replicate (wr (most5 - (u1.Load.length : Int))).toNat (0 : UInt8))))], rfl, rfl, HSub_app nd, ?_⟩
        refine DRend ?_
        refine hK32 _ _ (SR fun K34 hK34 => M rfl rfl (M rfl rfl (P1 (p_ncR rfl (fun _ => refOK_of nd (j := 0) rfl rfl)) rfl rfl (P1 (p_faV fs102_0 (by decide) rfl nd (j := 0) rfl rfl) rfl rfl ?_))))
        refine P1 (p_ldV (v := OL (α := UInt8) b27 (((r25 ++ ([(u8 (shr64 (u1.Load.length : Int) ((8 : UInt64).toNat : Int))), (u8 (and64 (u1.Load.length : Int) (255 : Int)))] : List UInt8)) ++ u1.Load) ++ (List.replicate (wr (most5 - (u1.Load.length : Int))).toNat (0 : UInt8)))) ty24 rfl rfl nd (j := 0) rfl rfl rfl rfl rfl) rfl rfl ?_
        obtain ⟨r35, hr35, hX⟩ := bind_some hX
        refine TL.lookX [L (((r25 ++ ([(u8 (shr64 (u1.Load.length : Int) ((8 : UInt64).toNat : Int))), (u8 (and64 (u1.Load.length : Int) (255 : Int)))] : List UInt8)) ++ u1.Load) ++ (List.replicate (wr (most5 - (u1.Load.length : Int))).toNat (0 : UInt8)))] rfl rfl rfl (fun _ => ⟨rfl, ⟨rfl, trivial⟩⟩) ⟨look_OL nd (j := 1) rfl, trivial⟩ (fun e => ok_cartridgeref1_Crc (((r25 ++ ([(u8 (shr64 (u1.Load.length : Int) ((8 : UInt64).toNat : Int))), (u8 (and64 (u1.Load.length : Int) (255 : Int)))] : List UInt8)) ++ u1.Load) ++ (List.replicate (wr (most5 - (u1.Load.length : Int))).toNat (0 : UInt8))) _ hr35) (trivial) ?_
        refine P1 (p_cvt src106 kd3 rfl (cv_32 r35)) rfl rfl ?_
        obtain ⟨r36, hr36, hX⟩ := bind_some hX
        refine TL.tcX [(b14, RV 102 [OL (α := UInt8) b27 (((r25 ++ ([(u8 (shr64 (u1.Load.length : Int) ((8 : UInt64).toNat : Int))), (u8 (and64 (u1.Load.length : Int) (255 : Int)))] : List UInt8)) ++ u1.Load) ++ (List.replicate (wr (most5 - (u1.Load.length : Int))).toNat (0 : UInt8)))]), (b27, RL (α := UInt8) 5 (((r25 ++ ([(u8 (shr64 (u1.Load.length : Int) ((8 : UInt64).toNat : Int))), (u8 (and64 (u1.Load.length : Int) (255 : Int)))] : List UInt8)) ++ u1.Load) ++ (List.replicate (wr (most5 - (u1.Load.length : Int))).toNat (0 : UInt8))))] [] rfl nd (dlt rfl) rfl ⟨rfl, ⟨rfl, ⟨rfl, trivial⟩⟩⟩ (ok_cartridgeref1_Writer_Int (r35.toNat : Int) (((r25 ++ ([(u8 (shr64 (u1.Load.length : Int) ((8 : UInt64).toNat : Int))), (u8 (and64 (u1.Load.length : Int) (255 : Int)))] : List UInt8)) ++ u1.Load) ++ (List.replicate (wr (most5 - (u1.Load.length : Int))).toNat (0 : UInt8))) b14 b27 (Nd.take nd 2 rfl) _ hr36) ?_
        rintro _ _ hQ nd
        obtain ⟨b38, rfl, rfl⟩ := hQ
        refine TL.nil (hK34 _ _ (SR fun K39 hK39 => M rfl rfl (P1 (p_ncR rfl (fun _ => refOK_of nd (j := 0) rfl rfl)) rfl rfl (P1 (p_faV fs102_0 (by decide) rfl nd (j := 0) rfl rfl) rfl rfl (P1 (p_ldV (v := OL b38 r36) ty24 rfl rfl nd (j := 0) rfl rfl rfl rfl rfl) rfl rfl (M rfl rfl (M rfl rfl (TL.nil (hK39 _ _ ?_)))))))))
        refine TK.pick [1] nd (by decide) fun nd => ?_
        refine TK.ret ?_
        try dsimp only [thenQ]
        exact retX (v := .tup 2 (ofL [OL b38 r36, Enc.v ((0 : Int) : Int)])) (resN (vs := [OL b38 r36, Enc.v ((0 : Int) : Int)]) ⟨rfl, rfl, trivial⟩) (by obtain rfl := some_in hX; exact ⟨b38, rfl, rfl⟩) nd (inH_tup (l := [OL b38 r36, Enc.v ((0 : Int) : Int)]) ⟨inH_rs nd (j := 0) rfl, inH_val (v_val _), trivial⟩) ⟨rowIn_RL, trivial⟩
  refine SR fun K40 hK40 => P1 (p_faR fs42_0 (by decide) rfl) rfl rfl (P1 (p_ldR (v := Enc.v u1.Kind) ty3 rfl rfl rfl rfl rfl rfl) rfl rfl (P1 (p_eql rfl rfl) rfl rfl (TL.nil (hK40 _ _ ?_))))
  refine TK.cond (b := (u1.Kind == (6 : Int))) rfl (fun hc => ?_) (fun hc => ?_)
  · have hX := ite_t hc hX
    refine TK.reg ?_
    refine M rfl rfl (TL.nil ?_)
    exact J4 (79 : Int) _ _ ⟨(), rfl, Nd_nil, HSub.refl _⟩ hX
  · have hX := ite_f hc hX
    refine TK.skip ?_
    exact J4 (64 : Int) _ _ ⟨(), rfl, Nd_nil, HSub.refl _⟩ hX

/-- cartridge/cartridgeref1.PathParts -/
theorem ok_cartridgeref1_PathParts (s1 : Str) (r : (List Str)) (hX : X.cartridgeref1_PathParts s1 = some r) : Fun Tryd.prog 100 [Enc.v (s1 : Str)] (· = Enc.v (r : (List Str))) := by
  refine Fun.of b100 (Nat.le_of_ble_eq_true rfl) (allVal.mem ⟨(by exact (v_val _)), trivial⟩) ?_
  unfold k100
  have nd : Nd [] := Nd_nil
  unfold X.cartridgeref1_PathParts at hX
  refine SR fun K2 hK2 => M rfl rfl (TL.nil (hK2 _ _ ?_))
  refine TK.seq_k fun K3 hK3 => ?_
  refine SR fun K4 hK4 => M rfl rfl (P1 (p_lenS (s := s1) kd9 rfl) rfl rfl (P1 (p_lss rfl rfl) rfl rfl (M rfl rfl ?_)))
  refine TLc.p (gc := (!((decide ((s1.l.length : Int) < (1 : Int)))))) (p_mv rfl (hg := fun e => rfl)) (gcF1 rfl) rfl ?_
  refine TLc.p (gc := (!((decide ((s1.l.length : Int) < (1 : Int)))))) (p_lenS (s := s1) kd9 rfl (hg := fun e => e)) (gcF1 rfl) rfl ?_
  refine TLc.p (gc := (!((decide ((s1.l.length : Int) < (1 : Int)))))) (p_gtr rfl rfl (hg := fun e => ⟨e, rfl⟩)) (gcF1 rfl) rfl ?_
  refine P1 (p_or rfl rfl (fun e => ⟨rfl, fun h => (not_t h)⟩)) rfl rfl (TL.nil (hK4 _ _ ?_))
  refine TK.cond (b := ((decide ((s1.l.length : Int) < (1 : Int))) || (decide ((s1.l.length : Int) > (24 : Int))))) rfl (fun hc => ?_) (fun hc => ?_)
  · have hX := ite_t hc hX
    refine SR fun K5 hK5 => M rfl rfl (TL.nil (hK5 _ _ ?_))
    refine TK.wk 2 (L ([] : (List Str))) rfl Wk_nil ?_
    refine TK.ret ?_
    try dsimp only [thenQ]
    exact R1 rfl hX
  · have hX := ite_f hc hX
    refine TK.skip ?_
    refine hK3 _ _ (SR fun K6 hK6 => M rfl rfl (TL.nil (hK6 _ _ ?_)))
    refine TK.ownL (α := Str) 3 9 nd rfl (.inl rfl) fun b7 nd => ?_
    refine SR fun K8 hK8 => M rfl rfl (TL.nil (hK8 _ _ ?_))
    refine TK.seq_k fun K9 hK9 => ?_
    refine SR fun K10 hK10 => M rfl rfl (TL.nil (hK10 _ _ ?_))
    refine TK.block ?_
    obtain ⟨o11, hO11, hA11⟩ := bind_some hX
    have E11 : ∀ (l17 : List Str) (env : Env) (h : Hp), (∃ b16, keepE [3] env = [(3, true, OL b16 l17)] ∧ Nd [(b16, RL (α := Str) 9 l17)] ∧ HSub [(b16, RL (α := Str) 9 l17)] h) → X.cartridgeref1_PathParts_e11 l17 = some r → K9 env h := by
      intro l17 env h hE hX
      obtain ⟨b16, henv, nd, hs⟩ := hE
      unfold X.cartridgeref1_PathParts_e11 at hX
      refine hK9 _ _ (TK.keep [3] ?_)
      rw [henv]
      refine TK.subH hs ?_
      refine SR fun K18 hK18 => M rfl rfl (M rfl rfl (TL.nil (hK18 _ _ ?_)))
      refine TK.lay [(2, L l17)] nd (j := 0) rfl ⟨⟨_, rfl, fix_OL nd (j := 0) rfl, rfl⟩, trivial⟩ fun nd => ?_
      refine TK.ret ?_
      try dsimp only [thenQ]
      exact R1 rfl hX
    refine TK.iter [0, 3, 4, 5] (fun s env h => match s with | (l13, w14, i15) => ∃ b12, env = [(0, true, Enc.v s1), (3, true, OL b12 l13), (4, true, Enc.v w14), (5, true, Enc.v i15)] ∧ Nd [(b12, RL (α := Str) 9 l13)] ∧ HSub [(b12, RL (α := Str) 9 l13)] h) hO11 ⟨b7, rfl, (Nd.pick nd (is := [0]) (by decide)), (HSub.pick nd (is := [0]) (by decide))⟩ ?_
    rintro ⟨l13, w14, i15⟩ env h x11x ⟨b12, rfl, nd, hs⟩ hX hR11
    refine TK.subH hs ?_
    unfold X.cartridgeref1_PathParts_s11 at hX
    try dsimp only at hX
    refine TK.seq_k fun K19 hK19 => ?_
    refine SR fun K20 hK20 => M rfl rfl (M rfl rfl (P1 (p_lenS (s := s1) kd9 rfl) rfl rfl (P1 (p_leq rfl rfl) rfl rfl (TL.nil (hK20 _ _ ?_)))))
    refine TK.cond (b := (decide (i15 ≤ (s1.l.length : Int)))) rfl (fun hc => ?_) (fun hc => ?_)
    · have hX := ite_t hc hX
      refine TK.skip ?_
      refine hK19 _ _ ?_
      refine TK.seq_k fun K21 hK21 => ?_
      have J21 : ∀ (l23 : List Str) (w24 : Str) (env : Env) (h : Hp), (∃ b22, keepE [0, 3, 4, 5] env = [(0, true, Enc.v s1), (3, true, OL b22 l23), (4, true, Enc.v w24), (5, true, Enc.v i15)] ∧ Nd [(b22, RL (α := Str) 9 l23)] ∧ HSub [(b22, RL (α := Str) 9 l23)] h) → X.cartridgeref1_PathParts_j21 i15 l23 w24 = some x11x → K21 env h := by
        intro l23 w24 env h hE hX
        obtain ⟨b22, henv, nd, hs⟩ := hE
        unfold X.cartridgeref1_PathParts_j21 at hX
        refine hK21 _ _ (TK.keep [0, 3, 4, 5] ?_)
        rw [henv]
        refine TK.subH hs ?_
        refine TK.reg ?_
        refine M rfl rfl (P1 (p_add rfl rfl) rfl rfl (M rfl rfl (TL.nil ?_)))
        exact ⟨_, (some_in hX).symm, b22, rfl, (Nd.pick nd (is := [0]) (by decide)), (HSub.pick nd (is := [0]) (by decide))⟩
      refine TK.block ?_
      refine TK.seq_k fun K25 hK25 => ?_
      refine SR fun K26 hK26 => M rfl rfl (M rfl rfl (P1 (p_lenS (s := s1) kd9 rfl) rfl rfl (P1 (p_eql rfl rfl) rfl rfl (M rfl rfl ?_))))
      refine TLc.p (gc := (!((i15 == (s1.l.length : Int))))) (p_mv rfl (hg := fun e => rfl)) (gcF1 rfl) rfl ?_
      refine TLc.p (gc := (!((i15 == (s1.l.length : Int))))) (p_mv rfl (hg := fun e => rfl)) (gcF1 rfl) rfl ?_
      obtain ⟨x27, hx27, hX⟩ := bind_some hX
      refine TLc.p (gc := (!((i15 == (s1.l.length : Int))))) (p_ix kd9 rfl rfl (fun e => optG_t hx27 e) (hg := fun e => ⟨e, e⟩)) (gcF1 rfl) rfl ?_
      refine TLc.p (gc := (!((i15 == (s1.l.length : Int))))) (p8_eql (a := x27) (b := (47 : UInt8)) rfl rfl (hg := fun e => ⟨e, rfl⟩)) (gcF1 rfl) rfl ?_
      refine P1 (p_or rfl rfl (fun e => ⟨rfl, fun h => (not_t h)⟩)) rfl rfl (TL.nil (hK26 _ _ ?_))
      refine TK.cond (b := ((i15 == (s1.l.length : Int)) || (x27 == (47 : UInt8)))) rfl (fun hc => ?_) (fun hc => ?_)
      · have hX := ite_t hc hX
        refine TK.seq_k fun K28 hK28 => ?_
        refine SR fun K29 hK29 => M rfl rfl (P1 (ps_eql (s := w14) (r := (Str.mk [])) rfl rfl) rfl rfl (M rfl rfl ?_))
        refine TLc.p (gc := (!((w14.l == (Str.mk []).l)))) (p_mv rfl (hg := fun e => rfl)) (gcF1 rfl) rfl ?_
        refine TLc.p (gc := (!((w14.l == (Str.mk []).l)))) (ps_eql (s := w14) (r := (Str.mk [46])) rfl rfl (hg := fun e => ⟨e, rfl⟩)) (gcF1 rfl) rfl ?_
        refine P1 (p_or rfl rfl (fun e => ⟨rfl, fun h => (not_t h)⟩)) rfl rfl (M rfl rfl ?_)
        refine TLc.p (gc := (!(((w14.l == (Str.mk []).l) || (w14.l == (Str.mk [46]).l))))) (p_mv rfl (hg := fun e => rfl)) (gcF1 rfl) rfl ?_
        refine TLc.p (gc := (!(((w14.l == (Str.mk []).l) || (w14.l == (Str.mk [46]).l))))) (ps_eql (s := w14) (r := (Str.mk [46, 46])) rfl rfl (hg := fun e => ⟨e, rfl⟩)) (gcF1 rfl) rfl ?_
        refine P1 (p_or rfl rfl (fun e => ⟨rfl, fun h => (not_t h)⟩)) rfl rfl (TL.nil (hK29 _ _ ?_))
        refine TK.cond (b := (((w14.l == (Str.mk []).l) || (w14.l == (Str.mk [46]).l)) || (w14.l == (Str.mk [46, 46]).l))) rfl (fun hc => ?_) (fun hc => ?_)
        · have hX := ite_t hc hX
          refine SR fun K30 hK30 => M rfl rfl (TL.nil (hK30 _ _ ?_))
          refine TK.wk 2 (L ([] : (List Str))) rfl Wk_nil ?_
          refine TK.ret ?_
          obtain rfl := hR11 _ (some_in hX).symm
          replace hX := hA11
          try dsimp only [thenQ]
          exact R1 rfl hX
        · have hX := ite_f hc hX
          refine TK.skip ?_
          refine hK28 _ _ (SR fun K31 hK31 => M rfl rfl (M rfl rfl ?_))
          refine TLc.lit ([w14] : List Str) kd80 ty9 rfl ⟨⟨rfl, rfl⟩, trivial⟩ rfl rfl rfl ?_
          obtain ⟨u33, hu33, hX⟩ := bind_some hX
          refine TLc.appO nd kd80 bo80 ty9 rfl rfl (j := 0) rfl rfl (Src_L _) (by decide) (need_t hu33) rfl fun nd => ?_
          refine M rfl rfl (TL.nil (hK31 _ _ (SR fun K34 hK34 => M rfl rfl (TL.nil (hK34 _ _ ?_)))))
          refine TK.exit ?_
          exact J21 (l13 ++ ([w14] : List Str)) (Str.mk []) _ _ ⟨b12, rfl, (Nd.pick nd (is := [0]) (by decide)), (HSub.pick nd (is := [0]) (by decide))⟩ hX
      · have hX := ite_f hc hX
        refine TK.skip ?_
        refine hK25 _ _ (SR fun K35 hK35 => M rfl rfl (M rfl rfl ?_))
        obtain ⟨x36, hx36, hX⟩ := bind_some hX
        refine P1 (p_ix kd9 rfl rfl (fun _ => hx36)) rfl rfl (M rfl rfl (TL.nil (hK35 _ _ ?_)))
        refine TK.seq_k fun K37 hK37 => ?_
        refine SR fun K38 hK38 => M rfl rfl (P1 (p8_geq (a := x36) (b := (97 : UInt8)) rfl rfl) rfl rfl (M rfl rfl ?_))
        refine TLc.p (gc := ((decide (x36 ≥ (97 : UInt8))))) (p_mv rfl (hg := fun e => rfl)) (gcT1 rfl) rfl ?_
        refine TLc.p (gc := ((decide (x36 ≥ (97 : UInt8))))) (p8_leq (a := x36) (b := (122 : UInt8)) rfl rfl (hg := fun e => ⟨e, rfl⟩)) (gcT1 rfl) rfl ?_
        refine P1 (p_and rfl rfl (fun e => ⟨rfl, fun h => h⟩)) rfl rfl (M rfl rfl ?_)
        refine TLc.p (gc := (!(((decide (x36 ≥ (97 : UInt8))) && (decide (x36 ≤ (122 : UInt8))))))) (p_mv rfl (hg := fun e => rfl)) (gcF1 rfl) rfl ?_
        refine TLc.p (gc := (!(((decide (x36 ≥ (97 : UInt8))) && (decide (x36 ≤ (122 : UInt8))))))) (p8_geq (a := x36) (b := (48 : UInt8)) rfl rfl (hg := fun e => ⟨e, rfl⟩)) (gcF1 rfl) rfl ?_
        refine TLc.p (gc := (!(((decide (x36 ≥ (97 : UInt8))) && (decide (x36 ≤ (122 : UInt8))))))) (p_mv rfl (hg := fun e => e)) (gcF1 rfl) rfl ?_
        refine TLc.p (gc := ((!(((decide (x36 ≥ (97 : UInt8))) && (decide (x36 ≤ (122 : UInt8)))))) && ((decide (x36 ≥ (48 : UInt8)))))) (p_mv rfl (hg := fun e => rfl)) (gcT rfl) rfl ?_
        refine TLc.p (gc := ((!(((decide (x36 ≥ (97 : UInt8))) && (decide (x36 ≤ (122 : UInt8)))))) && ((decide (x36 ≥ (48 : UInt8)))))) (p8_leq (a := x36) (b := (57 : UInt8)) rfl rfl (hg := fun e => ⟨e, rfl⟩)) (gcT rfl) rfl ?_
        refine TLc.p (gc := (!(((decide (x36 ≥ (97 : UInt8))) && (decide (x36 ≤ (122 : UInt8))))))) (p_and rfl rfl (fun e => ⟨e, fun h => (and_i e h)⟩)) (gcF1 rfl) rfl ?_
        refine P1 (p_or rfl rfl (fun e => ⟨rfl, fun h => (not_t h)⟩)) rfl rfl (M rfl rfl ?_)
        refine TLc.p (gc := (!((((decide (x36 ≥ (97 : UInt8))) && (decide (x36 ≤ (122 : UInt8)))) || ((decide (x36 ≥ (48 : UInt8))) && (decide (x36 ≤ (57 : UInt8)))))))) (p_mv rfl (hg := fun e => rfl)) (gcF1 rfl) rfl ?_
        refine TLc.p (gc := (!((((decide (x36 ≥ (97 : UInt8))) && (decide (x36 ≤ (122 : UInt8)))) || ((decide (x36 ≥ (48 : UInt8))) && (decide (x36 ≤ (57 : UInt8)))))))) (p8_eql (a := x36) (b := (46 : UInt8)) rfl rfl (hg := fun e => ⟨e, rfl⟩)) (gcF1 rfl) rfl ?_
        refine P1 (p_or rfl rfl (fun e => ⟨rfl, fun h => (not_t h)⟩)) rfl rfl (M rfl rfl ?_)
        refine TLc.p (gc := (!(((((decide (x36 ≥ (97 : UInt8))) && (decide (x36 ≤ (122 : UInt8)))) || ((decide (x36 ≥ (48 : UInt8))) && (decide (x36 ≤ (57 : UInt8))))) || (x36 == (46 : UInt8)))))) (p_mv rfl (hg := fun e => rfl)) (gcF1 rfl) rfl ?_
        refine TLc.p (gc := (!(((((decide (x36 ≥ (97 : UInt8))) && (decide (x36 ≤ (122 : UInt8)))) || ((decide (x36 ≥ (48 : UInt8))) && (decide (x36 ≤ (57 : UInt8))))) || (x36 == (46 : UInt8)))))) (p8_eql (a := x36) (b := (45 : UInt8)) rfl rfl (hg := fun e => ⟨e, rfl⟩)) (gcF1 rfl) rfl ?_
        refine P1 (p_or rfl rfl (fun e => ⟨rfl, fun h => (not_t h)⟩)) rfl rfl (M rfl rfl ?_)
        refine TLc.p (gc := (!((((((decide (x36 ≥ (97 : UInt8))) && (decide (x36 ≤ (122 : UInt8)))) || ((decide (x36 ≥ (48 : UInt8))) && (decide (x36 ≤ (57 : UInt8))))) || (x36 == (46 : UInt8))) || (x36 == (45 : UInt8)))))) (p_mv rfl (hg := fun e => rfl)) (gcF1 rfl) rfl ?_
        refine TLc.p (gc := (!((((((decide (x36 ≥ (97 : UInt8))) && (decide (x36 ≤ (122 : UInt8)))) || ((decide (x36 ≥ (48 : UInt8))) && (decide (x36 ≤ (57 : UInt8))))) || (x36 == (46 : UInt8))) || (x36 == (45 : UInt8)))))) (p8_eql (a := x36) (b := (95 : UInt8)) rfl rfl (hg := fun e => ⟨e, rfl⟩)) (gcF1 rfl) rfl ?_
        refine P1 (p_or rfl rfl (fun e => ⟨rfl, fun h => (not_t h)⟩)) rfl rfl (P1 (p_not rfl) rfl rfl (TL.nil (hK38 _ _ ?_)))
        refine TK.cond (b := (!((((((decide (x36 ≥ (97 : UInt8))) && (decide (x36 ≤ (122 : UInt8)))) || ((decide (x36 ≥ (48 : UInt8))) && (decide (x36 ≤ (57 : UInt8))))) || (x36 == (46 : UInt8))) || (x36 == (45 : UInt8))) || (x36 == (95 : UInt8))))) rfl (fun hc => ?_) (fun hc => ?_)
        · have hX := ite_t hc hX
          refine SR fun K39 hK39 => M rfl rfl (TL.nil (hK39 _ _ ?_))
          refine TK.wk 2 (L ([] : (List Str))) rfl Wk_nil ?_
          refine TK.ret ?_
          obtain rfl := hR11 _ (some_in hX).symm
          replace hX := hA11
          try dsimp only [thenQ]
          exact R1 rfl hX
        · have hX := ite_f hc hX
          refine TK.skip ?_
          refine hK37 _ _ ?_
          refine TK.reg ?_
          refine M rfl rfl (M rfl rfl (M rfl rfl (M rfl rfl (P1 (p_add rfl rfl) rfl rfl ?_))))
          obtain ⟨u40, hu40, hX⟩ := bind_some hX
          refine P1 (p_sliS (s := s1) (l := i15) (k := (wr (i15 + (1 : Int)))) kd9 rfl rfl (fun n hn => rfl) (fun e => need_t hu40)) rfl rfl ?_
          obtain ⟨u41, hu41, hX⟩ := bind_some hX
          refine P1 (ps_add (s := w14) (r := (Str.mk (slc s1.l i15 (wr (i15 + (1 : Int)))))) rfl rfl (hl := fun e => need_t hu41)) rfl rfl (M rfl rfl (TL.nil ?_))
          exact J21 l13 (Str.mk (w14.l ++ (Str.mk (slc s1.l i15 (wr (i15 + (1 : Int))))).l)) _ _ ⟨b12, rfl, (Nd.pick nd (is := [0]) (by decide)), (HSub.pick nd (is := [0]) (by decide))⟩ hX
    · have hX := ite_f hc hX
      refine TK.exit ?_
      obtain rfl := hR11 _ (some_in hX).symm
      exact E11 l13 _ _ ⟨b12, rfl, (Nd.pick nd (is := [0]) (by decide)), (HSub.pick nd (is := [0]) (by decide))⟩ hA11

/-- cartridge/cartridgeref1.RightPath -/
theorem ok_cartridgeref1_RightPath (s1 : Str) (r : Bool) (hX : X.cartridgeref1_RightPath s1 = some r) : Fun Tryd.prog 67 [Enc.v (s1 : Str)] (· = Enc.v (r : Bool)) := by
  refine Fun.of b67 (Nat.le_of_ble_eq_true rfl) (allVal.mem ⟨(by exact (v_val _)), trivial⟩) ?_
  unfold k67
  have nd : Nd [] := Nd_nil
  unfold X.cartridgeref1_RightPath at hX
  refine SR fun K2 hK2 => M rfl rfl (TL.nil (hK2 _ _ (SR fun K3 hK3 => M rfl rfl ?_)))
  obtain ⟨r4, hr4, hX⟩ := bind_some hX
  refine TL.cvX rfl rfl rfl (fun _ => ⟨rfl, ⟨rfl, trivial⟩⟩) (fun e => ok_cartridgeref1_PathParts s1 _ hr4) ?_
  refine P1 (p_lenL (xs := r4) kd80 rfl) rfl rfl (P1 (p_gtr rfl rfl) rfl rfl (M rfl rfl (TL.nil (hK3 _ _ ?_))))
  refine TK.ret ?_
  try dsimp only [thenQ]
  exact R1 rfl hX

end Go.Proofs.YtliahlgkinhjlaaDoor
