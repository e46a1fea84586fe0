import Derived.Test.YtliahlgkinhjlaaDoorXFn
import Derived.Test.YtliahlgkinhjlaaDoorXS
import Derived.Test.YtliahlgkinhjlaaDoorAmK0
/- That they do. -/
namespace Go.Proofs.YtliahlgkinhjlaaDoor
open Go.AM Go.AX
set_option linter.unusedVariables false
set_option maxRecDepth 20000

/-- slices.IndexFunc[[]cartridge/api.Part,cartridge/api.Part] -/
theorem ok_slices_IndexFunc_Lapi_Part_api_Part (s1 : (List Part_api)) (g2 : Part_api → Option Bool) (r : Int) (hX : X.slices_IndexFunc_Lapi_Part_api_Part s1 g2 = some r) {g2V : AV} (hg2V : ∃ f m c, g2V = .fn f m c ∧ (∀ i, i < m → (c i).val) ∧ ∀ (a0 : Part_api) r, g2 a0 = some r → Fun Tryd.prog f ([Enc.v a0] ++ (List.range m).map c) (· = Enc.v r)) : Fun Tryd.prog 108 [Enc.v (s1 : (List Part_api)), g2V] (· = Enc.v (r : Int)) := by
  obtain ⟨g2f, g2m, g2c, rfl, hg2v, hg2⟩ := hg2V
  refine Fun.of b108 (Nat.le_of_ble_eq_true rfl) (allVal.mem ⟨(by exact (v_val _)), hg2v, trivial⟩) ?_
  unfold k108
  have nd : Nd [] := Nd_nil
  unfold X.slices_IndexFunc_Lapi_Part_api_Part at hX
  refine SR fun K3 hK3 => M rfl rfl (TL.nil (hK3 _ _ ?_))
  refine TK.seq_k fun K4 hK4 => ?_
  refine SR fun K5 hK5 => M rfl rfl (P1 (p_lenL (xs := s1) kd44 rfl) rfl rfl (M rfl rfl (TL.nil (hK5 _ _ ?_))))
  refine TK.block ?_
  obtain ⟨o6, hO6, hA6⟩ := bind_some hX
  have E6 : ∀ (env : Env) (h : Hp), (∃ _u : Unit, keepE [] env = [] ∧ Nd [] ∧ HSub [] h) → X.slices_IndexFunc_Lapi_Part_api_Part_e6 = some r → K4 env h := by
    intro  env h hE hX
    obtain ⟨_u, henv, nd, hs⟩ := hE
    unfold X.slices_IndexFunc_Lapi_Part_api_Part_e6 at hX
    refine hK4 _ _ (TK.keep [] ?_)
    rw [henv]
    refine TK.subH hs ?_
    refine SR fun K8 hK8 => M rfl rfl (TL.nil (hK8 _ _ ?_))
    refine TK.ret ?_
    try dsimp only [thenQ]
    exact ret1 (v := Enc.v (((-1) : Int) : Int)) rfl (by obtain rfl := some_in hX; rfl) (v_val _)
  refine TK.iter [0, 1, 7, 8] (fun s env h => match s with | x7 => ∃ _u : Unit, env = [(0, true, Enc.v (s1 : (List Part_api))), (1, true, .fn g2f g2m g2c), (7, true, Enc.v ((s1.length : Int) : Int)), (8, true, Enc.v (x7 : Int))] ∧ Nd [] ∧ HSub [] h) hO6 ⟨(), rfl, Nd_nil, HSub.refl _⟩ ?_
  rintro x7 env h x6x ⟨_u, rfl, nd, hs⟩ hX hR6
  refine TK.subH hs ?_
  unfold X.slices_IndexFunc_Lapi_Part_api_Part_s6 at hX
  try dsimp only at hX
  refine SR fun K9 hK9 => P1 (p_lss rfl rfl) rfl rfl (TL.nil (hK9 _ _ ?_))
  refine TK.seq_k fun K10 hK10 => ?_
  refine TK.cond (b := (decide (x7 < (s1.length : Int)))) rfl (fun hc => ?_) (fun hc => ?_)
  · have hX := ite_t hc hX
    refine TK.skip ?_
    refine hK10 _ _ ?_
    refine TK.seq_k fun K11 hK11 => ?_
    refine TK.block ?_
    refine SR fun K12 hK12 => M rfl rfl (M rfl rfl (TL.nil (hK12 _ _ (SR fun K13 hK13 => M rfl rfl (M rfl rfl (M rfl rfl ?_))))))
    obtain ⟨e14, he14, hX⟩ := bind_some hX
    refine P1 (p_iaL (xs := s1) kd44 ty48 rfl rfl rfl (fun _ => he14)) rfl rfl (P1 (p_ldE (xs := s1) (a := e14) (e14 : Part_api) ty48 rfl rfl (fun _ => he14) rfl rfl rfl) rfl rfl ?_)
    obtain ⟨r15, hr15, hX⟩ := bind_some hX
    refine TL.cvX rfl rfl rfl (fun _ => ⟨rfl, ⟨rfl, trivial⟩⟩) (fun e => hg2 e14 _ hr15) ?_
    refine TL.nil (hK13 _ _ ?_)
    refine TK.cond (b := r15) rfl (fun hc => ?_) (fun hc => ?_)
    · have hX := ite_t hc hX
      refine SR fun K16 hK16 => M rfl rfl (M rfl rfl (TL.nil (hK16 _ _ ?_)))
      refine TK.ret ?_
      obtain rfl := hR6 _ (some_in hX).symm
      replace hX := hA6
      try dsimp only [thenQ]
      exact ret1 (v := Enc.v (x7 : Int)) rfl (by obtain rfl := some_in hX; rfl) (v_val _)
    · have hX := ite_f hc hX
      refine TK.skip ?_
      refine hK11 _ _ ?_
      refine TK.reg ?_
      refine P1 (p_add rfl rfl) rfl rfl (M rfl rfl (TL.nil ?_))
      exact ⟨_, (some_in hX).symm, (), rfl, Nd_nil, HSub.refl _⟩
  · have hX := ite_f hc hX
    refine TK.exit ?_
    obtain rfl := hR6 _ (some_in hX).symm
    exact E6 _ _ ⟨(), rfl, Nd_nil, HSub.refl _⟩ hA6

/-- slices.ContainsFunc[[]cartridge/api.Part,cartridge/api.Part] -/
theorem ok_slices_ContainsFunc_Lapi_Part_api_Part (s1 : (List Part_api)) (g2 : Part_api → Option Bool) (r : Bool) (hX : X.slices_ContainsFunc_Lapi_Part_api_Part s1 g2 = some r) {g2V : AV} (hg2V : ∃ f m c, g2V = .fn f m c ∧ (∀ i, i < m → (c i).val) ∧ ∀ (a0 : Part_api) r, g2 a0 = some r → Fun Tryd.prog f ([Enc.v a0] ++ (List.range m).map c) (· = Enc.v r)) : Fun Tryd.prog 77 [Enc.v (s1 : (List Part_api)), g2V] (· = Enc.v (r : Bool)) := by
  obtain ⟨g2f, g2m, g2c, rfl, hg2v, hg2⟩ := hg2V
  refine Fun.of b77 (Nat.le_of_ble_eq_true rfl) (allVal.mem ⟨(by exact (v_val _)), hg2v, trivial⟩) ?_
  unfold k77
  have nd : Nd [] := Nd_nil
  unfold X.slices_ContainsFunc_Lapi_Part_api_Part at hX
  refine SR fun K3 hK3 => M rfl rfl (TL.nil (hK3 _ _ (SR fun K4 hK4 => M rfl rfl (M rfl rfl ?_))))
  obtain ⟨r5, hr5, hX⟩ := bind_some hX
  refine TL.cvX rfl rfl rfl (fun _ => ⟨rfl, ⟨rfl, ⟨rfl, trivial⟩⟩⟩) (fun e => ok_slices_IndexFunc_Lapi_Part_api_Part s1 g2 _ hr5 ⟨_, _, _, rfl, hg2v, hg2⟩) ?_
  refine P1 (p_geq rfl rfl) rfl rfl (M rfl rfl (TL.nil (hK4 _ _ ?_)))
  refine TK.ret ?_
  try dsimp only [thenQ]
  exact ret1 (v := Enc.v ((decide (r5 ≥ (0 : Int))) : Bool)) rfl (by obtain rfl := some_in hX; rfl) (v_val _)

/-- cartridge/catalog.key -/
theorem bc_catalog_key : BodyC cx 72 6 [.c 2 23] k72 := ⟨Enters.of Tryd.func72 (by kernel_rfl) (by kernel_rfl), _, _, Tryd.func72, rfl, by kernel_rfl, rfl, rfl⟩
theorem ok_catalog_key (h1 : Head_api) (r : Head_api) (hX : X.catalog_key h1 = some r) : Fun Tryd.prog 72 [Enc.v (h1 : Head_api)] (· = Enc.v (r : Head_api)) := by
  refine Fun.ofC (C := cx) bc_catalog_key (Nat.le_of_ble_eq_true rfl) (allVal.mem ⟨(by exact (v_val _)), trivial⟩) ?_
  unfold k72
  have nd : Nd [] := Nd_nil
  unfold X.catalog_key at hX
  refine SR fun K2 hK2 => ?_
  refine TL.boxO (C := cx) (lu := [Enc.v (h1.Path : Str), Enc.v (h1.Version : Int), Enc.v (h1.Size : Int), Enc.v (h1.From : Int), Enc.v (h1.Len : Int), Enc.v (h1.Serial : Int), Enc.v (h1.Sum : Int), Enc.v (h1.Gone : Bool)]) nd rfl (Cells_v (h1 : Head_api)) rfl fun b3 nd => ?_
  refine TL.alO (C := cx) (l := [Enc.v ((Str.mk []) : Str), Enc.v ((0 : Int) : Int), Enc.v ((0 : Int) : Int), Enc.v ((0 : Int) : Int), Enc.v ((0 : Int) : Int), Enc.v ((0 : Int) : Int), Enc.v ((0 : Int) : Int), Enc.v (false : Bool)]) nd ty23 ti23_z rfl rfl fun b4 nd => ?_
  refine TL.nil (hK2 _ _ (SR fun K5 hK5 => P1 (p_faV fs23_3 (by decide) rfl nd (j := 1) rfl rfl) rfl rfl ?_))
  refine TL.stV (C := cx) (lu := Enc.cl ((0 : Int) : Int)) nd ty3 rfl (j := 1) rfl rfl rfl (Cells_v ((0 : Int) : Int)) rfl rfl [Enc.v (h1.Path : Str), Enc.v (h1.Version : Int), Enc.v (h1.Size : Int), Enc.v ((0 : Int) : Int), Enc.v (h1.Len : Int), Enc.v (h1.Serial : Int), Enc.v (h1.Sum : Int), Enc.v (h1.Gone : Bool)] rfl fun nd => ?_
  refine P1 (p_faV fs23_4 (by decide) rfl nd (j := 1) rfl rfl) rfl rfl ?_
  refine TL.stV (C := cx) (lu := Enc.cl ((0 : Int) : Int)) nd ty3 rfl (j := 1) rfl rfl rfl (Cells_v ((0 : Int) : Int)) rfl rfl [Enc.v (h1.Path : Str), Enc.v (h1.Version : Int), Enc.v (h1.Size : Int), Enc.v ((0 : Int) : Int), Enc.v ((0 : Int) : Int), Enc.v (h1.Serial : Int), Enc.v (h1.Sum : Int), Enc.v (h1.Gone : Bool)] rfl fun nd => ?_
  refine TL.nil (hK5 _ _ (SR fun K6 hK6 => P1 (p_ldVa (l' := Enc.cl ((Head_api.mk h1.Path h1.Version h1.Size (0 : Int) (0 : Int) h1.Serial h1.Sum h1.Gone) : Head_api)) ty23 rfl rfl nd (j := 1) rfl rfl rfl rfl (Nat.le_of_ble_eq_true rfl)) rfl rfl ?_))
  refine TL.stV (C := cx) (lu := Enc.cl ((Head_api.mk h1.Path h1.Version h1.Size (0 : Int) (0 : Int) h1.Serial h1.Sum h1.Gone) : Head_api)) nd ty23 rfl (j := 0) rfl rfl rfl (Cells_v ((Head_api.mk h1.Path h1.Version h1.Size (0 : Int) (0 : Int) h1.Serial h1.Sum h1.Gone) : Head_api)) rfl rfl [Enc.v ((Head_api.mk h1.Path h1.Version h1.Size (0 : Int) (0 : Int) h1.Serial h1.Sum h1.Gone).Path : Str), Enc.v ((Head_api.mk h1.Path h1.Version h1.Size (0 : Int) (0 : Int) h1.Serial h1.Sum h1.Gone).Version : Int), Enc.v ((Head_api.mk h1.Path h1.Version h1.Size (0 : Int) (0 : Int) h1.Serial h1.Sum h1.Gone).Size : Int), Enc.v ((Head_api.mk h1.Path h1.Version h1.Size (0 : Int) (0 : Int) h1.Serial h1.Sum h1.Gone).From : Int), Enc.v ((Head_api.mk h1.Path h1.Version h1.Size (0 : Int) (0 : Int) h1.Serial h1.Sum h1.Gone).Len : Int), Enc.v ((Head_api.mk h1.Path h1.Version h1.Size (0 : Int) (0 : Int) h1.Serial h1.Sum h1.Gone).Serial : Int), Enc.v ((Head_api.mk h1.Path h1.Version h1.Size (0 : Int) (0 : Int) h1.Serial h1.Sum h1.Gone).Sum : Int), Enc.v ((Head_api.mk h1.Path h1.Version h1.Size (0 : Int) (0 : Int) h1.Serial h1.Sum h1.Gone).Gone : Bool)] rfl fun nd => ?_
  refine TL.nil (hK6 _ _ ?_)
  refine TK.ret ?_
  try dsimp only [thenQ]
  exact retC [Enc.v ((Head_api.mk h1.Path h1.Version h1.Size (0 : Int) (0 : Int) h1.Serial h1.Sum h1.Gone) : Head_api)] ⟨p_ldVa (l' := Enc.cl ((Head_api.mk h1.Path h1.Version h1.Size (0 : Int) (0 : Int) h1.Serial h1.Sum h1.Gone) : Head_api)) ty23 rfl rfl nd (j := 0) rfl rfl rfl rfl (Nat.le_of_ble_eq_true rfl), trivial⟩ (by obtain rfl := some_in hX; rfl) (v_val _)

/-- cartridge/catalog.Whole$1 -/
theorem ok_catalog_Whole_c1 (p1 : Part_api) (c2 : (List Part_api)) (r : Bool) (hX : X.catalog_Whole_c1 p1 c2 = some r) : Fun Tryd.prog 78 [Enc.v (p1 : Part_api), .vref (ofL [Enc.v (c2 : (List Part_api))]) 1 0] (· = Enc.v (r : Bool)) := by
  refine Fun.of b78 (Nat.le_of_ble_eq_true rfl) (allVal.mem ⟨(by exact (v_val _)), (by exact (vref_val (l := [Enc.v (c2 : (List Part_api))]) rfl ⟨(v_val _), trivial⟩)), trivial⟩) ?_
  unfold k78
  have nd : Nd [] := Nd_nil
  unfold X.catalog_Whole_c1 at hX
  refine SR fun K3 hK3 => ?_
  refine TL.boxV (C := cx) (lu := [Enc.v (p1.Head.Path : Str), Enc.v (p1.Head.Version : Int), Enc.v (p1.Head.Size : Int), Enc.v (p1.Head.From : Int), Enc.v (p1.Head.Len : Int), Enc.v (p1.Head.Serial : Int), Enc.v (p1.Head.Sum : Int), Enc.v (p1.Head.Gone : Bool), Enc.v (p1.Label : Int), Enc.v (p1.Block : Int)]) nd rfl (Cells_v (p1 : Part_api)) rfl ?_
  refine M rfl rfl (TL.nil (hK3 _ _ ?_))
  refine TK.seq_k fun K4 hK4 => ?_
  have ndS : Nd [] := Nd.pick nd (is := []) (by decide)
  refine TK.drwX (h := []) (hS := []) [(0, 0), (0, 1), (0, 2), (0, 3), (0, 4), (0, 5), (0, 6), (0, 7), (0, 8), (0, 9)] mixed (by kernel_rfl) (HSub_app nd) ?_
  refine DR0 (gc := true) rfl (vok_p (C := cx) (p_faR fs48_0 (by decide) rfl)) rfl rfl ?_
  refine DR0 (gc := true) rfl (vok_p (C := cx) (p_ldRa (l' := Enc.cl (p1.Head : Head_api)) ty23 rfl rfl rfl rfl rfl (Nat.le_of_ble_eq_true rfl))) rfl rfl ?_
  obtain ⟨r5, hr5, hX⟩ := bind_some hX
  refine DR0 (gc := true) rfl (vok_c rfl (fun _ => ⟨rfl, ⟨rfl, trivial⟩⟩) (fun e => ok_catalog_key p1.Head _ hr5)) rfl rfl ?_
  refine DR0 (gc := true) rfl (vok_p (C := cx) (p_ldR (v := Enc.v (c2 : (List Part_api))) ty44 rfl rfl rfl rfl rfl rfl)) rfl rfl ?_
  obtain ⟨e6, he6, hX⟩ := bind_some hX
  refine DR0 (gc := true) rfl (vok_p (C := cx) (p_iaL (xs := c2) kd44 ty48 rfl rfl rfl (fun _ => he6))) rfl rfl ?_
  refine DR0 (gc := true) rfl (vok_p (C := cx) (p_faE fs48_0 (by decide) rfl)) rfl rfl ?_
  refine DR0 (gc := true) rfl (vok_p (C := cx) (p_ldE (xs := c2) (a := e6) (e6.Head : Head_api) ty23 rfl rfl (fun _ => he6) rfl rfl rfl)) rfl rfl ?_
  obtain ⟨r7, hr7, hX⟩ := bind_some hX
  refine DR0 (gc := true) rfl (vok_c rfl (fun _ => ⟨rfl, ⟨rfl, trivial⟩⟩) (fun e => ok_catalog_key e6.Head _ hr7)) rfl rfl ?_
  refine DR0 (gc := true) rfl (vok_p (C := cx) (p_neT kd23 rfl rfl (eqT23 r5 r7))) rfl rfl ?_
  refine DR0 (gc := true) rfl (vok_p (C := cx) (p_mv rfl)) rfl rfl ?_
  refine DRend ?_
  refine hK4 _ _ ?_
  refine TK.ret ?_
  try dsimp only [thenQ]
  exact ret1 (v := Enc.v ((!(r5 == r7)) : Bool)) rfl (by obtain rfl := some_in hX; rfl) (v_val _)

/-- cartridge/catalog.next$1 -/
theorem ok_catalog_next_c1 (p1 : Part_api) (c2 : Int) (r : Bool) (hX : X.catalog_next_c1 p1 c2 = some r) : Fun Tryd.prog 145 [Enc.v (p1 : Part_api), .vref (ofL [Enc.v (c2 : Int)]) 1 0] (· = Enc.v (r : Bool)) := by
  refine Fun.of b145 (Nat.le_of_ble_eq_true rfl) (allVal.mem ⟨(by exact (v_val _)), (by exact (vref_val (l := [Enc.v (c2 : Int)]) rfl ⟨(v_val _), trivial⟩)), trivial⟩) ?_
  unfold k145
  have nd : Nd [] := Nd_nil
  unfold X.catalog_next_c1 at hX
  refine SR fun K3 hK3 => ?_
  refine TL.boxV (C := cx) (lu := [Enc.v (p1.Head.Path : Str), Enc.v (p1.Head.Version : Int), Enc.v (p1.Head.Size : Int), Enc.v (p1.Head.From : Int), Enc.v (p1.Head.Len : Int), Enc.v (p1.Head.Serial : Int), Enc.v (p1.Head.Sum : Int), Enc.v (p1.Head.Gone : Bool), Enc.v (p1.Label : Int), Enc.v (p1.Block : Int)]) nd rfl (Cells_v (p1 : Part_api)) rfl ?_
  refine M rfl rfl (TL.nil (hK3 _ _ (SR fun K4 hK4 => P1 (p_faR fs48_0 (by decide) rfl) rfl rfl (P1 (p_faR fs23_3 (by decide) rfl) rfl rfl (P1 (p_ldR (v := Enc.v (p1.Head.From : Int)) ty3 rfl rfl rfl rfl rfl rfl) rfl rfl (P1 (p_ldR (v := Enc.v (c2 : Int)) ty3 rfl rfl rfl rfl rfl rfl) rfl rfl (P1 (p_eql rfl rfl) rfl rfl (M rfl rfl ?_))))))))
  refine TL.p (C := cx) (gc := ((p1.Head.From == c2))) (p_faR fs48_0 (by decide) rfl (hg := fun e => rfl)) (gcT1 rfl) rfl ?_
  refine TL.p (C := cx) (gc := ((p1.Head.From == c2))) (p_faR fs23_2 (by decide) rfl (hg := fun e => e)) (gcT1 rfl) rfl ?_
  refine TL.p (C := cx) (gc := ((p1.Head.From == c2))) (p_ldR (v := Enc.v (p1.Head.Size : Int)) ty3 rfl rfl rfl rfl rfl rfl (hg := fun e => e)) (gcT1 rfl) rfl ?_
  refine TL.p (C := cx) (gc := ((p1.Head.From == c2))) (p_eql rfl rfl (hg := fun e => ⟨e, rfl⟩)) (gcT1 rfl) rfl ?_
  refine TL.p (C := cx) (gc := ((p1.Head.From == c2))) (p_mv rfl (hg := fun e => e)) (gcT1 rfl) rfl ?_
  refine TL.p (C := cx) (gc := (((p1.Head.From == c2)) && (!((p1.Head.Size == (0 : Int)))))) (p_faR fs48_0 (by decide) rfl (hg := fun e => rfl)) (gcF rfl) rfl ?_
  refine TL.p (C := cx) (gc := (((p1.Head.From == c2)) && (!((p1.Head.Size == (0 : Int)))))) (p_faR fs23_4 (by decide) rfl (hg := fun e => e)) (gcF rfl) rfl ?_
  refine TL.p (C := cx) (gc := (((p1.Head.From == c2)) && (!((p1.Head.Size == (0 : Int)))))) (p_ldR (v := Enc.v (p1.Head.Len : Int)) ty3 rfl rfl rfl rfl rfl rfl (hg := fun e => e)) (gcF rfl) rfl ?_
  refine TL.p (C := cx) (gc := (((p1.Head.From == c2)) && (!((p1.Head.Size == (0 : Int)))))) (p_gtr rfl rfl (hg := fun e => ⟨e, rfl⟩)) (gcF rfl) rfl ?_
  refine TL.p (C := cx) (gc := ((p1.Head.From == c2))) (p_or rfl rfl (fun e => ⟨e, fun h => (and_i e (not_t h))⟩)) (gcT1 rfl) rfl ?_
  refine P1 (p_and rfl rfl (fun e => ⟨rfl, fun h => h⟩)) rfl rfl (M rfl rfl (TL.nil (hK4 _ _ ?_)))
  refine TK.ret ?_
  try dsimp only [thenQ]
  exact ret1 (v := Enc.v (((p1.Head.From == c2) && ((p1.Head.Size == (0 : Int)) || (decide (p1.Head.Len > (0 : Int))))) : Bool)) rfl (by obtain rfl := some_in hX; rfl) (v_val _)

/-- cartridge/catalog.next -/
theorem ok_catalog_next (parts1 : (List Part_api)) (at2 : Int) (r : Int) (hX : X.catalog_next parts1 at2 = some r) : Fun Tryd.prog 109 [Enc.v (parts1 : (List Part_api)), Enc.v (at2 : Int)] (· = Enc.v (r : Int)) := by
  refine Fun.of b109 (Nat.le_of_ble_eq_true rfl) (allVal.mem ⟨(by exact (v_val _)), (by exact (v_val _)), trivial⟩) ?_
  unfold k109
  have nd : Nd [] := Nd_nil
  unfold X.catalog_next at hX
  refine SR fun K3 hK3 => ?_
  refine TL.boxV (C := cx) (lu := [Enc.v (at2 : Int)]) nd rfl (Cells_v (at2 : Int)) rfl ?_
  refine M rfl rfl (TL.nil (hK3 _ _ (SR fun K4 hK4 => M rfl rfl (P1 (p_mf (l := [.vref (ofL [Enc.v (at2 : Int)]) 1 0]) rfl (fun _ => ⟨rfl, trivial⟩)) rfl rfl ?_))))
  obtain ⟨r5, hr5, hX⟩ := bind_some hX
  refine TL.cvX rfl rfl rfl (fun _ => ⟨rfl, ⟨rfl, ⟨rfl, trivial⟩⟩⟩) (fun e => ok_slices_IndexFunc_Lapi_Part_api_Part parts1 (fun a1 => X.catalog_next_c1 a1 at2) _ hr5 ⟨145, 1, ofL [.vref (ofL [Enc.v (at2 : Int)]) 1 0], rfl, (caps_val rfl ⟨(vref_val (l := [Enc.v (at2 : Int)]) rfl ⟨(v_val _), trivial⟩), trivial⟩), fun a1 r hr => ok_catalog_next_c1 a1 at2 r hr⟩) ?_
  refine M rfl rfl (TL.nil (hK4 _ _ ?_))
  refine TK.ret ?_
  try dsimp only [thenQ]
  exact ret1 (v := Enc.v (r5 : Int)) rfl (by obtain rfl := some_in hX; rfl) (v_val _)

/-- cartridge/catalog.chain -/
theorem ok_catalog_chain (parts1 : (List Part_api)) (r : ((List Part_api) × Bool)) (hX : X.catalog_chain parts1 = some r) : Fun Tryd.prog 79 [Enc.v (parts1 : (List Part_api))] (· = .tup 2 (ofL [Enc.v r.1, Enc.v r.2])) := by
  refine Fun.of b79 (Nat.le_of_ble_eq_true rfl) (allVal.mem ⟨(by exact (v_val _)), trivial⟩) ?_
  unfold k79
  have nd : Nd [] := Nd_nil
  unfold X.catalog_chain at hX
  refine SR fun K2 hK2 => M rfl rfl (M rfl rfl (TL.nil (hK2 _ _ (SR fun K3 hK3 => M rfl rfl ?_))))
  obtain ⟨e4, he4, hX⟩ := bind_some hX
  refine P1 (p_iaL (xs := parts1) kd44 ty48 rfl rfl rfl (fun _ => he4)) rfl rfl (P1 (p_faE fs48_0 (by decide) rfl) rfl rfl (P1 (p_faE fs23_2 (by decide) rfl) rfl rfl (P1 (p_ldE (xs := parts1) (a := e4) (e4.Head.Size : Int) ty3 rfl rfl (fun _ => he4) rfl rfl rfl) rfl rfl (M rfl rfl (TL.nil (hK3 _ _ (SR fun K5 hK5 => M rfl rfl (TL.nil (hK5 _ _ ?_)))))))))
  refine TK.ownL (α := Part_api) 5 48 nd rfl (.inl rfl) fun b6 nd => ?_
  refine TK.seq_k fun K7 hK7 => ?_
  refine SR fun K8 hK8 => M rfl rfl (TL.nil (hK8 _ _ ?_))
  refine TK.block ?_
  obtain ⟨o9, hO9, hA9⟩ := bind_some hX
  have E9 : ∀ (env : Env) (h : Hp), (∃ _u : Unit, keepE [] env = [] ∧ Nd [] ∧ HSub [] h) → X.catalog_chain_e9 = some r → K7 env h := by
    intro  env h hE hX
    obtain ⟨_u, henv, nd, hs⟩ := hE
    unfold X.catalog_chain_e9 at hX
    refine hK7 _ _ (TK.keep [] ?_)
    rw [henv]
    refine TK.subH hs ?_
    refine SR fun K13 hK13 => M rfl rfl (M rfl rfl (TL.nil (hK13 _ _ ?_)))
    refine TK.wk 2 (L ([] : (List Part_api))) rfl Wk_nil ?_
    refine TK.ret ?_
    try dsimp only [thenQ]
    exact retN (vs := [Enc.v (([] : (List Part_api)) : (List Part_api)), Enc.v (false : Bool)]) ⟨rfl, rfl, trivial⟩ (by obtain rfl := some_in hX; rfl) (allVal.mem ⟨v_val _, v_val _, trivial⟩)
  refine TK.iter [0, 4, 5, 6] (fun s env h => match s with | (out11, at12) => ∃ b10, env = [(0, true, Enc.v (parts1 : (List Part_api))), (4, true, Enc.v (e4.Head.Size : Int)), (5, true, OL (α := Part_api) b10 out11), (6, true, Enc.v (at12 : Int))] ∧ Nd [(b10, RL (α := Part_api) 48 out11)] ∧ HSub [(b10, RL (α := Part_api) 48 out11)] h) hO9 ⟨b6, rfl, (Nd.pick nd (is := [0]) (by decide)), (HSub.pick nd (is := [0]) (by decide))⟩ ?_
  rintro ⟨out11, at12⟩ env h x9x ⟨b10, rfl, nd, hs⟩ hX hR9
  refine TK.subH hs ?_
  unfold X.catalog_chain_s9 at hX
  try dsimp only at hX
  refine TK.seq_k fun K14 hK14 => ?_
  refine SR fun K15 hK15 => M rfl rfl (P1 (p_geq rfl rfl) rfl rfl (TL.nil (hK15 _ _ ?_)))
  refine TK.cond (b := (decide (e4.Head.Size ≥ (0 : Int)))) rfl (fun hc => ?_) (fun hc => ?_)
  · have hX := ite_t hc hX
    refine TK.skip ?_
    refine hK14 _ _ ?_
    refine TK.block ?_
    refine SR fun K16 hK16 => M rfl rfl (M rfl rfl ?_)
    obtain ⟨r17, hr17, hX⟩ := bind_some hX
    refine TL.cvX rfl rfl rfl (fun _ => ⟨rfl, ⟨rfl, ⟨rfl, trivial⟩⟩⟩) (fun e => ok_catalog_next parts1 at12 _ hr17) ?_
    refine M rfl rfl (TL.nil (hK16 _ _ ?_))
    refine TK.seq_k fun K18 hK18 => ?_
    refine SR fun K19 hK19 => M rfl rfl (P1 (p_lss rfl rfl) rfl rfl (M rfl rfl ?_))
    refine TL.p (C := cx) (gc := (!((decide (r17 < (0 : Int)))))) (p_mv rfl (hg := fun e => rfl)) (gcF1 rfl) rfl ?_
    refine TL.p (C := cx) (gc := (!((decide (r17 < (0 : Int)))))) (p_mv rfl (hg := fun e => rfl)) (gcF1 rfl) rfl ?_
    obtain ⟨e20, he20, hX⟩ := bind_some hX
    refine TL.p (C := cx) (gc := (!((decide (r17 < (0 : Int)))))) (p_iaL (xs := parts1) kd44 ty48 rfl rfl rfl (fun e => optG_t he20 e) (hg := fun e => ⟨e, e⟩)) (gcF1 rfl) rfl ?_
    refine TL.p (C := cx) (gc := (!((decide (r17 < (0 : Int)))))) (p_faE fs48_0 (by decide) rfl (hg := fun e => e)) (gcF1 rfl) rfl ?_
    refine TL.p (C := cx) (gc := (!((decide (r17 < (0 : Int)))))) (p_faE fs23_4 (by decide) rfl (hg := fun e => e)) (gcF1 rfl) rfl ?_
    refine TL.p (C := cx) (gc := (!((decide (r17 < (0 : Int)))))) (p_ldE (xs := parts1) (a := e20) (e20.Head.Len : Int) ty3 rfl rfl (fun e => optG_t he20 e) rfl rfl rfl (hg := fun e => e)) (gcF1 rfl) rfl ?_
    refine TL.p (C := cx) (gc := (!((decide (r17 < (0 : Int)))))) (p_mv rfl (hg := fun e => rfl)) (gcF1 rfl) rfl ?_
    refine TL.p (C := cx) (gc := (!((decide (r17 < (0 : Int)))))) (p_mv rfl (hg := fun e => rfl)) (gcF1 rfl) rfl ?_
    refine TL.p (C := cx) (gc := (!((decide (r17 < (0 : Int)))))) (p_sub rfl rfl (hg := fun e => ⟨e, e⟩)) (gcF1 rfl) rfl ?_
    refine TL.p (C := cx) (gc := (!((decide (r17 < (0 : Int)))))) (p_gtr rfl rfl (hg := fun e => ⟨e, e⟩)) (gcF1 rfl) rfl ?_
    refine P1 (p_or rfl rfl (fun e => ⟨rfl, fun h => (not_t h)⟩)) rfl rfl (TL.nil (hK19 _ _ ?_))
    refine TK.cond (b := ((decide (r17 < (0 : Int))) || (decide (e20.Head.Len > (wr (e4.Head.Size - at12)))))) rfl (fun hc => ?_) (fun hc => ?_)
    · have hX := ite_t hc hX
      refine SR fun K21 hK21 => M rfl rfl (M rfl rfl (TL.nil (hK21 _ _ ?_)))
      refine TK.wk 2 (L ([] : (List Part_api))) rfl Wk_nil ?_
      refine TK.ret ?_
      obtain rfl := hR9 _ (some_in hX).symm
      replace hX := hA9
      try dsimp only [thenQ]
      exact retN (vs := [Enc.v (([] : (List Part_api)) : (List Part_api)), Enc.v (false : Bool)]) ⟨rfl, rfl, trivial⟩ (by obtain rfl := some_in hX; rfl) (allVal.mem ⟨v_val _, v_val _, trivial⟩)
    · have hX := ite_f hc hX
      refine TK.skip ?_
      refine hK18 _ _ (SR fun K22 hK22 => M rfl rfl (M rfl rfl (M rfl rfl ?_)))
      obtain ⟨e23, he23, hX⟩ := bind_some hX
      refine P1 (p_iaL (xs := parts1) kd44 ty48 rfl rfl rfl (fun _ => he23)) rfl rfl (P1 (p_ldE (xs := parts1) (a := e23) (e23 : Part_api) ty48 rfl rfl (fun _ => he23) rfl rfl rfl) rfl rfl ?_)
      refine TL.lit (C := cx) ([e23] : List Part_api) kd44 ty48 rfl ⟨⟨rfl, rfl⟩, trivial⟩ rfl rfl rfl ?_
      obtain ⟨u24, hu24, hX⟩ := bind_some hX
      refine TL.appO (C := cx) nd kd44 bo44 ty48 rfl rfl (j := 0) rfl rfl (Src_L _) (by decide) (need_t hu24) rfl fun nd => ?_
      refine M rfl rfl (TL.nil (hK22 _ _ ?_))
      refine TK.seq_k fun K25 hK25 => ?_
      refine SR fun K26 hK26 => M rfl rfl (M rfl rfl (M rfl rfl ?_))
      obtain ⟨e27, he27, hX⟩ := bind_some hX
      refine P1 (p_iaL (xs := parts1) kd44 ty48 rfl rfl rfl (fun _ => he27)) rfl rfl (P1 (p_faE fs48_0 (by decide) rfl) rfl rfl (P1 (p_faE fs23_4 (by decide) rfl) rfl rfl (P1 (p_ldE (xs := parts1) (a := e27) (e27.Head.Len : Int) ty3 rfl rfl (fun _ => he27) rfl rfl rfl) rfl rfl (P1 (p_add rfl rfl) rfl rfl (M rfl rfl (TL.nil (hK26 _ _ (SR fun K28 hK28 => M rfl rfl (M rfl rfl (P1 (p_eql rfl rfl) rfl rfl ?_))))))))))
      refine TL.nil (hK28 _ _ ?_)
      refine TK.cond (b := ((wr (at12 + e27.Head.Len)) == e4.Head.Size)) rfl (fun hc => ?_) (fun hc => ?_)
      · have hX := ite_t hc hX
        refine SR fun K29 hK29 => M rfl rfl (M rfl rfl (M rfl rfl (TL.nil (hK29 _ _ ?_))))
        refine TK.lay [(2, L (out11 ++ ([e23] : List Part_api)))] nd (j := 0) rfl ⟨⟨_, rfl, fix_OL nd (j := 0) rfl, rfl⟩, trivial⟩ fun nd => ?_
        refine TK.ret ?_
        obtain rfl := hR9 _ (some_in hX).symm
        replace hX := hA9
        try dsimp only [thenQ]
        exact retN (vs := [Enc.v ((out11 ++ ([e23] : List Part_api)) : (List Part_api)), Enc.v (true : Bool)]) ⟨rfl, rfl, trivial⟩ (by obtain rfl := some_in hX; rfl) (allVal.mem ⟨v_val _, v_val _, trivial⟩)
      · have hX := ite_f hc hX
        refine TK.skip ?_
        refine hK25 _ _ (SR fun K30 hK30 => M rfl rfl (M rfl rfl ?_))
        obtain ⟨e31, he31, hX⟩ := bind_some hX
        refine P1 (p_iaL (xs := parts1) kd44 ty48 rfl rfl rfl (fun _ => he31)) rfl rfl (P1 (p_faE fs48_0 (by decide) rfl) rfl rfl (P1 (p_faE fs23_4 (by decide) rfl) rfl rfl (P1 (p_ldE (xs := parts1) (a := e31) (e31.Head.Len : Int) ty3 rfl rfl (fun _ => he31) rfl rfl rfl) rfl rfl (P1 (p_leq rfl rfl) rfl rfl (TL.nil (hK30 _ _ ?_))))))
        refine TK.cond (b := (decide (e31.Head.Len ≤ (0 : Int)))) rfl (fun hc => ?_) (fun hc => ?_)
        · have hX := ite_t hc hX
          refine SR fun K32 hK32 => M rfl rfl (M rfl rfl (TL.nil (hK32 _ _ ?_)))
          refine TK.wk 2 (L ([] : (List Part_api))) rfl Wk_nil ?_
          refine TK.ret ?_
          obtain rfl := hR9 _ (some_in hX).symm
          replace hX := hA9
          try dsimp only [thenQ]
          exact retN (vs := [Enc.v (([] : (List Part_api)) : (List Part_api)), Enc.v (false : Bool)]) ⟨rfl, rfl, trivial⟩ (by obtain rfl := some_in hX; rfl) (allVal.mem ⟨v_val _, v_val _, trivial⟩)
        · have hX := ite_f hc hX
          refine TK.skip ?_
          exact ⟨_, (some_in hX).symm, b10, rfl, (Nd.pick nd (is := [0]) (by decide)), (HSub.pick nd (is := [0]) (by decide))⟩
  · have hX := ite_f hc hX
    refine TK.exit ?_
    obtain rfl := hR9 _ (some_in hX).symm
    exact E9 _ _ ⟨(), rfl, (Nd.pick nd (is := []) (by decide)), (HSub.pick nd (is := []) (by decide))⟩ hA9

/-- cartridge/catalog.Whole -/
theorem bc_catalog_Whole : BodyC cx 40 42 [.c 2 91, .t 3] k40 := ⟨Enters.of Tryd.func40 (by kernel_rfl) (by kernel_rfl), _, _, Tryd.func40, rfl, by kernel_rfl, rfl, rfl⟩
theorem ok_catalog_Whole (parts1 : (List Part_api)) (r : (File_api × Bool)) (hX : X.catalog_Whole parts1 = some r) : Fun Tryd.prog 40 [Enc.v (parts1 : (List Part_api))] (· = .tup 2 (ofL [Enc.v r.1, Enc.v r.2])) := by
  refine Fun.ofC (C := cx) bc_catalog_Whole (Nat.le_of_ble_eq_true rfl) (allVal.mem ⟨(by exact (v_val _)), trivial⟩) ?_
  unfold k40
  have nd : Nd [] := Nd_nil
  unfold X.catalog_Whole at hX
  refine SR fun K2 hK2 => ?_
  refine TL.boxV (C := cx) (lu := [Enc.v (parts1 : (List Part_api))]) nd rfl (Cells_v (parts1 : (List Part_api))) rfl ?_
  refine TL.alO (C := cx) (l := [Enc.v ((Str.mk []) : Str), Enc.v ((0 : Int) : Int), Enc.v ((0 : Int) : Int), Enc.v ((0 : Int) : Int), Enc.v ((0 : Int) : Int), Enc.v (false : Bool), .nils]) nd ty91 ti91_z rfl rfl fun b3 nd => ?_
  refine M rfl rfl (TL.nil (hK2 _ _ ?_))
  refine TK.cvR nd (j := 0) rfl (l' := [Enc.v ((Str.mk []) : Str), Enc.v ((0 : Int) : Int), Enc.v ((0 : Int) : Int), Enc.v ((0 : Int) : Int), Enc.v ((0 : Int) : Int), Enc.v (false : Bool), Enc.v (([] : (List Part_api)) : (List Part_api))]) ⟨Wk.refl _, Wk.refl _, Wk.refl _, Wk.refl _, Wk.refl _, Wk.refl _, Wk_nil, trivial⟩ fun nd => ?_
  refine TK.seq_k fun K4 hK4 => ?_
  refine SR fun K5 hK5 => P1 (p_ldR (v := Enc.v (parts1 : (List Part_api))) ty44 rfl rfl rfl rfl rfl rfl) rfl rfl (P1 (p_lenL (xs := parts1) kd44 rfl) rfl rfl (P1 (p_eql rfl rfl) rfl rfl (M rfl rfl ?_)))
  refine TL.p (C := cx) (gc := (!(((parts1.length : Int) == (0 : Int))))) (p_ldR (v := Enc.v (parts1 : (List Part_api))) ty44 rfl rfl rfl rfl rfl rfl (hg := fun e => rfl)) (gcF1 rfl) rfl ?_
  refine TL.p (C := cx) (gc := (!(((parts1.length : Int) == (0 : Int))))) (p_mf (l := [.vref (ofL [Enc.v (parts1 : (List Part_api))]) 1 0]) rfl (fun _ => ⟨rfl, trivial⟩)) (gcF1 rfl) rfl ?_
  obtain ⟨r6, hr6, hX⟩ := bind_some hX
  refine TL.cvX (gcF1 rfl) rfl rfl (fun e => ⟨rfl, ⟨e, ⟨e, trivial⟩⟩⟩) (fun e => ok_slices_ContainsFunc_Lapi_Part_api_Part parts1 (fun a1 => X.catalog_Whole_c1 a1 parts1) _ (optG_t hr6 e) ⟨78, 1, ofL [.vref (ofL [Enc.v (parts1 : (List Part_api))]) 1 0], rfl, (caps_val rfl ⟨(vref_val (l := [Enc.v (parts1 : (List Part_api))]) rfl ⟨(v_val _), trivial⟩), trivial⟩), fun a1 r hr => ok_catalog_Whole_c1 a1 parts1 r hr⟩) ?_
  refine P1 (p_or rfl rfl (fun e => ⟨rfl, fun h => (not_t h)⟩)) rfl rfl (TL.nil (hK5 _ _ ?_))
  refine TK.cond (b := (((parts1.length : Int) == (0 : Int)) || r6)) rfl (fun hc => ?_) (fun hc => ?_)
  · have hX := ite_t hc hX
    refine SR fun K7 hK7 => ?_
    refine TL.p (C := cx) (gc := true) (p_bld (l := [Enc.v ((Str.mk []) : Str), Enc.v ((0 : Int) : Int), Enc.v ((0 : Int) : Int), Enc.v ((0 : Int) : Int), Enc.v ((0 : Int) : Int), Enc.v (false : Bool), .nils]) ty91 rfl all91 rfl (fun _ => trivial)) rfl rfl (TL.wk (v' := Enc.v ((File_api.mk (Str.mk []) (0 : Int) (0 : Int) (0 : Int) (0 : Int) false ([] : (List Part_api))) : File_api)) (Wk_agg ⟨Wk.refl _, Wk.refl _, Wk.refl _, Wk.refl _, Wk.refl _, Wk.refl _, Wk_nil, trivial⟩) ?_)
    refine TL.stV (C := cx) (lu := Enc.cl ((File_api.mk (Str.mk []) (0 : Int) (0 : Int) (0 : Int) (0 : Int) false ([] : (List Part_api))) : File_api)) nd ty91 rfl (j := 0) rfl rfl rfl (Cells_v ((File_api.mk (Str.mk []) (0 : Int) (0 : Int) (0 : Int) (0 : Int) false ([] : (List Part_api))) : File_api)) rfl rfl [Enc.v ((File_api.mk (Str.mk []) (0 : Int) (0 : Int) (0 : Int) (0 : Int) false ([] : (List Part_api))).Path : Str), Enc.v ((File_api.mk (Str.mk []) (0 : Int) (0 : Int) (0 : Int) (0 : Int) false ([] : (List Part_api))).Version : Int), Enc.v ((File_api.mk (Str.mk []) (0 : Int) (0 : Int) (0 : Int) (0 : Int) false ([] : (List Part_api))).Size : Int), Enc.v ((File_api.mk (Str.mk []) (0 : Int) (0 : Int) (0 : Int) (0 : Int) false ([] : (List Part_api))).Sum : Int), Enc.v ((File_api.mk (Str.mk []) (0 : Int) (0 : Int) (0 : Int) (0 : Int) false ([] : (List Part_api))).Serial : Int), Enc.v ((File_api.mk (Str.mk []) (0 : Int) (0 : Int) (0 : Int) (0 : Int) false ([] : (List Part_api))).Gone : Bool), Enc.v ((File_api.mk (Str.mk []) (0 : Int) (0 : Int) (0 : Int) (0 : Int) false ([] : (List Part_api))).Parts : (List Part_api))] rfl fun nd => ?_
    refine M rfl rfl (TL.nil (hK7 _ _ ?_))
    refine TK.ret ?_
    try dsimp only [thenQ]
    exact retC [Enc.v ((File_api.mk (Str.mk []) (0 : Int) (0 : Int) (0 : Int) (0 : Int) false ([] : (List Part_api))) : File_api), Enc.v (false : Bool)] ⟨p_ldVa (l' := Enc.cl ((File_api.mk (Str.mk []) (0 : Int) (0 : Int) (0 : Int) (0 : Int) false ([] : (List Part_api))) : File_api)) ty91 rfl rfl nd (j := 0) rfl rfl rfl rfl (Nat.le_of_ble_eq_true rfl), p_mv rfl, trivial⟩ (by obtain rfl := some_in hX; rfl) (tup_val (allVal.mem ⟨v_val _, v_val _, trivial⟩))
  · have hX := ite_f hc hX
    refine TK.skip ?_
    refine hK4 _ _ (SR fun K8 hK8 => P1 (p_ldR (v := Enc.v (parts1 : (List Part_api))) ty44 rfl rfl rfl rfl rfl rfl) rfl rfl ?_)
    obtain ⟨r9, hr9, hX⟩ := bind_some hX
    refine TL.cvX rfl rfl rfl (fun _ => ⟨rfl, ⟨rfl, trivial⟩⟩) (fun e => ok_catalog_chain parts1 _ hr9) ?_
    refine M rfl rfl (P1 (p_ex rfl rfl (by decide)) rfl rfl (P1 (p_ex rfl rfl (by decide)) rfl rfl (M rfl rfl (M rfl rfl (TL.nil (hK8 _ _ ?_))))))
    refine TK.seq_k fun K10 hK10 => ?_
    refine SR fun K11 hK11 => M rfl rfl (P1 (p_not rfl) rfl rfl (TL.nil (hK11 _ _ ?_)))
    refine TK.cond (b := (!r9.2)) rfl (fun hc => ?_) (fun hc => ?_)
    · have hX := ite_t hc hX
      refine SR fun K12 hK12 => ?_
      refine TL.p (C := cx) (gc := true) (p_bld (l := [Enc.v ((Str.mk []) : Str), Enc.v ((0 : Int) : Int), Enc.v ((0 : Int) : Int), Enc.v ((0 : Int) : Int), Enc.v ((0 : Int) : Int), Enc.v (false : Bool), .nils]) ty91 rfl all91 rfl (fun _ => trivial)) rfl rfl (TL.wk (v' := Enc.v ((File_api.mk (Str.mk []) (0 : Int) (0 : Int) (0 : Int) (0 : Int) false ([] : (List Part_api))) : File_api)) (Wk_agg ⟨Wk.refl _, Wk.refl _, Wk.refl _, Wk.refl _, Wk.refl _, Wk.refl _, Wk_nil, trivial⟩) ?_)
      refine TL.stV (C := cx) (lu := Enc.cl ((File_api.mk (Str.mk []) (0 : Int) (0 : Int) (0 : Int) (0 : Int) false ([] : (List Part_api))) : File_api)) nd ty91 rfl (j := 0) rfl rfl rfl (Cells_v ((File_api.mk (Str.mk []) (0 : Int) (0 : Int) (0 : Int) (0 : Int) false ([] : (List Part_api))) : File_api)) rfl rfl [Enc.v ((File_api.mk (Str.mk []) (0 : Int) (0 : Int) (0 : Int) (0 : Int) false ([] : (List Part_api))).Path : Str), Enc.v ((File_api.mk (Str.mk []) (0 : Int) (0 : Int) (0 : Int) (0 : Int) false ([] : (List Part_api))).Version : Int), Enc.v ((File_api.mk (Str.mk []) (0 : Int) (0 : Int) (0 : Int) (0 : Int) false ([] : (List Part_api))).Size : Int), Enc.v ((File_api.mk (Str.mk []) (0 : Int) (0 : Int) (0 : Int) (0 : Int) false ([] : (List Part_api))).Sum : Int), Enc.v ((File_api.mk (Str.mk []) (0 : Int) (0 : Int) (0 : Int) (0 : Int) false ([] : (List Part_api))).Serial : Int), Enc.v ((File_api.mk (Str.mk []) (0 : Int) (0 : Int) (0 : Int) (0 : Int) false ([] : (List Part_api))).Gone : Bool), Enc.v ((File_api.mk (Str.mk []) (0 : Int) (0 : Int) (0 : Int) (0 : Int) false ([] : (List Part_api))).Parts : (List Part_api))] rfl fun nd => ?_
      refine M rfl rfl (TL.nil (hK12 _ _ ?_))
      refine TK.ret ?_
      try dsimp only [thenQ]
      exact retC [Enc.v ((File_api.mk (Str.mk []) (0 : Int) (0 : Int) (0 : Int) (0 : Int) false ([] : (List Part_api))) : File_api), Enc.v (false : Bool)] ⟨p_ldVa (l' := Enc.cl ((File_api.mk (Str.mk []) (0 : Int) (0 : Int) (0 : Int) (0 : Int) false ([] : (List Part_api))) : File_api)) ty91 rfl rfl nd (j := 0) rfl rfl rfl rfl (Nat.le_of_ble_eq_true rfl), p_mv rfl, trivial⟩ (by obtain rfl := some_in hX; rfl) (tup_val (allVal.mem ⟨v_val _, v_val _, trivial⟩))
    · have hX := ite_f hc hX
      refine TK.skip ?_
      refine hK10 _ _ (SR fun K13 hK13 => P1 (p_ldR (v := Enc.v (parts1 : (List Part_api))) ty44 rfl rfl rfl rfl rfl rfl) rfl rfl ?_)
      obtain ⟨e14, he14, hX⟩ := bind_some hX
      refine P1 (p_iaL (xs := parts1) kd44 ty48 rfl rfl rfl (fun _ => he14)) rfl rfl (P1 (p_faE fs48_0 (by decide) rfl) rfl rfl (P1 (p_ldE (xs := parts1) (a := e14) (e14.Head : Head_api) ty23 rfl rfl (fun _ => he14) rfl rfl rfl) rfl rfl ?_))
      refine TL.alO (C := cx) (l := [Enc.v ((Str.mk []) : Str), Enc.v ((0 : Int) : Int), Enc.v ((0 : Int) : Int), Enc.v ((0 : Int) : Int), Enc.v ((0 : Int) : Int), Enc.v ((0 : Int) : Int), Enc.v ((0 : Int) : Int), Enc.v (false : Bool)]) nd ty23 ti23_z rfl rfl fun b15 nd => ?_
      refine TL.stV (C := cx) (lu := Enc.cl (e14.Head : Head_api)) nd ty23 rfl (j := 0) rfl rfl rfl (Cells_v (e14.Head : Head_api)) rfl rfl [Enc.v (e14.Head.Path : Str), Enc.v (e14.Head.Version : Int), Enc.v (e14.Head.Size : Int), Enc.v (e14.Head.From : Int), Enc.v (e14.Head.Len : Int), Enc.v (e14.Head.Serial : Int), Enc.v (e14.Head.Sum : Int), Enc.v (e14.Head.Gone : Bool)] rfl fun nd => ?_
      refine TL.nil (hK13 _ _ (SR fun K16 hK16 => P1 (p_faV fs23_0 (by decide) rfl nd (j := 0) rfl rfl) rfl rfl (P1 (p_ldV (v := Enc.v (e14.Head.Path : Str)) ty9 rfl rfl nd (j := 0) rfl rfl rfl rfl rfl) rfl rfl (P1 (p_faV fs23_1 (by decide) rfl nd (j := 0) rfl rfl) rfl rfl (P1 (p_ldV (v := Enc.v (e14.Head.Version : Int)) ty3 rfl rfl nd (j := 0) rfl rfl rfl rfl rfl) rfl rfl ?_)))))
      refine P1 (p_faV fs23_2 (by decide) rfl nd (j := 0) rfl rfl) rfl rfl (P1 (p_ldV (v := Enc.v (e14.Head.Size : Int)) ty3 rfl rfl nd (j := 0) rfl rfl rfl rfl rfl) rfl rfl (P1 (p_faV fs23_6 (by decide) rfl nd (j := 0) rfl rfl) rfl rfl (P1 (p_ldV (v := Enc.v (e14.Head.Sum : Int)) ty3 rfl rfl nd (j := 0) rfl rfl rfl rfl rfl) rfl rfl (P1 (p_faV fs23_5 (by decide) rfl nd (j := 0) rfl rfl) rfl rfl ?_))))
      refine P1 (p_ldV (v := Enc.v (e14.Head.Serial : Int)) ty3 rfl rfl nd (j := 0) rfl rfl rfl rfl rfl) rfl rfl (P1 (p_faV fs23_7 (by decide) rfl nd (j := 0) rfl rfl) rfl rfl (P1 (p_ldV (v := Enc.v (e14.Head.Gone : Bool)) ty4 rfl rfl nd (j := 0) rfl rfl rfl rfl rfl) rfl rfl (M rfl rfl ?_)))
      refine P1 (p_bld (l := Enc.cl ((File_api.mk e14.Head.Path e14.Head.Version e14.Head.Size e14.Head.Sum e14.Head.Serial e14.Head.Gone r9.1) : File_api)) ty91 rfl all91 rfl (fun _ => ⟨⟨rfl, trivial, rfl⟩, ⟨rfl, trivial, rfl⟩, ⟨rfl, trivial, rfl⟩, ⟨rfl, trivial, rfl⟩, ⟨rfl, trivial, rfl⟩, ⟨rfl, trivial, rfl⟩, ⟨rfl, trivial, rfl⟩, trivial⟩)) rfl rfl ?_
      refine TL.stV (C := cx) (lu := Enc.cl ((File_api.mk e14.Head.Path e14.Head.Version e14.Head.Size e14.Head.Sum e14.Head.Serial e14.Head.Gone r9.1) : File_api)) nd ty91 rfl (j := 1) rfl rfl rfl (Cells_v ((File_api.mk e14.Head.Path e14.Head.Version e14.Head.Size e14.Head.Sum e14.Head.Serial e14.Head.Gone r9.1) : File_api)) rfl rfl [Enc.v ((File_api.mk e14.Head.Path e14.Head.Version e14.Head.Size e14.Head.Sum e14.Head.Serial e14.Head.Gone r9.1).Path : Str), Enc.v ((File_api.mk e14.Head.Path e14.Head.Version e14.Head.Size e14.Head.Sum e14.Head.Serial e14.Head.Gone r9.1).Version : Int), Enc.v ((File_api.mk e14.Head.Path e14.Head.Version e14.Head.Size e14.Head.Sum e14.Head.Serial e14.Head.Gone r9.1).Size : Int), Enc.v ((File_api.mk e14.Head.Path e14.Head.Version e14.Head.Size e14.Head.Sum e14.Head.Serial e14.Head.Gone r9.1).Sum : Int), Enc.v ((File_api.mk e14.Head.Path e14.Head.Version e14.Head.Size e14.Head.Sum e14.Head.Serial e14.Head.Gone r9.1).Serial : Int), Enc.v ((File_api.mk e14.Head.Path e14.Head.Version e14.Head.Size e14.Head.Sum e14.Head.Serial e14.Head.Gone r9.1).Gone : Bool), Enc.v ((File_api.mk e14.Head.Path e14.Head.Version e14.Head.Size e14.Head.Sum e14.Head.Serial e14.Head.Gone r9.1).Parts : (List Part_api))] rfl fun nd => ?_
      refine M rfl rfl (TL.nil (hK16 _ _ ?_))
      refine TK.ret ?_
      try dsimp only [thenQ]
      exact retC [Enc.v ((File_api.mk e14.Head.Path e14.Head.Version e14.Head.Size e14.Head.Sum e14.Head.Serial e14.Head.Gone r9.1) : File_api), Enc.v (true : Bool)] ⟨p_ldVa (l' := Enc.cl ((File_api.mk e14.Head.Path e14.Head.Version e14.Head.Size e14.Head.Sum e14.Head.Serial e14.Head.Gone r9.1) : File_api)) ty91 rfl rfl nd (j := 1) rfl rfl rfl rfl (Nat.le_of_ble_eq_true rfl), p_mv rfl, trivial⟩ (by obtain rfl := some_in hX; rfl) (tup_val (allVal.mem ⟨v_val _, v_val _, trivial⟩))

/-- cartridge/catalog.From -/
theorem ok_catalog_From_nil  (r : (List File_api)) (hX : X.catalog_From_nil = some r) : Fun Tryd.prog 38 [.nils] (· = Enc.v (r : (List File_api))) := by
  refine Fun.of b38 (Nat.le_of_ble_eq_true rfl) (allVal.mem ⟨(by exact trivial), trivial⟩) ?_
  unfold k38
  have nd : Nd [] := Nd_nil
  unfold X.catalog_From_nil at hX
  refine SR fun K1 hK1 => M rfl rfl (TL.nil (hK1 _ _ (SR fun K2 hK2 => ?_)))
  refine TL.mm (C := cx) rfl ?_
  refine M rfl rfl (TL.nil (hK2 _ _ (SR fun K3 hK3 => M rfl rfl (TL.nil (hK3 _ _ ?_)))))
  refine TK.ownL (α := Head_api) 4 23 nd rfl (.inl rfl) fun b4 nd => ?_
  refine TK.seq_k fun K5 hK5 => ?_
  refine SR fun K6 hK6 => M rfl rfl (P1 (p_lenN kd57 rfl) rfl rfl (M rfl rfl (TL.nil (hK6 _ _ ?_))))
  refine TK.block ?_
  obtain ⟨o7, hO7, hA7⟩ := bind_some hX
  have E7 : ∀ (env : Env) (h : Hp), (∃ b9, keepE [3, 4] env = [(3, true, .junk), (4, true, OL (α := Head_api) b9 ([] : List Head_api))] ∧ Nd [(b9, RL (α := Head_api) 23 ([] : List Head_api))] ∧ HSub [(b9, RL (α := Head_api) 23 ([] : List Head_api))] h) → X.catalog_From_nil_e7 = some r → K5 env h := by
    intro  env h hE hX
    obtain ⟨b9, henv, nd, hs⟩ := hE
    unfold X.catalog_From_nil_e7 at hX
    refine hK5 _ _ (TK.keep [3, 4] ?_)
    rw [henv]
    refine TK.subH hs ?_
    refine SR fun K10 hK10 => M rfl rfl (TL.nil (hK10 _ _ ?_))
    refine TK.seq_k fun K11 hK11 => ?_
    refine SR fun K12 hK12 => M rfl rfl (P1 (p_lenR kd134 rfl (fun _ => refOK_of nd (j := 0) rfl rfl)) rfl rfl (M rfl rfl (TL.nil (hK12 _ _ ?_))))
    refine TK.block ?_
    refine TK.wk 10 (L ([] : List File_api)) rfl Wk_nil ?_
    obtain ⟨o13, hO13, hA13⟩ := bind_some hX
    have E13 : ∀ (env : Env) (h : Hp), (∃ _u : Unit, keepE [10] env = [(10, true, Enc.v (([] : List File_api) : (List File_api)))] ∧ Nd [] ∧ HSub [] h) → X.catalog_From_nil_e13 = some r → K11 env h := by
      intro  env h hE hX
      obtain ⟨_u, henv, nd, hs⟩ := hE
      unfold X.catalog_From_nil_e13 at hX
      refine hK11 _ _ (TK.keep [10] ?_)
      rw [henv]
      refine TK.subH hs ?_
      refine SR fun K15 hK15 => M rfl rfl (M rfl rfl (TL.nil (hK15 _ _ ?_)))
      refine TK.ret ?_
      try dsimp only [thenQ]
      exact ret1 (v := Enc.v (([] : List File_api) : (List File_api))) rfl (by obtain rfl := some_in hX; rfl) (v_val _)
    refine TK.iter [3, 10, 53, 54, 55] (fun s env h => match s with | _ => ∃ b14, env = [(3, true, .junk), (10, true, Enc.v (([] : List File_api) : (List File_api))), (53, true, OL (α := Head_api) b14 ([] : List Head_api)), (54, true, Enc.v ((([] : List Head_api).length : Int) : Int)), (55, true, Enc.v ((0 : Int) : Int))] ∧ Nd [(b14, RL (α := Head_api) 23 ([] : List Head_api))] ∧ HSub [(b14, RL (α := Head_api) 23 ([] : List Head_api))] h) hO13 ⟨b9, rfl, (Nd.pick nd (is := [0]) (by decide)), (HSub.pick nd (is := [0]) (by decide))⟩ ?_
    rintro ⟨⟩ env h x13x ⟨b14, rfl, nd, hs⟩ hX hR13
    refine TK.subH hs ?_
    unfold X.catalog_From_nil_s13 at hX
    try dsimp only at hX
    refine SR fun K16 hK16 => P1 (p_lss rfl rfl) rfl rfl (TL.nil (hK16 _ _ ?_))
    refine TK.seq_k fun K17 hK17 => ?_
    refine TK.cond (b := (decide ((0 : Int) < (([] : List Head_api).length : Int)))) rfl (fun hc => ?_) (fun hc => ?_)
    · have hX := ite_t hc hX
      refine TK.skip ?_
      refine hK17 _ _ ?_
      refine TK.seq_k fun K18 hK18 => ?_
      refine TK.block ?_
      refine SR fun K19 hK19 => ?_
      obtain ⟨e20, he20, hX⟩ := bind_some hX
      refine P1 (p_iaO (xs := ([] : List Head_api)) kd134 ty23 rfl rfl rfl nd (j := 0) rfl (fun _ => he20)) rfl rfl (P1 (p_ldO (xs := ([] : List Head_api)) (a := e20) (e20 : Head_api) ty23 rfl rfl nd (j := 0) rfl (fun _ => he20) rfl rfl rfl) rfl rfl ?_)
      refine TL.alO (C := cx) (l := [Enc.v ((Str.mk []) : Str), Enc.v ((0 : Int) : Int), Enc.v ((0 : Int) : Int), Enc.v ((0 : Int) : Int), Enc.v ((0 : Int) : Int), Enc.v ((0 : Int) : Int), Enc.v ((0 : Int) : Int), Enc.v (false : Bool)]) nd ty23 ti23_z rfl rfl fun b21 nd => ?_
      refine TL.stV (C := cx) (lu := Enc.cl (e20 : Head_api)) nd ty23 rfl (j := 0) rfl rfl rfl (Cells_v (e20 : Head_api)) rfl rfl [Enc.v (e20.Path : Str), Enc.v (e20.Version : Int), Enc.v (e20.Size : Int), Enc.v (e20.From : Int), Enc.v (e20.Len : Int), Enc.v (e20.Serial : Int), Enc.v (e20.Sum : Int), Enc.v (e20.Gone : Bool)] rfl fun nd => ?_
      refine TL.nil (hK19 _ _ (SR fun K22 hK22 => M rfl rfl (P1 (p_ldVa (l' := Enc.cl (e20 : Head_api)) ty23 rfl rfl nd (j := 0) rfl rfl rfl rfl (Nat.le_of_ble_eq_true rfl)) rfl rfl ?_)))
      cases hX
    · have hX := ite_f hc hX
      refine TK.exit ?_
      obtain rfl := hR13 _ (some_in hX).symm
      exact E13 _ _ ⟨(), rfl, (Nd.pick nd (is := []) (by decide)), (HSub.pick nd (is := []) (by decide))⟩ hA13
  refine TK.iter [3, 4, 18, 19, 20] (fun s env h => match s with | _ => ∃ b8, env = [(3, true, .junk), (4, true, OL (α := Head_api) b8 ([] : List Head_api)), (18, true, .nils), (19, true, Enc.v ((0 : Int) : Int)), (20, true, Enc.v ((0 : Int) : Int))] ∧ Nd [(b8, RL (α := Head_api) 23 ([] : List Head_api))] ∧ HSub [(b8, RL (α := Head_api) 23 ([] : List Head_api))] h) hO7 ⟨b4, rfl, (Nd.pick nd (is := [0]) (by decide)), (HSub.pick nd (is := [0]) (by decide))⟩ ?_
  rintro ⟨⟩ env h x7x ⟨b8, rfl, nd, hs⟩ hX hR7
  refine TK.subH hs ?_
  unfold X.catalog_From_nil_s7 at hX
  try dsimp only at hX
  refine SR fun K23 hK23 => P1 (p_lss rfl rfl) rfl rfl (TL.nil (hK23 _ _ ?_))
  refine TK.seq_k fun K24 hK24 => ?_
  refine TK.cond (b := false) rfl (fun hc => by simp at hc) (fun _ => ?_)
  refine TK.exit ?_
  obtain rfl := hR7 _ (some_in hX).symm
  exact E7 _ _ ⟨b8, rfl, (Nd.pick nd (is := [0]) (by decide)), (HSub.pick nd (is := [0]) (by decide))⟩ hA7

/-- cartridge/cartridgelaw17.alive -/
theorem ok_cartridgelaw17_alive  (r : Bool) (hX : X.cartridgelaw17_alive = some r) : Fun Tryd.prog 37 [] (· = Enc.v (r : Bool)) := by
  refine Fun.of b37 (Nat.le_of_ble_eq_true rfl) (fun x hx => by cases hx) ?_
  unfold k37
  have nd : Nd [] := Nd_nil
  unfold X.cartridgelaw17_alive at hX
  refine SR fun K1 hK1 => M rfl rfl (TL.nil (hK1 _ _ (SR fun K2 hK2 => P1 (p_bld (l := Enc.cl ((Head_api.mk (Str.mk [97]) (1 : Int) (0 : Int) (0 : Int) (0 : Int) (1 : Int) (0 : Int) false) : Head_api)) ty23 rfl all23 rfl (fun _ => ⟨⟨rfl, trivial, rfl⟩, ⟨rfl, trivial, rfl⟩, ⟨rfl, trivial, rfl⟩, trivial⟩)) rfl rfl ?_)))
  refine P1 (p_bld (l := Enc.cl ((Part_api.mk (Head_api.mk (Str.mk [97]) (1 : Int) (0 : Int) (0 : Int) (0 : Int) (1 : Int) (0 : Int) false) (1 : Int) (1 : Int)) : Part_api)) ty48 rfl all48 rfl (fun _ => ⟨⟨rfl, trivial, rfl⟩, ⟨rfl, trivial, rfl⟩, ⟨rfl, trivial, rfl⟩, trivial⟩)) rfl rfl ?_
  refine TL.lit (C := cx) ([(Part_api.mk (Head_api.mk (Str.mk [97]) (1 : Int) (0 : Int) (0 : Int) (0 : Int) (1 : Int) (0 : Int) false) (1 : Int) (1 : Int))] : List Part_api) kd44 ty48 rfl ⟨⟨rfl, rfl⟩, trivial⟩ rfl rfl rfl ?_
  obtain ⟨r3, hr3, hX⟩ := bind_some hX
  refine TL.cvX rfl rfl rfl (fun _ => ⟨rfl, ⟨rfl, trivial⟩⟩) (fun e => ok_catalog_Whole ([(Part_api.mk (Head_api.mk (Str.mk [97]) (1 : Int) (0 : Int) (0 : Int) (0 : Int) (1 : Int) (0 : Int) false) (1 : Int) (1 : Int))] : List Part_api) _ hr3) ?_
  refine M rfl rfl (P1 (p_ex rfl rfl (by decide)) rfl rfl (P1 (p_ex rfl rfl (by decide)) rfl rfl ?_))
  refine TL.alO (C := cx) (l := [Enc.v ((Str.mk []) : Str), Enc.v ((0 : Int) : Int), Enc.v ((0 : Int) : Int), Enc.v ((0 : Int) : Int), Enc.v ((0 : Int) : Int), Enc.v (false : Bool), .nils]) nd ty91 ti91_z rfl rfl fun b4 nd => ?_
  refine TL.stV (C := cx) (lu := Enc.cl (r3.1 : File_api)) nd ty91 rfl (j := 0) rfl rfl rfl (Cells_v (r3.1 : File_api)) rfl rfl [Enc.v (r3.1.Path : Str), Enc.v (r3.1.Version : Int), Enc.v (r3.1.Size : Int), Enc.v (r3.1.Sum : Int), Enc.v (r3.1.Serial : Int), Enc.v (r3.1.Gone : Bool), Enc.v (r3.1.Parts : (List Part_api))] rfl fun nd => ?_
  refine M rfl rfl (TL.nil (hK2 _ _ (SR fun K5 hK5 => ?_)))
  obtain ⟨r6, hr6, hX⟩ := bind_some hX
  refine TL.cvX rfl rfl rfl (fun _ => ⟨rfl, ⟨rfl, trivial⟩⟩) (fun e => ok_catalog_From_nil  _ hr6) ?_
  refine P1 (p_lenL (xs := r6) kd87 rfl) rfl rfl (P1 (p_eql rfl rfl) rfl rfl (M rfl rfl ?_))
  refine TL.p (C := cx) (gc := (((r6.length : Int) == (0 : Int)))) (p_mv rfl (hg := fun e => rfl)) (gcT1 rfl) rfl ?_
  refine P1 (p_and rfl rfl (fun e => ⟨rfl, fun h => h⟩)) rfl rfl (M rfl rfl ?_)
  refine TL.p (C := cx) (gc := ((((r6.length : Int) == (0 : Int)) && r3.2))) (p_faV fs91_0 (by decide) rfl nd (j := 0) rfl rfl (hg := fun e => rfl)) (gcT1 rfl) rfl ?_
  refine TL.p (C := cx) (gc := ((((r6.length : Int) == (0 : Int)) && r3.2))) (p_ldV (v := Enc.v (r3.1.Path : Str)) ty9 rfl rfl nd (j := 0) rfl rfl rfl rfl rfl (hg := fun e => e)) (gcT1 rfl) rfl ?_
  refine TL.p (C := cx) (gc := ((((r6.length : Int) == (0 : Int)) && r3.2))) (ps_eql (s := r3.1.Path) (r := (Str.mk [97])) rfl rfl (hg := fun e => ⟨e, rfl⟩)) (gcT1 rfl) rfl ?_
  refine P1 (p_and rfl rfl (fun e => ⟨rfl, fun h => h⟩)) rfl rfl (M rfl rfl ?_)
  refine TL.p (C := cx) (gc := (((((r6.length : Int) == (0 : Int)) && r3.2) && (r3.1.Path.l == (Str.mk [97]).l)))) (p_faV fs91_6 (by decide) rfl nd (j := 0) rfl rfl (hg := fun e => rfl)) (gcT1 rfl) rfl ?_
  refine TL.p (C := cx) (gc := (((((r6.length : Int) == (0 : Int)) && r3.2) && (r3.1.Path.l == (Str.mk [97]).l)))) (p_ldV (v := Enc.v (r3.1.Parts : (List Part_api))) ty44 rfl rfl nd (j := 0) rfl rfl rfl rfl rfl (hg := fun e => e)) (gcT1 rfl) rfl ?_
  refine TL.p (C := cx) (gc := (((((r6.length : Int) == (0 : Int)) && r3.2) && (r3.1.Path.l == (Str.mk [97]).l)))) (p_lenL (xs := r3.1.Parts) kd44 rfl (hg := fun e => e)) (gcT1 rfl) rfl ?_
  refine TL.p (C := cx) (gc := (((((r6.length : Int) == (0 : Int)) && r3.2) && (r3.1.Path.l == (Str.mk [97]).l)))) (p_eql rfl rfl (hg := fun e => ⟨e, rfl⟩)) (gcT1 rfl) rfl ?_
  refine P1 (p_and rfl rfl (fun e => ⟨rfl, fun h => h⟩)) rfl rfl (M rfl rfl (TL.nil (hK5 _ _ ?_)))
  refine TK.ret ?_
  try dsimp only [thenQ]
  exact ret1 (v := Enc.v ((((((r6.length : Int) == (0 : Int)) && r3.2) && (r3.1.Path.l == (Str.mk [97]).l)) && ((r3.1.Parts.length : Int) == (1 : Int))) : Bool)) rfl (by obtain rfl := some_in hX; rfl) (v_val _)

/-- cartridge/cartridgelaw17.CatalogGaps -/
theorem ok_cartridgelaw17_CatalogGaps (n1 : Int) (missing2 : Int) (whole3 : Bool) (r : Bool) (hX : X.cartridgelaw17_CatalogGaps n1 missing2 whole3 = some r) : Fun Tryd.prog 11 [Enc.v (n1 : Int), Enc.v (missing2 : Int), Enc.v (whole3 : Bool)] (· = Enc.v (r : Bool)) := by
  refine Fun.of b11 (Nat.le_of_ble_eq_true rfl) (allVal.mem ⟨(by exact (v_val _)), (by exact (v_val _)), (by exact (v_val _)), trivial⟩) ?_
  unfold k11
  have nd : Nd [] := Nd_nil
  unfold X.cartridgelaw17_CatalogGaps at hX
  refine SR fun K4 hK4 => M rfl rfl (TL.nil (hK4 _ _ (SR fun K5 hK5 => ?_)))
  obtain ⟨r6, hr6, hX⟩ := bind_some hX
  refine TL.cvX rfl rfl rfl (fun _ => ⟨rfl, trivial⟩) (fun e => ok_cartridgelaw17_alive  _ hr6) ?_
  refine M rfl rfl (TL.nil (hK5 _ _ ?_))
  refine TK.seq_k fun K7 hK7 => ?_
  refine SR fun K8 hK8 => M rfl rfl (P1 (p_not rfl) rfl rfl (M rfl rfl ?_))
  refine TL.p (C := cx) (gc := (!((!r6)))) (p_mv rfl (hg := fun e => rfl)) (gcF1 rfl) rfl ?_
  refine TL.p (C := cx) (gc := (!((!r6)))) (p_lss rfl rfl (hg := fun e => ⟨e, rfl⟩)) (gcF1 rfl) rfl ?_
  refine P1 (p_or rfl rfl (fun e => ⟨rfl, fun h => (not_t h)⟩)) rfl rfl (M rfl rfl ?_)
  refine TL.p (C := cx) (gc := (!(((!r6) || (decide (n1 < (1 : Int))))))) (p_mv rfl (hg := fun e => rfl)) (gcF1 rfl) rfl ?_
  refine TL.p (C := cx) (gc := (!(((!r6) || (decide (n1 < (1 : Int))))))) (p_gtr rfl rfl (hg := fun e => ⟨e, rfl⟩)) (gcF1 rfl) rfl ?_
  refine P1 (p_or rfl rfl (fun e => ⟨rfl, fun h => (not_t h)⟩)) rfl rfl (M rfl rfl ?_)
  refine TL.p (C := cx) (gc := (!((((!r6) || (decide (n1 < (1 : Int)))) || (decide (n1 > (10 : Int))))))) (p_mv rfl (hg := fun e => rfl)) (gcF1 rfl) rfl ?_
  refine TL.p (C := cx) (gc := (!((((!r6) || (decide (n1 < (1 : Int)))) || (decide (n1 > (10 : Int))))))) (p_lss rfl rfl (hg := fun e => ⟨e, rfl⟩)) (gcF1 rfl) rfl ?_
  refine P1 (p_or rfl rfl (fun e => ⟨rfl, fun h => (not_t h)⟩)) rfl rfl (M rfl rfl ?_)
  refine TL.p (C := cx) (gc := (!(((((!r6) || (decide (n1 < (1 : Int)))) || (decide (n1 > (10 : Int)))) || (decide (missing2 < (0 : Int))))))) (p_mv rfl (hg := fun e => rfl)) (gcF1 rfl) rfl ?_
  refine TL.p (C := cx) (gc := (!(((((!r6) || (decide (n1 < (1 : Int)))) || (decide (n1 > (10 : Int)))) || (decide (missing2 < (0 : Int))))))) (p_mv rfl (hg := fun e => rfl)) (gcF1 rfl) rfl ?_
  refine TL.p (C := cx) (gc := (!(((((!r6) || (decide (n1 < (1 : Int)))) || (decide (n1 > (10 : Int)))) || (decide (missing2 < (0 : Int))))))) (p_geq rfl rfl (hg := fun e => ⟨e, e⟩)) (gcF1 rfl) rfl ?_
  refine P1 (p_or rfl rfl (fun e => ⟨rfl, fun h => (not_t h)⟩)) rfl rfl (TL.nil (hK8 _ _ ?_))
  refine TK.cond (b := (((((!r6) || (decide (n1 < (1 : Int)))) || (decide (n1 > (10 : Int)))) || (decide (missing2 < (0 : Int)))) || (decide (missing2 ≥ n1)))) rfl (fun hc => ?_) (fun hc => ?_)
  · have hX := ite_t hc hX
    refine SR fun K9 hK9 => M rfl rfl (M rfl rfl (TL.nil (hK9 _ _ ?_)))
    refine TK.ret ?_
    try dsimp only [thenQ]
    exact ret1 (v := Enc.v (r6 : Bool)) rfl (by obtain rfl := some_in hX; rfl) (v_val _)
  · have hX := ite_f hc hX
    refine TK.skip ?_
    refine hK7 _ _ (SR fun K10 hK10 => M rfl rfl (TL.nil (hK10 _ _ ?_)))
    refine TK.seq_k fun K11 hK11 => ?_
    refine SR fun K12 hK12 => M rfl rfl (TL.nil (hK12 _ _ ?_))
    refine TK.block ?_
    refine TK.wk 8 (L ([] : List Part_api)) rfl Wk_nil ?_
    obtain ⟨o13, hO13, hA13⟩ := bind_some hX
    have E13 : ∀ (l16 : (List Part_api)) (env : Env) (h : Hp), (∃ _u : Unit, keepE [0, 2, 8] env = [(0, true, Enc.v (n1 : Int)), (2, true, Enc.v (whole3 : Bool)), (8, true, Enc.v (l16 : (List Part_api)))] ∧ Nd [] ∧ HSub [] h) → X.cartridgelaw17_CatalogGaps_e13 whole3 n1 l16 = some r → K11 env h := by
      intro l16 env h hE hX
      obtain ⟨_u, henv, nd, hs⟩ := hE
      unfold X.cartridgelaw17_CatalogGaps_e13 at hX
      refine hK11 _ _ (TK.keep [0, 2, 8] ?_)
      rw [henv]
      refine TK.subH hs ?_
      refine SR fun K17 hK17 => M rfl rfl ?_
      obtain ⟨r18, hr18, hX⟩ := bind_some hX
      refine TL.cvX rfl rfl rfl (fun _ => ⟨rfl, ⟨rfl, trivial⟩⟩) (fun e => ok_catalog_Whole l16 _ hr18) ?_
      refine M rfl rfl (P1 (p_ex rfl rfl (by decide)) rfl rfl (P1 (p_ex rfl rfl (by decide)) rfl rfl ?_))
      refine TL.alO (C := cx) (l := [Enc.v ((Str.mk []) : Str), Enc.v ((0 : Int) : Int), Enc.v ((0 : Int) : Int), Enc.v ((0 : Int) : Int), Enc.v ((0 : Int) : Int), Enc.v (false : Bool), .nils]) nd ty91 ti91_z rfl rfl fun b19 nd => ?_
      refine TL.stV (C := cx) (lu := Enc.cl (r18.1 : File_api)) nd ty91 rfl (j := 0) rfl rfl rfl (Cells_v (r18.1 : File_api)) rfl rfl [Enc.v (r18.1.Path : Str), Enc.v (r18.1.Version : Int), Enc.v (r18.1.Size : Int), Enc.v (r18.1.Sum : Int), Enc.v (r18.1.Serial : Int), Enc.v (r18.1.Gone : Bool), Enc.v (r18.1.Parts : (List Part_api))] rfl fun nd => ?_
      refine M rfl rfl (TL.nil (hK17 _ _ ?_))
      refine TK.seq_k fun K20 hK20 => ?_
      refine SR fun K21 hK21 => M rfl rfl (P1 (p_not rfl) rfl rfl (TL.nil (hK21 _ _ ?_)))
      refine TK.cond (b := (!whole3)) rfl (fun hc => ?_) (fun hc => ?_)
      · have hX := ite_t hc hX
        refine SR fun K22 hK22 => M rfl rfl (P1 (p_not rfl) rfl rfl (M rfl rfl ?_))
        refine TL.p (C := cx) (gc := ((!r18.2))) (p_faV fs91_6 (by decide) rfl nd (j := 0) rfl rfl (hg := fun e => rfl)) (gcT1 rfl) rfl ?_
        refine TL.p (C := cx) (gc := ((!r18.2))) (p_ldV (v := Enc.v (r18.1.Parts : (List Part_api))) ty44 rfl rfl nd (j := 0) rfl rfl rfl rfl rfl (hg := fun e => e)) (gcT1 rfl) rfl ?_
        refine TL.p (C := cx) (gc := ((!r18.2))) (p_lenL (xs := r18.1.Parts) kd44 rfl (hg := fun e => e)) (gcT1 rfl) rfl ?_
        refine TL.p (C := cx) (gc := ((!r18.2))) (p_eql rfl rfl (hg := fun e => ⟨e, rfl⟩)) (gcT1 rfl) rfl ?_
        refine P1 (p_and rfl rfl (fun e => ⟨rfl, fun h => h⟩)) rfl rfl (M rfl rfl (TL.nil (hK22 _ _ ?_)))
        refine TK.ret ?_
        try dsimp only [thenQ]
        exact ret1 (v := Enc.v (((!r18.2) && ((r18.1.Parts.length : Int) == (0 : Int))) : Bool)) rfl (by obtain rfl := some_in hX; rfl) (v_val _)
      · have hX := ite_f hc hX
        refine TK.skip ?_
        refine hK20 _ _ ?_
        refine TK.seq_k fun K23 hK23 => ?_
        refine SR fun K24 hK24 => M rfl rfl (P1 (p_not rfl) rfl rfl (M rfl rfl ?_))
        refine TL.p (C := cx) (gc := (!((!r18.2)))) (p_faV fs91_6 (by decide) rfl nd (j := 0) rfl rfl (hg := fun e => rfl)) (gcF1 rfl) rfl ?_
        refine TL.p (C := cx) (gc := (!((!r18.2)))) (p_ldV (v := Enc.v (r18.1.Parts : (List Part_api))) ty44 rfl rfl nd (j := 0) rfl rfl rfl rfl rfl (hg := fun e => e)) (gcF1 rfl) rfl ?_
        refine TL.p (C := cx) (gc := (!((!r18.2)))) (p_lenL (xs := r18.1.Parts) kd44 rfl (hg := fun e => e)) (gcF1 rfl) rfl ?_
        refine TL.p (C := cx) (gc := (!((!r18.2)))) (p_mv rfl (hg := fun e => rfl)) (gcF1 rfl) rfl ?_
        refine TL.p (C := cx) (gc := (!((!r18.2)))) (p_neq rfl rfl (hg := fun e => ⟨e, e⟩)) (gcF1 rfl) rfl ?_
        refine P1 (p_or rfl rfl (fun e => ⟨rfl, fun h => (not_t h)⟩)) rfl rfl (TL.nil (hK24 _ _ ?_))
        refine TK.cond (b := ((!r18.2) || ((r18.1.Parts.length : Int) != n1))) rfl (fun hc => ?_) (fun hc => ?_)
        · have hX := ite_t hc hX
          refine SR fun K25 hK25 => M rfl rfl (TL.nil (hK25 _ _ ?_))
          refine TK.ret ?_
          try dsimp only [thenQ]
          exact ret1 (v := Enc.v (false : Bool)) rfl (by obtain rfl := some_in hX; rfl) (v_val _)
        · have hX := ite_f hc hX
          refine TK.skip ?_
          refine hK23 _ _ ?_
          refine TK.seq_k fun K26 hK26 => ?_
          refine SR fun K27 hK27 => M rfl rfl (TL.nil (hK27 _ _ ?_))
          refine TK.block ?_
          obtain ⟨o28, hO28, hA28⟩ := bind_some hX
          have E28 : ∀ (env : Env) (h : Hp), (∃ _u : Unit, keepE [] env = [] ∧ Nd [] ∧ HSub [] h) → X.cartridgelaw17_CatalogGaps_e28 = some r → K26 env h := by
            intro  env h hE hX
            obtain ⟨_u, henv, nd, hs⟩ := hE
            unfold X.cartridgelaw17_CatalogGaps_e28 at hX
            refine hK26 _ _ (TK.keep [] ?_)
            rw [henv]
            refine TK.subH hs ?_
            refine SR fun K31 hK31 => M rfl rfl (TL.nil (hK31 _ _ ?_))
            refine TK.ret ?_
            try dsimp only [thenQ]
            exact ret1 (v := Enc.v (true : Bool)) rfl (by obtain rfl := some_in hX; rfl) (v_val _)
          refine TK.iter [0, 10, 12] (fun s env h => match s with | i30 => ∃ b29, env = [(0, true, Enc.v (n1 : Int)), (10, true, .ref b29 0 7), (12, true, Enc.v (i30 : Int))] ∧ Nd [(b29, RV 91 [Enc.v (r18.1.Path : Str), Enc.v (r18.1.Version : Int), Enc.v (r18.1.Size : Int), Enc.v (r18.1.Sum : Int), Enc.v (r18.1.Serial : Int), Enc.v (r18.1.Gone : Bool), Enc.v (r18.1.Parts : (List Part_api))])] ∧ HSub [(b29, RV 91 [Enc.v (r18.1.Path : Str), Enc.v (r18.1.Version : Int), Enc.v (r18.1.Size : Int), Enc.v (r18.1.Sum : Int), Enc.v (r18.1.Serial : Int), Enc.v (r18.1.Gone : Bool), Enc.v (r18.1.Parts : (List Part_api))])] h) hO28 ⟨b19, rfl, (Nd.pick nd (is := [0]) (by decide)), (HSub.pick nd (is := [0]) (by decide))⟩ ?_
          rintro i30 env h x28x ⟨b29, rfl, nd, hs⟩ hX hR28
          refine TK.subH hs ?_
          unfold X.cartridgelaw17_CatalogGaps_s28 at hX
          try dsimp only at hX
          refine TK.seq_k fun K32 hK32 => ?_
          refine SR fun K33 hK33 => M rfl rfl (M rfl rfl (P1 (p_lss rfl rfl) rfl rfl (TL.nil (hK33 _ _ ?_))))
          refine TK.cond (b := (decide (i30 < n1))) rfl (fun hc => ?_) (fun hc => ?_)
          · have hX := ite_t hc hX
            refine TK.skip ?_
            refine hK32 _ _ ?_
            refine TK.seq_k fun K34 hK34 => ?_
            refine TK.block ?_
            refine SR fun K35 hK35 => P1 (p_faV fs91_6 (by decide) rfl nd (j := 0) rfl rfl) rfl rfl (P1 (p_ldV (v := Enc.v (r18.1.Parts : (List Part_api))) ty44 rfl rfl nd (j := 0) rfl rfl rfl rfl rfl) rfl rfl (M rfl rfl ?_))
            obtain ⟨e36, he36, hX⟩ := bind_some hX
            refine P1 (p_iaL (xs := r18.1.Parts) kd44 ty48 rfl rfl rfl (fun _ => he36)) rfl rfl (P1 (p_faE fs48_1 (by decide) rfl) rfl rfl (P1 (p_ldE (xs := r18.1.Parts) (a := e36) (e36.Label : Int) ty3 rfl rfl (fun _ => he36) rfl rfl rfl) rfl rfl (M rfl rfl (P1 (p_add rfl rfl) rfl rfl (P1 (p_neq rfl rfl) rfl rfl (TL.nil (hK35 _ _ ?_)))))))
            refine TK.cond (b := (e36.Label != (wr (i30 + (1 : Int))))) rfl (fun hc => ?_) (fun hc => ?_)
            · have hX := ite_t hc hX
              refine SR fun K37 hK37 => M rfl rfl (TL.nil (hK37 _ _ ?_))
              refine TK.ret ?_
              obtain rfl := hR28 _ (some_in hX).symm
              replace hX := hA28
              try dsimp only [thenQ]
              exact ret1 (v := Enc.v (false : Bool)) rfl (by obtain rfl := some_in hX; rfl) (v_val _)
            · have hX := ite_f hc hX
              refine TK.skip ?_
              refine hK34 _ _ ?_
              refine TK.reg ?_
              refine M rfl rfl (P1 (p_add rfl rfl) rfl rfl (M rfl rfl (TL.nil ?_)))
              exact ⟨_, (some_in hX).symm, b29, rfl, (Nd.pick nd (is := [0]) (by decide)), (HSub.pick nd (is := [0]) (by decide))⟩
          · have hX := ite_f hc hX
            refine TK.exit ?_
            obtain rfl := hR28 _ (some_in hX).symm
            exact E28 _ _ ⟨(), rfl, (Nd.pick nd (is := []) (by decide)), (HSub.pick nd (is := []) (by decide))⟩ hA28
    refine TK.iter [0, 1, 2, 8, 9] (fun s env h => match s with | (l14, i15) => ∃ _u : Unit, env = [(0, true, Enc.v (n1 : Int)), (1, true, Enc.v (missing2 : Int)), (2, true, Enc.v (whole3 : Bool)), (8, true, Enc.v (l14 : (List Part_api))), (9, true, Enc.v (i15 : Int))] ∧ Nd [] ∧ HSub [] h) hO13 ⟨(), rfl, Nd_nil, HSub.refl _⟩ ?_
    rintro ⟨l14, i15⟩ env h x13x ⟨_u, rfl, nd, hs⟩ hX hR13
    refine TK.subH hs ?_
    unfold X.cartridgelaw17_CatalogGaps_s13 at hX
    try dsimp only at hX
    refine TK.seq_k fun K38 hK38 => ?_
    refine SR fun K39 hK39 => M rfl rfl (M rfl rfl (P1 (p_lss rfl rfl) rfl rfl (TL.nil (hK39 _ _ ?_))))
    refine TK.cond (b := (decide (i15 < n1))) rfl (fun hc => ?_) (fun hc => ?_)
    · have hX := ite_t hc hX
      refine TK.skip ?_
      refine hK38 _ _ ?_
      refine TK.seq_k fun K40 hK40 => ?_
      have J40 : ∀ (l41 : (List Part_api)) (env : Env) (h : Hp), (∃ _u : Unit, keepE [0, 1, 2, 8, 9] env = [(0, true, Enc.v (n1 : Int)), (1, true, Enc.v (missing2 : Int)), (2, true, Enc.v (whole3 : Bool)), (8, true, Enc.v (l41 : (List Part_api))), (9, true, Enc.v (i15 : Int))] ∧ Nd [] ∧ HSub [] h) → X.cartridgelaw17_CatalogGaps_j40 i15 l41 = some x13x → K40 env h := by
        intro l41 env h hE hX
        obtain ⟨_u, henv, nd, hs⟩ := hE
        unfold X.cartridgelaw17_CatalogGaps_j40 at hX
        refine hK40 _ _ (TK.keep [0, 1, 2, 8, 9] ?_)
        rw [henv]
        refine TK.subH hs ?_
        refine TK.reg ?_
        refine M rfl rfl (P1 (p_add rfl rfl) rfl rfl (M rfl rfl (TL.nil ?_)))
        exact ⟨_, (some_in hX).symm, (), rfl, Nd_nil, HSub.refl _⟩
      refine TK.block ?_
      refine TK.seq_k fun K42 hK42 => ?_
      refine SR fun K43 hK43 => M rfl rfl (M rfl rfl (P1 (p_eql rfl rfl) rfl rfl (M rfl rfl ?_)))
      refine TL.p (C := cx) (gc := ((i15 == missing2))) (p_mv rfl (hg := fun e => rfl)) (gcT1 rfl) rfl ?_
      refine TL.p (C := cx) (gc := ((i15 == missing2))) (p_not rfl (hg := fun e => e)) (gcT1 rfl) rfl ?_
      refine P1 (p_and rfl rfl (fun e => ⟨rfl, fun h => h⟩)) rfl rfl (TL.nil (hK43 _ _ ?_))
      refine TK.cond (b := ((i15 == missing2) && (!whole3))) rfl (fun hc => ?_) (fun hc => ?_)
      · have hX := ite_t hc hX
        refine TK.exit ?_
        exact J40 l14 _ _ ⟨(), rfl, Nd_nil, HSub.refl _⟩ hX
      · have hX := ite_f hc hX
        refine TK.skip ?_
        refine hK42 _ _ ?_
        refine TK.reg ?_
        refine M rfl rfl (P1 (p_mul rfl rfl) rfl rfl (M rfl rfl (P1 (p_mul rfl rfl) rfl rfl ?_)))
        refine P1 (p_bld (l := Enc.cl ((Head_api.mk (Str.mk [97]) (1 : Int) (wr ((10 : Int) * n1)) (wr ((10 : Int) * i15)) (10 : Int) (1 : Int) (0 : Int) false) : Head_api)) ty23 rfl all23 rfl (fun _ => ⟨⟨rfl, trivial, rfl⟩, ⟨rfl, trivial, rfl⟩, ⟨rfl, trivial, rfl⟩, ⟨rfl, trivial, rfl⟩, ⟨rfl, trivial, rfl⟩, ⟨rfl, trivial, rfl⟩, trivial⟩)) rfl rfl (M rfl rfl (P1 (p_add rfl rfl) rfl rfl ?_))
        refine P1 (p_bld (l := Enc.cl ((Part_api.mk (Head_api.mk (Str.mk [97]) (1 : Int) (wr ((10 : Int) * n1)) (wr ((10 : Int) * i15)) (10 : Int) (1 : Int) (0 : Int) false) (wr (i15 + (1 : Int))) (1 : Int)) : Part_api)) ty48 rfl all48 rfl (fun _ => ⟨⟨rfl, trivial, rfl⟩, ⟨rfl, trivial, rfl⟩, ⟨rfl, trivial, rfl⟩, trivial⟩)) rfl rfl ?_
        refine TL.litO (C := cx) nd ([(Part_api.mk (Head_api.mk (Str.mk [97]) (1 : Int) (wr ((10 : Int) * n1)) (wr ((10 : Int) * i15)) (10 : Int) (1 : Int) (0 : Int) false) (wr (i15 + (1 : Int))) (1 : Int))] : List Part_api) kd44 ty48 rfl ⟨⟨rfl, rfl⟩, trivial⟩ rfl rfl rfl fun b44 nd => ?_
        refine M rfl rfl ?_
        obtain ⟨u45, hu45, hX⟩ := bind_some hX
        refine TL.appO (C := cx) nd kd44 bo44 ty48 rfl rfl (j := 0) rfl rfl (Src_L _) (by decide) (need_t hu45) rfl fun nd => ?_
        refine M rfl rfl ?_
        refine TL.lay [(8, L (([(Part_api.mk (Head_api.mk (Str.mk [97]) (1 : Int) (wr ((10 : Int) * n1)) (wr ((10 : Int) * i15)) (10 : Int) (1 : Int) (0 : Int) false) (wr (i15 + (1 : Int))) (1 : Int))] : List Part_api) ++ l14)), (56, L (([(Part_api.mk (Head_api.mk (Str.mk [97]) (1 : Int) (wr ((10 : Int) * n1)) (wr ((10 : Int) * i15)) (10 : Int) (1 : Int) (0 : Int) false) (wr (i15 + (1 : Int))) (1 : Int))] : List Part_api) ++ l14))] nd (j := 0) rfl ⟨⟨_, rfl, fix_OL nd (j := 0) rfl, rfl⟩, ⟨⟨_, rfl, fix_OL nd (j := 0) rfl, rfl⟩, trivial⟩⟩ fun nd => ?_
        refine TL.nil ?_
        exact J40 (([(Part_api.mk (Head_api.mk (Str.mk [97]) (1 : Int) (wr ((10 : Int) * n1)) (wr ((10 : Int) * i15)) (10 : Int) (1 : Int) (0 : Int) false) (wr (i15 + (1 : Int))) (1 : Int))] : List Part_api) ++ l14) _ _ ⟨(), rfl, Nd_nil, HSub.refl _⟩ hX
    · have hX := ite_f hc hX
      refine TK.exit ?_
      obtain rfl := hR13 _ (some_in hX).symm
      exact E13 l14 _ _ ⟨(), rfl, Nd_nil, HSub.refl _⟩ hA13

end Go.Proofs.YtliahlgkinhjlaaDoor
