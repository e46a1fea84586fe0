import Derived.Test.YtndjbcnpgggddaaXFn
import Derived.Test.YtndjbcnpgggddaaXS
import Derived.Test.YtndjbcnpgggddaaAmK0
import Derived.Test.YtndjbcnpgggddaaSh
/- That they do. -/
namespace Go.Proofs.Ytndjbcnpgggddaa
open Go.AM Go.AX
set_option linter.unusedVariables false
set_option maxRecDepth 20000

/-- cartridge/listing.newest -/
theorem bc49 : BodyC cx 49 35 [.c 4 36, .t 5] k49 := ⟨Enters.of Try.func49 (by kernel_rfl) (by kernel_rfl), _, _, Try.func49, rfl, by kernel_rfl, rfl, rfl⟩
theorem ok_listing_newest (l1 : (List File_api)) (path2 : Str) (r : (File_api × Bool)) (hX : X.listing_newest l1 path2 = some r) : Fun Try.prog 49 [Enc.v (l1 : (List File_api)), Enc.v (path2 : Str)] (· = .tup 2 (ofL [Enc.v r.1, Enc.v r.2])) := by
  refine Fun.ofC (C := cx) bc49 (Nat.le_of_ble_eq_true rfl) (allVal.mem ⟨(by exact (v_val _)), (by exact (v_val _)), trivial⟩) ?_
  unfold k49
  have nd : Nd [] := Nd_nil
  unfold X.listing_newest at hX
  refine TK.seq_k fun K3 hK3 => ?_
  refine TK.reg ?_
  refine TL.alO (C := cx) (l := [Enc.v ((Str.mk []) : Str), Enc.v ((0 : Int) : Int), Enc.v ((0 : Int) : Int), Enc.v ((0 : Int) : Int), Enc.v ((0 : Int) : Int), Enc.v (false : Bool), .nils]) nd ty36 ti36_z rfl rfl fun b4 nd => ?_
  refine TL.p (C := cx) (gc := true) (p_mv rfl) rfl rfl ?_
  refine TL.nil ?_
  refine hK3 _ _ ?_
  refine TK.cvR nd (j := 0) rfl (l' := [Enc.v ((Str.mk []) : Str), Enc.v ((0 : Int) : Int), Enc.v ((0 : Int) : Int), Enc.v ((0 : Int) : Int), Enc.v ((0 : Int) : Int), Enc.v (false : Bool), Enc.v (([] : (List Part_api)) : (List Part_api))]) ⟨Wk.refl _, Wk.refl _, Wk.refl _, Wk.refl _, Wk.refl _, Wk.refl _, Wk_nil, trivial⟩ fun nd => ?_
  refine TK.seq_k fun K5 hK5 => ?_
  refine TK.reg ?_
  refine TL.alO (C := cx) (l := [Enc.v ((Str.mk []) : Str), Enc.v ((0 : Int) : Int), Enc.v ((0 : Int) : Int), Enc.v ((0 : Int) : Int), Enc.v ((0 : Int) : Int), Enc.v (false : Bool), .nils]) nd ty36 ti36_z rfl rfl fun b6 nd => ?_
  refine TL.nil ?_
  refine hK5 _ _ ?_
  refine TK.cvR nd (j := 0) rfl (l' := [Enc.v ((Str.mk []) : Str), Enc.v ((0 : Int) : Int), Enc.v ((0 : Int) : Int), Enc.v ((0 : Int) : Int), Enc.v ((0 : Int) : Int), Enc.v (false : Bool), Enc.v (([] : (List Part_api)) : (List Part_api))]) ⟨Wk.refl _, Wk.refl _, Wk.refl _, Wk.refl _, Wk.refl _, Wk.refl _, Wk_nil, trivial⟩ fun nd => ?_
  refine TK.seq_k fun K7 hK7 => ?_
  refine TK.reg ?_
  refine TL.p (C := cx) (gc := true) (p_mv rfl) rfl rfl ?_
  refine TL.nil ?_
  refine hK7 _ _ ?_
  refine TK.seq_k fun K8 hK8 => ?_
  refine TK.seq_k fun K9 hK9 => ?_
  refine TK.reg ?_
  refine TL.p (C := cx) (gc := true) (p_mv rfl) rfl rfl ?_
  refine TL.p (C := cx) (gc := true) (p_lenL (xs := l1) kd31 rfl) rfl rfl ?_
  refine TL.p (C := cx) (gc := true) (p_mv rfl) rfl rfl ?_
  refine TL.nil ?_
  refine hK9 _ _ ?_
  refine TK.block ?_
  obtain ⟨o10, hO10, hA10⟩ := bind_some hX
  have E10 : ∀ (c24 : Str) (c25 : Int) (c26 : Int) (c27 : Int) (c28 : Int) (c29 : Bool) (c30 : (List Part_api)) (ok31 : Bool) (env : Env) (h : Hp), (∃ b22 b23, keepE [4, 6, 7] env = [(4, true, .ref b22 0 7), (6, true, .ref b23 0 7), (7, true, Enc.v (ok31 : Bool))] ∧ Nd [(b22, RV 36 [Enc.v ((Str.mk []) : Str), Enc.v ((0 : Int) : Int), Enc.v ((0 : Int) : Int), Enc.v ((0 : Int) : Int), Enc.v ((0 : Int) : Int), Enc.v (false : Bool), Enc.v (([] : (List Part_api)) : (List Part_api))]), (b23, RV 36 [Enc.v (c24 : Str), Enc.v (c25 : Int), Enc.v (c26 : Int), Enc.v (c27 : Int), Enc.v (c28 : Int), Enc.v (c29 : Bool), Enc.v (c30 : (List Part_api))])] ∧ HSub [(b22, RV 36 [Enc.v ((Str.mk []) : Str), Enc.v ((0 : Int) : Int), Enc.v ((0 : Int) : Int), Enc.v ((0 : Int) : Int), Enc.v ((0 : Int) : Int), Enc.v (false : Bool), Enc.v (([] : (List Part_api)) : (List Part_api))]), (b23, RV 36 [Enc.v (c24 : Str), Enc.v (c25 : Int), Enc.v (c26 : Int), Enc.v (c27 : Int), Enc.v (c28 : Int), Enc.v (c29 : Bool), Enc.v (c30 : (List Part_api))])] h) → X.listing_newest_e10 c24 c25 c26 c27 c28 c29 c30 ok31 = some r → K8 env h := by
    intro c24 c25 c26 c27 c28 c29 c30 ok31 env h hE hX
    obtain ⟨b22, b23, henv, nd, hs⟩ := hE
    unfold X.listing_newest_e10 at hX
    refine hK8 _ _ (TK.keep [4, 6, 7] ?_)
    rw [henv]
    refine TK.subH hs ?_
    refine TK.seq_k fun K32 hK32 => ?_
    refine TK.reg ?_
    refine TL.p (C := cx) (gc := true) (p_ldVa (l' := Enc.cl ((File_api.mk c24 c25 c26 c27 c28 c29 c30) : File_api)) ty36 rfl rfl nd (j := 1) rfl rfl rfl rfl (Nat.le_of_ble_eq_true rfl)) rfl rfl ?_
    refine TL.p (C := cx) (gc := true) (p_mv rfl) rfl rfl ?_
    refine TL.stV (C := cx) (lu := Enc.cl ((File_api.mk c24 c25 c26 c27 c28 c29 c30) : File_api)) nd ty36 rfl (j := 0) rfl rfl rfl (Cells_v ((File_api.mk c24 c25 c26 c27 c28 c29 c30) : File_api)) rfl rfl [Enc.v ((File_api.mk c24 c25 c26 c27 c28 c29 c30).Path : Str), Enc.v ((File_api.mk c24 c25 c26 c27 c28 c29 c30).Version : Int), Enc.v ((File_api.mk c24 c25 c26 c27 c28 c29 c30).Size : Int), Enc.v ((File_api.mk c24 c25 c26 c27 c28 c29 c30).Sum : Int), Enc.v ((File_api.mk c24 c25 c26 c27 c28 c29 c30).Serial : Int), Enc.v ((File_api.mk c24 c25 c26 c27 c28 c29 c30).Gone : Bool), Enc.v ((File_api.mk c24 c25 c26 c27 c28 c29 c30).Parts : (List Part_api))] rfl fun nd => ?_
    refine TL.p (C := cx) (gc := true) (p_mv rfl) rfl rfl ?_
    refine TL.nil ?_
    refine hK32 _ _ ?_
    refine TK.ret ?_
    try dsimp only [thenQ]
    exact retC [Enc.v ((File_api.mk c24 c25 c26 c27 c28 c29 c30) : File_api), Enc.v (ok31 : Bool)] ⟨p_ldVa (l' := Enc.cl ((File_api.mk c24 c25 c26 c27 c28 c29 c30) : File_api)) ty36 rfl rfl nd (j := 0) rfl rfl rfl rfl (Nat.le_of_ble_eq_true rfl), p_mv rfl, trivial⟩ (by obtain rfl := some_in hX; rfl) (tup_val (allVal.mem ⟨v_val _, v_val _, trivial⟩))
  refine TK.iter [1, 4, 6, 7, 10, 11, 12] (fun s env h => match s with | (c13, c14, c15, c16, c17, c18, c19, ok20, x21) => ∃ b11 b12, env = [(1, true, Enc.v (path2 : Str)), (4, true, .ref b11 0 7), (6, true, .ref b12 0 7), (7, true, Enc.v (ok20 : Bool)), (10, true, Enc.v (l1 : (List File_api))), (11, true, Enc.v ((l1.length : Int) : Int)), (12, true, Enc.v (x21 : Int))] ∧ Nd [(b11, RV 36 [Enc.v ((Str.mk []) : Str), Enc.v ((0 : Int) : Int), Enc.v ((0 : Int) : Int), Enc.v ((0 : Int) : Int), Enc.v ((0 : Int) : Int), Enc.v (false : Bool), Enc.v (([] : (List Part_api)) : (List Part_api))]), (b12, RV 36 [Enc.v (c13 : Str), Enc.v (c14 : Int), Enc.v (c15 : Int), Enc.v (c16 : Int), Enc.v (c17 : Int), Enc.v (c18 : Bool), Enc.v (c19 : (List Part_api))])] ∧ HSub [(b11, RV 36 [Enc.v ((Str.mk []) : Str), Enc.v ((0 : Int) : Int), Enc.v ((0 : Int) : Int), Enc.v ((0 : Int) : Int), Enc.v ((0 : Int) : Int), Enc.v (false : Bool), Enc.v (([] : (List Part_api)) : (List Part_api))]), (b12, RV 36 [Enc.v (c13 : Str), Enc.v (c14 : Int), Enc.v (c15 : Int), Enc.v (c16 : Int), Enc.v (c17 : Int), Enc.v (c18 : Bool), Enc.v (c19 : (List Part_api))])] h) hO10 ⟨b4, b6, rfl, (Nd.pick nd (is := [1, 0]) (by decide)), (HSub.pick nd (is := [1, 0]) (by decide))⟩ ?_
  rintro ⟨c13, c14, c15, c16, c17, c18, c19, ok20, x21⟩ env h x10x ⟨b11, b12, rfl, nd, hs⟩ hX hR10
  refine TK.subH hs ?_
  unfold X.listing_newest_s10 at hX
  try dsimp only at hX
  refine TK.seq_k fun K33 hK33 => ?_
  refine TK.reg ?_
  refine TL.p (C := cx) (gc := true) (p_lss rfl rfl) rfl rfl ?_
  refine TL.nil ?_
  refine hK33 _ _ ?_
  refine TK.seq_k fun K34 hK34 => ?_
  refine TK.cond (b := (decide (x21 < (l1.length : Int)))) rfl (fun hc => ?_) (fun hc => ?_)
  · have hX := ite_t hc hX
    refine TK.skip ?_
    refine hK34 _ _ ?_
    refine TK.seq_k fun K35 hK35 => ?_
    refine TK.block ?_
    refine TK.seq_k fun K36 hK36 => ?_
    refine TK.reg ?_
    obtain ⟨e37, he37, hX⟩ := bind_some hX
    refine TL.p (C := cx) (gc := true) (p_iaL (xs := l1) kd31 ty36 rfl rfl rfl (fun _ => he37)) rfl rfl ?_
    refine TL.p (C := cx) (gc := true) (p_ldE (xs := l1) (a := e37) (e37 : File_api) ty36 rfl rfl (fun _ => he37) rfl rfl rfl) rfl rfl ?_
    refine TL.alO (C := cx) (l := [Enc.v ((Str.mk []) : Str), Enc.v ((0 : Int) : Int), Enc.v ((0 : Int) : Int), Enc.v ((0 : Int) : Int), Enc.v ((0 : Int) : Int), Enc.v (false : Bool), .nils]) nd ty36 ti36_z rfl rfl fun b38 nd => ?_
    refine TL.stV (C := cx) (lu := Enc.cl (e37 : File_api)) nd ty36 rfl (j := 0) rfl rfl rfl (Cells_v (e37 : File_api)) rfl rfl [Enc.v (e37.Path : Str), Enc.v (e37.Version : Int), Enc.v (e37.Size : Int), Enc.v (e37.Sum : Int), Enc.v (e37.Serial : Int), Enc.v (e37.Gone : Bool), Enc.v (e37.Parts : (List Part_api))] rfl fun nd => ?_
    refine TL.nil ?_
    refine hK36 _ _ ?_
    refine TK.seq_k fun K39 hK39 => ?_
    refine TK.reg ?_
    refine TL.p (C := cx) (gc := true) (p_faV fs36_0 (by decide) rfl nd (j := 0) rfl rfl) rfl rfl ?_
    refine TL.p (C := cx) (gc := true) (p_ldV (v := Enc.v (e37.Path : Str)) ty9 rfl rfl nd (j := 0) rfl rfl rfl rfl rfl) rfl rfl ?_
    refine TL.p (C := cx) (gc := true) (p_mv rfl) rfl rfl ?_
    refine TL.p (C := cx) (gc := true) (ps_eql (s := e37.Path) (r := path2) rfl rfl) rfl rfl ?_
    refine TL.p (C := cx) (gc := true) (p_mv rfl) rfl rfl ?_
    refine TL.p (C := cx) (gc := ((e37.Path.l == path2.l))) (p_mv rfl (hg := fun e => rfl)) (gcT1 rfl) rfl ?_
    refine TL.p (C := cx) (gc := ((e37.Path.l == path2.l))) (p_not rfl (hg := fun e => e)) (gcT1 rfl) rfl ?_
    refine TL.p (C := cx) (gc := ((e37.Path.l == path2.l))) (p_mv rfl (hg := fun e => e)) (gcT1 rfl) rfl ?_
    refine TL.p (C := cx) (gc := (((e37.Path.l == path2.l)) && (!((!ok20))))) (p_faV fs36_1 (by decide) rfl nd (j := 0) rfl rfl (hg := fun e => rfl)) (gcF rfl) rfl ?_
    refine TL.p (C := cx) (gc := (((e37.Path.l == path2.l)) && (!((!ok20))))) (p_ldV (v := Enc.v (e37.Version : Int)) ty3 rfl rfl nd (j := 0) rfl rfl rfl rfl rfl (hg := fun e => e)) (gcF rfl) rfl ?_
    refine TL.p (C := cx) (gc := (((e37.Path.l == path2.l)) && (!((!ok20))))) (p_faV fs36_1 (by decide) rfl nd (j := 2) rfl rfl (hg := fun e => rfl)) (gcF rfl) rfl ?_
    refine TL.p (C := cx) (gc := (((e37.Path.l == path2.l)) && (!((!ok20))))) (p_ldV (v := Enc.v (c14 : Int)) ty3 rfl rfl nd (j := 2) rfl rfl rfl rfl rfl (hg := fun e => e)) (gcF rfl) rfl ?_
    refine TL.p (C := cx) (gc := (((e37.Path.l == path2.l)) && (!((!ok20))))) (p_gtr rfl rfl (hg := fun e => ⟨e, e⟩)) (gcF rfl) rfl ?_
    refine TL.p (C := cx) (gc := ((e37.Path.l == path2.l))) (p_or rfl rfl (fun e => ⟨e, fun h => (and_i e (not_t h))⟩)) (gcT1 rfl) rfl ?_
    refine TL.p (C := cx) (gc := true) (p_and rfl rfl (fun e => ⟨rfl, fun h => h⟩)) rfl rfl ?_
    refine TL.nil ?_
    refine hK39 _ _ ?_
    refine TK.cond (b := ((e37.Path.l == path2.l) && ((!ok20) || (decide (e37.Version > c14))))) rfl (fun hc => ?_) (fun hc => ?_)
    · have hX := ite_t hc hX
      refine TK.reg ?_
      refine TL.p (C := cx) (gc := true) (p_ldVa (l' := Enc.cl (e37 : File_api)) ty36 rfl rfl nd (j := 0) rfl rfl rfl rfl (Nat.le_of_ble_eq_true rfl)) rfl rfl ?_
      refine TL.stV (C := cx) (lu := Enc.cl (e37 : File_api)) nd ty36 rfl (j := 2) rfl rfl rfl (Cells_v (e37 : File_api)) rfl rfl [Enc.v (e37.Path : Str), Enc.v (e37.Version : Int), Enc.v (e37.Size : Int), Enc.v (e37.Sum : Int), Enc.v (e37.Serial : Int), Enc.v (e37.Gone : Bool), Enc.v (e37.Parts : (List Part_api))] rfl fun nd => ?_
      refine TL.p (C := cx) (gc := true) (p_mv rfl) rfl rfl ?_
      refine TL.nil ?_
      refine hK35 _ _ ?_
      refine TK.reg ?_
      refine TL.p (C := cx) (gc := true) (p_add rfl rfl) rfl rfl ?_
      refine TL.p (C := cx) (gc := true) (p_mv rfl) rfl rfl ?_
      refine TL.nil ?_
      exact ⟨_, (some_in hX).symm, b11, b12, rfl, (Nd.pick nd (is := [1, 2]) (by decide)), (HSub.pick nd (is := [1, 2]) (by decide))⟩
    · have hX := ite_f hc hX
      refine TK.skip ?_
      refine hK35 _ _ ?_
      refine TK.reg ?_
      refine TL.p (C := cx) (gc := true) (p_add rfl rfl) rfl rfl ?_
      refine TL.p (C := cx) (gc := true) (p_mv rfl) rfl rfl ?_
      refine TL.nil ?_
      exact ⟨_, (some_in hX).symm, b11, b12, rfl, (Nd.pick nd (is := [1, 2]) (by decide)), (HSub.pick nd (is := [1, 2]) (by decide))⟩
  · have hX := ite_f hc hX
    refine TK.exit ?_
    obtain rfl := hR10 _ (some_in hX).symm
    exact E10 c13 c14 c15 c16 c17 c18 c19 ok20 _ _ ⟨b11, b12, rfl, (Nd.pick nd (is := [0, 1]) (by decide)), (HSub.pick nd (is := [0, 1]) (by decide))⟩ hA10

/-- slices.Clone[[]cartridge/api.Part,cartridge/api.Part] -/
theorem ok_slices_Clone_Lapi_Part_api_Part (s1 : (List Part_api)) (r : (List Part_api)) (hX : X.slices_Clone_Lapi_Part_api_Part s1 = some r) : Fun Try.prog 139 [Enc.v (s1 : (List Part_api))] (· = Enc.v (r : (List Part_api))) := by
  refine Fun.of b139 (Nat.le_of_ble_eq_true rfl) (allVal.mem ⟨(by exact (v_val _)), trivial⟩) ?_
  unfold k139
  have nd : Nd [] := Nd_nil
  unfold X.slices_Clone_Lapi_Part_api_Part at hX
  refine TK.seq_k fun K2 hK2 => ?_
  refine TK.reg ?_
  refine TL.p (C := cx) (gc := true) (p_mv rfl) rfl rfl ?_
  refine TL.nil ?_
  refine hK2 _ _ ?_
  refine TK.seq_k fun K3 hK3 => ?_
  refine TK.seq_k fun K4 hK4 => ?_
  refine TK.reg ?_
  refine TL.p (C := cx) (gc := true) (p_mv rfl) rfl rfl ?_
  refine TL.eqNilU (C := cx) (xs := s1) kd34 rfl rfl rfl fun z5 hbz5 => ?_
  replace hX := nilU_t hX hbz5
  refine TL.nil ?_
  refine hK4 _ _ ?_
  refine TK.cond (b := z5) rfl (fun hc => ?_) (fun hc => ?_)
  · have hX := ite_t hc hX
    refine TK.seq_k fun K6 hK6 => ?_
    refine TK.reg ?_
    refine TL.p (C := cx) (gc := true) (p_mv rfl) rfl rfl ?_
    refine TL.nil ?_
    refine hK6 _ _ ?_
    refine TK.wk 2 (L ([] : (List Part_api))) rfl Wk_nil ?_
    refine TK.ret ?_
    try dsimp only [thenQ]
    exact ret1 (v := Enc.v (([] : (List Part_api)) : (List Part_api))) rfl (by obtain rfl := some_in hX; rfl) (v_val _)
  · have hX := ite_f hc hX
    refine TK.skip ?_
    refine hK3 _ _ ?_
    refine TK.seq_k fun K7 hK7 => ?_
    refine TK.reg ?_
    refine TL.litZ (C := cx) kd34 ty87 rfl ?_
    refine TL.p (C := cx) (gc := true) (p_mv rfl) rfl rfl ?_
    obtain ⟨u9, hu9, hX⟩ := bind_some hX
    refine TL.appN (C := cx) nd kd34 bo34 ty87 rfl rfl (.inr rfl) rfl (Src_L _) (by decide) (need_t hu9) rfl fun b10 nd => ?_
    refine TL.p (C := cx) (gc := true) (p_mv rfl) rfl rfl ?_
    refine TL.nil ?_
    refine hK7 _ _ ?_
    refine TK.lay [(2, L s1)] nd (j := 0) rfl ⟨⟨_, rfl, fix_OL nd (j := 0) rfl, rfl⟩, trivial⟩ fun nd => ?_
    refine TK.ret ?_
    try dsimp only [thenQ]
    exact ret1 (v := Enc.v (s1 : (List Part_api))) rfl (by obtain rfl := some_in hX; rfl) (v_val _)

/-- cartridge/listing.Clone -/
theorem bc87 : BodyC cx 87 8 [.c 2 36] k87 := ⟨Enters.of Try.func87 (by kernel_rfl) (by kernel_rfl), _, _, Try.func87, rfl, by kernel_rfl, rfl, rfl⟩
theorem ok_listing_Clone (f1 : File_api) (r : File_api) (hX : X.listing_Clone f1 = some r) : Fun Try.prog 87 [Enc.v (f1 : File_api)] (· = Enc.v (r : File_api)) := by
  refine Fun.ofC (C := cx) bc87 (Nat.le_of_ble_eq_true rfl) (allVal.mem ⟨(by exact (v_val _)), trivial⟩) ?_
  unfold k87
  have nd : Nd [] := Nd_nil
  unfold X.listing_Clone at hX
  refine TK.seq_k fun K2 hK2 => ?_
  refine TK.reg ?_
  refine TL.boxO (C := cx) (lu := [Enc.v (f1.Path : Str), Enc.v (f1.Version : Int), Enc.v (f1.Size : Int), Enc.v (f1.Sum : Int), Enc.v (f1.Serial : Int), Enc.v (f1.Gone : Bool), Enc.v (f1.Parts : (List Part_api))]) nd rfl (Cells_v (f1 : File_api)) rfl fun b3 nd => ?_
  refine TL.alO (C := cx) (l := [Enc.v ((Str.mk []) : Str), Enc.v ((0 : Int) : Int), Enc.v ((0 : Int) : Int), Enc.v ((0 : Int) : Int), Enc.v ((0 : Int) : Int), Enc.v (false : Bool), .nils]) nd ty36 ti36_z rfl rfl fun b4 nd => ?_
  refine TL.nil ?_
  refine hK2 _ _ ?_
  refine TK.cvR nd (j := 0) rfl (l' := [Enc.v ((Str.mk []) : Str), Enc.v ((0 : Int) : Int), Enc.v ((0 : Int) : Int), Enc.v ((0 : Int) : Int), Enc.v ((0 : Int) : Int), Enc.v (false : Bool), Enc.v (([] : (List Part_api)) : (List Part_api))]) ⟨Wk.refl _, Wk.refl _, Wk.refl _, Wk.refl _, Wk.refl _, Wk.refl _, Wk_nil, trivial⟩ fun nd => ?_
  refine TK.seq_k fun K5 hK5 => ?_
  refine TK.reg ?_
  refine TL.p (C := cx) (gc := true) (p_faV fs36_6 (by decide) rfl nd (j := 1) rfl rfl) rfl rfl ?_
  refine TL.p (C := cx) (gc := true) (p_ldV (v := Enc.v (f1.Parts : (List Part_api))) ty34 rfl rfl nd (j := 1) rfl rfl rfl rfl rfl) rfl rfl ?_
  obtain ⟨r6, hr6, hX⟩ := bind_some hX
  refine TL.cvX rfl rfl rfl (fun _ => ⟨rfl, ⟨rfl, trivial⟩⟩) (fun e => ok_slices_Clone_Lapi_Part_api_Part f1.Parts _ hr6) ?_
  refine TL.p (C := cx) (gc := true) (p_faV fs36_6 (by decide) rfl nd (j := 1) rfl rfl) rfl rfl ?_
  refine TL.stV (C := cx) (lu := Enc.cl (r6 : (List Part_api))) nd ty34 rfl (j := 1) rfl rfl rfl (Cells_v (r6 : (List Part_api))) rfl rfl [Enc.v (f1.Path : Str), Enc.v (f1.Version : Int), Enc.v (f1.Size : Int), Enc.v (f1.Sum : Int), Enc.v (f1.Serial : Int), Enc.v (f1.Gone : Bool), Enc.v (r6 : (List Part_api))] rfl fun nd => ?_
  refine TL.nil ?_
  refine hK5 _ _ ?_
  refine TK.seq_k fun K7 hK7 => ?_
  refine TK.reg ?_
  refine TL.p (C := cx) (gc := true) (p_ldVa (l' := Enc.cl ((File_api.mk f1.Path f1.Version f1.Size f1.Sum f1.Serial f1.Gone r6) : File_api)) ty36 rfl rfl nd (j := 1) rfl rfl rfl rfl (Nat.le_of_ble_eq_true rfl)) rfl rfl ?_
  refine TL.stV (C := cx) (lu := Enc.cl ((File_api.mk f1.Path f1.Version f1.Size f1.Sum f1.Serial f1.Gone r6) : File_api)) nd ty36 rfl (j := 0) rfl rfl rfl (Cells_v ((File_api.mk f1.Path f1.Version f1.Size f1.Sum f1.Serial f1.Gone r6) : File_api)) rfl rfl [Enc.v ((File_api.mk f1.Path f1.Version f1.Size f1.Sum f1.Serial f1.Gone r6).Path : Str), Enc.v ((File_api.mk f1.Path f1.Version f1.Size f1.Sum f1.Serial f1.Gone r6).Version : Int), Enc.v ((File_api.mk f1.Path f1.Version f1.Size f1.Sum f1.Serial f1.Gone r6).Size : Int), Enc.v ((File_api.mk f1.Path f1.Version f1.Size f1.Sum f1.Serial f1.Gone r6).Sum : Int), Enc.v ((File_api.mk f1.Path f1.Version f1.Size f1.Sum f1.Serial f1.Gone r6).Serial : Int), Enc.v ((File_api.mk f1.Path f1.Version f1.Size f1.Sum f1.Serial f1.Gone r6).Gone : Bool), Enc.v ((File_api.mk f1.Path f1.Version f1.Size f1.Sum f1.Serial f1.Gone r6).Parts : (List Part_api))] rfl fun nd => ?_
  refine TL.nil ?_
  refine hK7 _ _ ?_
  refine TK.ret ?_
  try dsimp only [thenQ]
  exact retC [Enc.v ((File_api.mk f1.Path f1.Version f1.Size f1.Sum f1.Serial f1.Gone r6) : File_api)] ⟨p_ldVa (l' := Enc.cl ((File_api.mk f1.Path f1.Version f1.Size f1.Sum f1.Serial f1.Gone r6) : File_api)) ty36 rfl rfl nd (j := 0) rfl rfl rfl rfl (Nat.le_of_ble_eq_true rfl), trivial⟩ (by obtain rfl := some_in hX; rfl) (v_val _)

/-- cartridge/listing.there -/
theorem bc48 : BodyC cx 48 15 [.c 4 36, .t 5] k48 := ⟨Enters.of Try.func48 (by kernel_rfl) (by kernel_rfl), _, _, Try.func48, rfl, by kernel_rfl, rfl, rfl⟩
theorem ok_listing_there (f1 : File_api) (ok2 : Bool) (r : (File_api × Bool)) (hX : X.listing_there f1 ok2 = some r) : Fun Try.prog 48 [Enc.v (f1 : File_api), Enc.v (ok2 : Bool)] (· = .tup 2 (ofL [Enc.v r.1, Enc.v r.2])) := by
  refine Fun.ofC (C := cx) bc48 (Nat.le_of_ble_eq_true rfl) (allVal.mem ⟨(by exact (v_val _)), (by exact (v_val _)), trivial⟩) ?_
  unfold k48
  have nd : Nd [] := Nd_nil
  unfold X.listing_there at hX
  refine TK.seq_k fun K3 hK3 => ?_
  refine TK.reg ?_
  refine TL.boxV (C := cx) (lu := [Enc.v (f1.Path : Str), Enc.v (f1.Version : Int), Enc.v (f1.Size : Int), Enc.v (f1.Sum : Int), Enc.v (f1.Serial : Int), Enc.v (f1.Gone : Bool), Enc.v (f1.Parts : (List Part_api))]) nd rfl (Cells_v (f1 : File_api)) rfl ?_
  refine TL.alO (C := cx) (l := [Enc.v ((Str.mk []) : Str), Enc.v ((0 : Int) : Int), Enc.v ((0 : Int) : Int), Enc.v ((0 : Int) : Int), Enc.v ((0 : Int) : Int), Enc.v (false : Bool), .nils]) nd ty36 ti36_z rfl rfl fun b4 nd => ?_
  refine TL.p (C := cx) (gc := true) (p_mv rfl) rfl rfl ?_
  refine TL.nil ?_
  refine hK3 _ _ ?_
  refine TK.cvR nd (j := 0) rfl (l' := [Enc.v ((Str.mk []) : Str), Enc.v ((0 : Int) : Int), Enc.v ((0 : Int) : Int), Enc.v ((0 : Int) : Int), Enc.v ((0 : Int) : Int), Enc.v (false : Bool), Enc.v (([] : (List Part_api)) : (List Part_api))]) ⟨Wk.refl _, Wk.refl _, Wk.refl _, Wk.refl _, Wk.refl _, Wk.refl _, Wk_nil, trivial⟩ fun nd => ?_
  refine TK.seq_k fun K5 hK5 => ?_
  refine TK.seq_k fun K6 hK6 => ?_
  refine TK.reg ?_
  refine TL.p (C := cx) (gc := true) (p_mv rfl) rfl rfl ?_
  refine TL.p (C := cx) (gc := true) (p_not rfl) rfl rfl ?_
  refine TL.p (C := cx) (gc := true) (p_mv rfl) rfl rfl ?_
  refine TL.p (C := cx) (gc := (!((!ok2)))) (p_faR fs36_5 (by decide) rfl (hg := fun e => rfl)) (gcF1 rfl) rfl ?_
  refine TL.p (C := cx) (gc := (!((!ok2)))) (p_ldR (v := Enc.v (f1.Gone : Bool)) ty4 rfl rfl rfl rfl rfl rfl (hg := fun e => e)) (gcF1 rfl) rfl ?_
  refine TL.p (C := cx) (gc := true) (p_or rfl rfl (fun e => ⟨rfl, fun h => (not_t h)⟩)) rfl rfl ?_
  refine TL.nil ?_
  refine hK6 _ _ ?_
  refine TK.cond (b := ((!ok2) || f1.Gone)) rfl (fun hc => ?_) (fun hc => ?_)
  · have hX := ite_t hc hX
    refine TK.seq_k fun K7 hK7 => ?_
    refine TK.reg ?_
    refine TL.p (C := cx) (gc := true) (p_bld (l := [Enc.v ((Str.mk []) : Str), Enc.v ((0 : Int) : Int), Enc.v ((0 : Int) : Int), Enc.v ((0 : Int) : Int), Enc.v ((0 : Int) : Int), Enc.v (false : Bool), .nils]) ty36 rfl all36 rfl (fun _ => trivial)) rfl rfl (TL.wk (v' := Enc.v ((File_api.mk (Str.mk []) (0 : Int) (0 : Int) (0 : Int) (0 : Int) false ([] : (List Part_api))) : File_api)) (Wk_agg ⟨Wk.refl _, Wk.refl _, Wk.refl _, Wk.refl _, Wk.refl _, Wk.refl _, Wk_nil, trivial⟩) ?_)
    refine TL.stV (C := cx) (lu := Enc.cl ((File_api.mk (Str.mk []) (0 : Int) (0 : Int) (0 : Int) (0 : Int) false ([] : (List Part_api))) : File_api)) nd ty36 rfl (j := 0) rfl rfl rfl (Cells_v ((File_api.mk (Str.mk []) (0 : Int) (0 : Int) (0 : Int) (0 : Int) false ([] : (List Part_api))) : File_api)) rfl rfl [Enc.v ((File_api.mk (Str.mk []) (0 : Int) (0 : Int) (0 : Int) (0 : Int) false ([] : (List Part_api))).Path : Str), Enc.v ((File_api.mk (Str.mk []) (0 : Int) (0 : Int) (0 : Int) (0 : Int) false ([] : (List Part_api))).Version : Int), Enc.v ((File_api.mk (Str.mk []) (0 : Int) (0 : Int) (0 : Int) (0 : Int) false ([] : (List Part_api))).Size : Int), Enc.v ((File_api.mk (Str.mk []) (0 : Int) (0 : Int) (0 : Int) (0 : Int) false ([] : (List Part_api))).Sum : Int), Enc.v ((File_api.mk (Str.mk []) (0 : Int) (0 : Int) (0 : Int) (0 : Int) false ([] : (List Part_api))).Serial : Int), Enc.v ((File_api.mk (Str.mk []) (0 : Int) (0 : Int) (0 : Int) (0 : Int) false ([] : (List Part_api))).Gone : Bool), Enc.v ((File_api.mk (Str.mk []) (0 : Int) (0 : Int) (0 : Int) (0 : Int) false ([] : (List Part_api))).Parts : (List Part_api))] rfl fun nd => ?_
    refine TL.p (C := cx) (gc := true) (p_mv rfl) rfl rfl ?_
    refine TL.nil ?_
    refine hK7 _ _ ?_
    refine TK.ret ?_
    try dsimp only [thenQ]
    exact retC [Enc.v ((File_api.mk (Str.mk []) (0 : Int) (0 : Int) (0 : Int) (0 : Int) false ([] : (List Part_api))) : File_api), Enc.v (false : Bool)] ⟨p_ldVa (l' := Enc.cl ((File_api.mk (Str.mk []) (0 : Int) (0 : Int) (0 : Int) (0 : Int) false ([] : (List Part_api))) : File_api)) ty36 rfl rfl nd (j := 0) rfl rfl rfl rfl (Nat.le_of_ble_eq_true rfl), p_mv rfl, trivial⟩ (by obtain rfl := some_in hX; rfl) (tup_val (allVal.mem ⟨v_val _, v_val _, trivial⟩))
  · have hX := ite_f hc hX
    refine TK.skip ?_
    refine hK5 _ _ ?_
    refine TK.seq_k fun K8 hK8 => ?_
    refine TK.reg ?_
    refine TL.p (C := cx) (gc := true) (p_ldRa (l' := Enc.cl (f1 : File_api)) ty36 rfl rfl rfl rfl rfl (Nat.le_of_ble_eq_true rfl)) rfl rfl ?_
    obtain ⟨r9, hr9, hX⟩ := bind_some hX
    refine TL.cvX rfl rfl rfl (fun _ => ⟨rfl, ⟨rfl, trivial⟩⟩) (fun e => ok_listing_Clone f1 _ hr9) ?_
    refine TL.stV (C := cx) (lu := Enc.cl (r9 : File_api)) nd ty36 rfl (j := 0) rfl rfl rfl (Cells_v (r9 : File_api)) rfl rfl [Enc.v (r9.Path : Str), Enc.v (r9.Version : Int), Enc.v (r9.Size : Int), Enc.v (r9.Sum : Int), Enc.v (r9.Serial : Int), Enc.v (r9.Gone : Bool), Enc.v (r9.Parts : (List Part_api))] rfl fun nd => ?_
    refine TL.p (C := cx) (gc := true) (p_mv rfl) rfl rfl ?_
    refine TL.nil ?_
    refine hK8 _ _ ?_
    refine TK.ret ?_
    try dsimp only [thenQ]
    exact retC [Enc.v (r9 : File_api), Enc.v (true : Bool)] ⟨p_ldVa (l' := Enc.cl (r9 : File_api)) ty36 rfl rfl nd (j := 0) rfl rfl rfl rfl (Nat.le_of_ble_eq_true rfl), p_mv rfl, trivial⟩ (by obtain rfl := some_in hX; rfl) (tup_val (allVal.mem ⟨v_val _, v_val _, trivial⟩))

/-- cartridge/listing.Newest -/
theorem bc18 : BodyC cx 18 14 [.c 4 36, .t 5] k18 := ⟨Enters.of Try.func18 (by kernel_rfl) (by kernel_rfl), _, _, Try.func18, rfl, by kernel_rfl, rfl, rfl⟩
theorem ok_listing_Newest (l1 : (List File_api)) (path2 : Str) (r : (File_api × Bool)) (hX : X.listing_Newest l1 path2 = some r) : Fun Try.prog 18 [Enc.v (l1 : (List File_api)), Enc.v (path2 : Str)] (· = .tup 2 (ofL [Enc.v r.1, Enc.v r.2])) := by
  refine Fun.ofC (C := cx) bc18 (Nat.le_of_ble_eq_true rfl) (allVal.mem ⟨(by exact (v_val _)), (by exact (v_val _)), trivial⟩) ?_
  unfold k18
  have nd : Nd [] := Nd_nil
  unfold X.listing_Newest at hX
  refine TK.seq_k fun K3 hK3 => ?_
  refine TK.reg ?_
  refine TL.alO (C := cx) (l := [Enc.v ((Str.mk []) : Str), Enc.v ((0 : Int) : Int), Enc.v ((0 : Int) : Int), Enc.v ((0 : Int) : Int), Enc.v ((0 : Int) : Int), Enc.v (false : Bool), .nils]) nd ty36 ti36_z rfl rfl fun b4 nd => ?_
  refine TL.p (C := cx) (gc := true) (p_mv rfl) rfl rfl ?_
  refine TL.nil ?_
  refine hK3 _ _ ?_
  refine TK.cvR nd (j := 0) rfl (l' := [Enc.v ((Str.mk []) : Str), Enc.v ((0 : Int) : Int), Enc.v ((0 : Int) : Int), Enc.v ((0 : Int) : Int), Enc.v ((0 : Int) : Int), Enc.v (false : Bool), Enc.v (([] : (List Part_api)) : (List Part_api))]) ⟨Wk.refl _, Wk.refl _, Wk.refl _, Wk.refl _, Wk.refl _, Wk.refl _, Wk_nil, trivial⟩ fun nd => ?_
  refine TK.seq_k fun K5 hK5 => ?_
  refine TK.reg ?_
  refine TL.p (C := cx) (gc := true) (p_mv rfl) rfl rfl ?_
  refine TL.p (C := cx) (gc := true) (p_mv rfl) rfl rfl ?_
  obtain ⟨r6, hr6, hX⟩ := bind_some hX
  refine TL.cvX rfl rfl rfl (fun _ => ⟨rfl, ⟨rfl, ⟨rfl, trivial⟩⟩⟩) (fun e => ok_listing_newest l1 path2 _ hr6) ?_
  refine TL.p (C := cx) (gc := true) (p_ex rfl rfl (by decide)) rfl rfl ?_
  refine TL.p (C := cx) (gc := true) (p_ex rfl rfl (by decide)) rfl rfl ?_
  obtain ⟨r7, hr7, hX⟩ := bind_some hX
  refine TL.cvX rfl rfl rfl (fun _ => ⟨rfl, ⟨rfl, ⟨rfl, trivial⟩⟩⟩) (fun e => ok_listing_there r6.1 r6.2 _ hr7) ?_
  refine TL.p (C := cx) (gc := true) (p_ex rfl rfl (by decide)) rfl rfl ?_
  refine TL.p (C := cx) (gc := true) (p_ex rfl rfl (by decide)) rfl rfl ?_
  refine TL.stV (C := cx) (lu := Enc.cl (r7.1 : File_api)) nd ty36 rfl (j := 0) rfl rfl rfl (Cells_v (r7.1 : File_api)) rfl rfl [Enc.v (r7.1.Path : Str), Enc.v (r7.1.Version : Int), Enc.v (r7.1.Size : Int), Enc.v (r7.1.Sum : Int), Enc.v (r7.1.Serial : Int), Enc.v (r7.1.Gone : Bool), Enc.v (r7.1.Parts : (List Part_api))] rfl fun nd => ?_
  refine TL.p (C := cx) (gc := true) (p_mv rfl) rfl rfl ?_
  refine TL.nil ?_
  refine hK5 _ _ ?_
  refine TK.ret ?_
  try dsimp only [thenQ]
  exact retC [Enc.v (r7.1 : File_api), Enc.v (r7.2 : Bool)] ⟨p_ldVa (l' := Enc.cl (r7.1 : File_api)) ty36 rfl rfl nd (j := 0) rfl rfl rfl rfl (Nat.le_of_ble_eq_true rfl), p_mv rfl, trivial⟩ (by obtain rfl := some_in hX; rfl) (tup_val (allVal.mem ⟨v_val _, v_val _, trivial⟩))

/-- cartridge/listing.Next -/
theorem ok_listing_Next (l1 : (List File_api)) (path2 : Str) (r : Int) (hX : X.listing_Next l1 path2 = some r) : Fun Try.prog 23 [Enc.v (l1 : (List File_api)), Enc.v (path2 : Str)] (· = Enc.v (r : Int)) := by
  refine Fun.of b23 (Nat.le_of_ble_eq_true rfl) (allVal.mem ⟨(by exact (v_val _)), (by exact (v_val _)), trivial⟩) ?_
  unfold k23
  have nd : Nd [] := Nd_nil
  unfold X.listing_Next at hX
  refine TK.seq_k fun K3 hK3 => ?_
  refine TK.reg ?_
  refine TL.p (C := cx) (gc := true) (p_mv rfl) rfl rfl ?_
  refine TL.nil ?_
  refine hK3 _ _ ?_
  refine TK.seq_k fun K4 hK4 => ?_
  refine TK.reg ?_
  refine TL.p (C := cx) (gc := true) (p_mv rfl) rfl rfl ?_
  refine TL.p (C := cx) (gc := true) (p_mv rfl) rfl rfl ?_
  obtain ⟨r5, hr5, hX⟩ := bind_some hX
  refine TL.cvX rfl rfl rfl (fun _ => ⟨rfl, ⟨rfl, ⟨rfl, trivial⟩⟩⟩) (fun e => ok_listing_newest l1 path2 _ hr5) ?_
  refine TL.p (C := cx) (gc := true) (p_mv rfl) rfl rfl ?_
  refine TL.p (C := cx) (gc := true) (p_ex rfl rfl (by decide)) rfl rfl ?_
  refine TL.p (C := cx) (gc := true) (p_ex rfl rfl (by decide)) rfl rfl ?_
  refine TL.alO (C := cx) (l := [Enc.v ((Str.mk []) : Str), Enc.v ((0 : Int) : Int), Enc.v ((0 : Int) : Int), Enc.v ((0 : Int) : Int), Enc.v ((0 : Int) : Int), Enc.v (false : Bool), .nils]) nd ty36 ti36_z rfl rfl fun b6 nd => ?_
  refine TL.stV (C := cx) (lu := Enc.cl (r5.1 : File_api)) nd ty36 rfl (j := 0) rfl rfl rfl (Cells_v (r5.1 : File_api)) rfl rfl [Enc.v (r5.1.Path : Str), Enc.v (r5.1.Version : Int), Enc.v (r5.1.Size : Int), Enc.v (r5.1.Sum : Int), Enc.v (r5.1.Serial : Int), Enc.v (r5.1.Gone : Bool), Enc.v (r5.1.Parts : (List Part_api))] rfl fun nd => ?_
  refine TL.p (C := cx) (gc := true) (p_mv rfl) rfl rfl ?_
  refine TL.nil ?_
  refine hK4 _ _ ?_
  refine TK.seq_k fun K7 hK7 => ?_
  refine TK.seq_k fun K8 hK8 => ?_
  refine TK.reg ?_
  refine TL.p (C := cx) (gc := true) (p_mv rfl) rfl rfl ?_
  refine TL.p (C := cx) (gc := true) (p_not rfl) rfl rfl ?_
  refine TL.nil ?_
  refine hK8 _ _ ?_
  refine TK.cond (b := (!r5.2)) rfl (fun hc => ?_) (fun hc => ?_)
  · have hX := ite_t hc hX
    refine TK.seq_k fun K9 hK9 => ?_
    refine TK.reg ?_
    refine TL.p (C := cx) (gc := true) (p_mv rfl) rfl rfl ?_
    refine TL.nil ?_
    refine hK9 _ _ ?_
    refine TK.ret ?_
    try dsimp only [thenQ]
    exact ret1 (v := Enc.v ((1 : Int) : Int)) rfl (by obtain rfl := some_in hX; rfl) (v_val _)
  · have hX := ite_f hc hX
    refine TK.skip ?_
    refine hK7 _ _ ?_
    refine TK.seq_k fun K10 hK10 => ?_
    refine TK.reg ?_
    refine TL.p (C := cx) (gc := true) (p_faV fs36_1 (by decide) rfl nd (j := 0) rfl rfl) rfl rfl ?_
    refine TL.p (C := cx) (gc := true) (p_ldV (v := Enc.v (r5.1.Version : Int)) ty3 rfl rfl nd (j := 0) rfl rfl rfl rfl rfl) rfl rfl ?_
    refine TL.p (C := cx) (gc := true) (p_add rfl rfl) rfl rfl ?_
    refine TL.p (C := cx) (gc := true) (p_mv rfl) rfl rfl ?_
    refine TL.nil ?_
    refine hK10 _ _ ?_
    refine TK.ret ?_
    try dsimp only [thenQ]
    exact ret1 (v := Enc.v ((wr (r5.1.Version + (1 : Int))) : Int)) rfl (by obtain rfl := some_in hX; rfl) (v_val _)

/-- cartridge/listing.Serial -/
theorem ok_listing_Serial (l1 : (List File_api)) (r : Int) (hX : X.listing_Serial l1 = some r) : Fun Try.prog 25 [Enc.v (l1 : (List File_api))] (· = Enc.v (r : Int)) := by
  refine Fun.of b25 (Nat.le_of_ble_eq_true rfl) (allVal.mem ⟨(by exact (v_val _)), trivial⟩) ?_
  unfold k25
  have nd : Nd [] := Nd_nil
  unfold X.listing_Serial at hX
  refine TK.seq_k fun K2 hK2 => ?_
  refine TK.reg ?_
  refine TL.p (C := cx) (gc := true) (p_mv rfl) rfl rfl ?_
  refine TL.nil ?_
  refine hK2 _ _ ?_
  refine TK.seq_k fun K3 hK3 => ?_
  refine TK.seq_k fun K4 hK4 => ?_
  refine TK.reg ?_
  refine TL.p (C := cx) (gc := true) (p_mv rfl) rfl rfl ?_
  refine TL.p (C := cx) (gc := true) (p_lenL (xs := l1) kd31 rfl) rfl rfl ?_
  refine TL.p (C := cx) (gc := true) (p_eql rfl rfl) rfl rfl ?_
  refine TL.nil ?_
  refine hK4 _ _ ?_
  refine TK.cond (b := ((l1.length : Int) == (0 : Int))) rfl (fun hc => ?_) (fun hc => ?_)
  · have hX := ite_t hc hX
    refine TK.seq_k fun K5 hK5 => ?_
    refine TK.reg ?_
    refine TL.p (C := cx) (gc := true) (p_mv rfl) rfl rfl ?_
    refine TL.nil ?_
    refine hK5 _ _ ?_
    refine TK.ret ?_
    try dsimp only [thenQ]
    exact ret1 (v := Enc.v ((1 : Int) : Int)) rfl (by obtain rfl := some_in hX; rfl) (v_val _)
  · have hX := ite_f hc hX
    refine TK.skip ?_
    refine hK3 _ _ ?_
    refine TK.seq_k fun K6 hK6 => ?_
    refine TK.reg ?_
    refine TL.p (C := cx) (gc := true) (p_mv rfl) rfl rfl ?_
    obtain ⟨e7, he7, hX⟩ := bind_some hX
    refine TL.p (C := cx) (gc := true) (p_iaL (xs := l1) kd31 ty36 rfl rfl rfl (fun _ => he7)) rfl rfl ?_
    refine TL.p (C := cx) (gc := true) (p_faE fs36_4 (by decide) rfl) rfl rfl ?_
    refine TL.p (C := cx) (gc := true) (p_ldE (xs := l1) (a := e7) (e7.Serial : Int) ty3 rfl rfl (fun _ => he7) rfl rfl rfl) rfl rfl ?_
    refine TL.p (C := cx) (gc := true) (p_mv rfl) rfl rfl ?_
    refine TL.nil ?_
    refine hK6 _ _ ?_
    refine TK.seq_k fun K8 hK8 => ?_
    refine TK.seq_k fun K9 hK9 => ?_
    refine TK.reg ?_
    refine TL.p (C := cx) (gc := true) (p_mv rfl) rfl rfl ?_
    refine TL.p (C := cx) (gc := true) (p_lenL (xs := l1) kd31 rfl) rfl rfl ?_
    refine TL.p (C := cx) (gc := true) (p_mv rfl) rfl rfl ?_
    refine TL.nil ?_
    refine hK9 _ _ ?_
    refine TK.block ?_
    obtain ⟨o10, hO10, hA10⟩ := bind_some hX
    have E10 : ∀ (n13 : Int) (env : Env) (h : Hp), (∃ _u : Unit, keepE [3] env = [(3, true, Enc.v (n13 : Int))] ∧ Nd [] ∧ HSub [] h) → X.listing_Serial_e10 n13 = some r → K8 env h := by
      intro n13 env h hE hX
      obtain ⟨_u, henv, nd, hs⟩ := hE
      unfold X.listing_Serial_e10 at hX
      refine hK8 _ _ (TK.keep [3] ?_)
      rw [henv]
      refine TK.subH hs ?_
      refine TK.seq_k fun K14 hK14 => ?_
      refine TK.reg ?_
      refine TL.p (C := cx) (gc := true) (p_mv rfl) rfl rfl ?_
      refine TL.p (C := cx) (gc := true) (p_add rfl rfl) rfl rfl ?_
      refine TL.p (C := cx) (gc := true) (p_mv rfl) rfl rfl ?_
      refine TL.nil ?_
      refine hK14 _ _ ?_
      refine TK.ret ?_
      try dsimp only [thenQ]
      exact ret1 (v := Enc.v ((wr (n13 + (1 : Int))) : Int)) rfl (by obtain rfl := some_in hX; rfl) (v_val _)
    refine TK.iter [3, 13, 14, 15] (fun s env h => match s with | (n11, x12) => ∃ _u : Unit, env = [(3, true, Enc.v (n11 : Int)), (13, true, Enc.v (l1 : (List File_api))), (14, true, Enc.v ((l1.length : Int) : Int)), (15, true, Enc.v (x12 : Int))] ∧ Nd [] ∧ HSub [] h) hO10 ⟨(), rfl, Nd_nil, HSub.refl _⟩ ?_
    rintro ⟨n11, x12⟩ env h x10x ⟨_u, rfl, nd, hs⟩ hX hR10
    refine TK.subH hs ?_
    unfold X.listing_Serial_s10 at hX
    try dsimp only at hX
    refine TK.seq_k fun K15 hK15 => ?_
    refine TK.reg ?_
    refine TL.p (C := cx) (gc := true) (p_lss rfl rfl) rfl rfl ?_
    refine TL.nil ?_
    refine hK15 _ _ ?_
    refine TK.seq_k fun K16 hK16 => ?_
    refine TK.cond (b := (decide (x12 < (l1.length : Int)))) rfl (fun hc => ?_) (fun hc => ?_)
    · have hX := ite_t hc hX
      refine TK.skip ?_
      refine hK16 _ _ ?_
      refine TK.seq_k fun K17 hK17 => ?_
      refine TK.block ?_
      refine TK.seq_k fun K18 hK18 => ?_
      refine TK.reg ?_
      obtain ⟨e19, he19, hX⟩ := bind_some hX
      refine TL.p (C := cx) (gc := true) (p_iaL (xs := l1) kd31 ty36 rfl rfl rfl (fun _ => he19)) rfl rfl ?_
      refine TL.p (C := cx) (gc := true) (p_ldE (xs := l1) (a := e19) (e19 : File_api) ty36 rfl rfl (fun _ => he19) rfl rfl rfl) rfl rfl ?_
      refine TL.alO (C := cx) (l := [Enc.v ((Str.mk []) : Str), Enc.v ((0 : Int) : Int), Enc.v ((0 : Int) : Int), Enc.v ((0 : Int) : Int), Enc.v ((0 : Int) : Int), Enc.v (false : Bool), .nils]) nd ty36 ti36_z rfl rfl fun b20 nd => ?_
      refine TL.stV (C := cx) (lu := Enc.cl (e19 : File_api)) nd ty36 rfl (j := 0) rfl rfl rfl (Cells_v (e19 : File_api)) rfl rfl [Enc.v (e19.Path : Str), Enc.v (e19.Version : Int), Enc.v (e19.Size : Int), Enc.v (e19.Sum : Int), Enc.v (e19.Serial : Int), Enc.v (e19.Gone : Bool), Enc.v (e19.Parts : (List Part_api))] rfl fun nd => ?_
      refine TL.nil ?_
      refine hK18 _ _ ?_
      refine TK.reg ?_
      refine TL.p (C := cx) (gc := true) (p_mv rfl) rfl rfl ?_
      refine TL.p (C := cx) (gc := true) (p_faV fs36_4 (by decide) rfl nd (j := 0) rfl rfl) rfl rfl ?_
      refine TL.p (C := cx) (gc := true) (p_ldV (v := Enc.v (e19.Serial : Int)) ty3 rfl rfl nd (j := 0) rfl rfl rfl rfl rfl) rfl rfl ?_
      refine TL.p (C := cx) (gc := true) (p_max rfl rfl) rfl rfl ?_
      refine TL.p (C := cx) (gc := true) (p_mv rfl) rfl rfl ?_
      refine TL.nil ?_
      refine hK17 _ _ ?_
      refine TK.reg ?_
      refine TL.p (C := cx) (gc := true) (p_add rfl rfl) rfl rfl ?_
      refine TL.p (C := cx) (gc := true) (p_mv rfl) rfl rfl ?_
      refine TL.nil ?_
      exact ⟨_, (some_in hX).symm, (), rfl, (Nd.pick nd (is := []) (by decide)), (HSub.pick nd (is := []) (by decide))⟩
    · have hX := ite_f hc hX
      refine TK.exit ?_
      obtain rfl := hR10 _ (some_in hX).symm
      exact E10 n11 _ _ ⟨(), rfl, Nd_nil, HSub.refl _⟩ hA10

/-- slices.Sort[[]string,string] -/
theorem len_slices_Sort_Lstring_string {l1 r : List Str} (hX : X.slices_Sort_Lstring_string l1 = some r) : r.length = l1.length := by
  unfold X.slices_Sort_Lstring_string at hX
  split at hX
  · injection hX with hX
    subst hX
    exact sortS_len _
  · cases hX
theorem ok_slices_Sort_Lstring_string (l1 : List Str) (b1 : Nat) (nd : Nd [(b1, RL (α := Str) 9 l1)]) (r : List Str) (hX : X.slices_Sort_Lstring_string l1 = some r) : TCX Try.prog 46 [OL (α := Str) b1 l1] [(b1, RL (α := Str) 9 l1)] (fun rv h' => rv = .tup 0 (ofL []) ∧ h' = [(b1, RL (α := Str) 9 r)]) := by
  unfold X.slices_Sort_Lstring_string at hX
  split at hX
  · rename_i hlt
    injection hX with hX
    subst hX
    exact tcx_sort (Enters.of Try.func46 (by kernel_rfl) (by kernel_rfl)) (fun blk off cap ss w h1 h2 h3 => Go.Proofs.Try.slices_Sort_string blk off cap ss w h1 h2 h3) (fun p cap w => Go.Proofs.Try.slices_Sort_string_none p cap w) hlt
  · cases hX

/-- slices.Compact[[]string,string] -/
theorem ok_slices_Compact_Lstring_string (l1 : List Str) (b1 : Nat) (nd : Nd [(b1, RL (α := Str) 9 l1)]) (r : List Str) (hX : X.slices_Compact_Lstring_string l1 = some r) : TCX Try.prog 47 [OL (α := Str) b1 l1] [(b1, RL (α := Str) 9 l1)] (fun rv h' => ∃ b2, rv = OL (α := Str) b2 r ∧ h' = [(b2, RL (α := Str) 9 r)]) := by
  unfold X.slices_Compact_Lstring_string at hX
  split at hX
  · rename_i hlt
    injection hX with hX
    subst hX
    exact tcx_compact (Enters.of Try.func47 (by kernel_rfl) (by kernel_rfl)) (fun blk off cap ss w h1 h2 h3 => Go.Proofs.Try.slices_Compact_string blk off cap ss w h1 h2 h3) (fun p cap w => Go.Proofs.Try.slices_Compact_string_empty p cap w) compact_le hlt
  · cases hX

/-- cartridge/listing.Names -/
theorem ok_listing_Names (l1 : (List File_api)) (r : (List Str)) (hX : X.listing_Names l1 = some r) : Fun Try.prog 17 [Enc.v (l1 : (List File_api))] (· = Enc.v (r : (List Str))) := by
  refine Fun.of b17 (Nat.le_of_ble_eq_true rfl) (allVal.mem ⟨(by exact (v_val _)), trivial⟩) ?_
  unfold k17
  have nd : Nd [] := Nd_nil
  unfold X.listing_Names at hX
  refine TK.seq_k fun K2 hK2 => ?_
  refine TK.reg ?_
  refine TL.p (C := cx) (gc := true) (p_mv rfl) rfl rfl ?_
  refine TL.nil ?_
  refine hK2 _ _ ?_
  refine TK.seq_k fun K3 hK3 => ?_
  refine TK.reg ?_
  refine TL.p (C := cx) (gc := true) (p_mv rfl) rfl rfl ?_
  refine TL.nil ?_
  refine hK3 _ _ ?_
  refine TK.ownL (α := Str) 3 9 nd rfl (.inl rfl) fun b4 nd => ?_
  refine TK.seq_k fun K5 hK5 => ?_
  refine TK.seq_k fun K6 hK6 => ?_
  refine TK.reg ?_
  refine TL.p (C := cx) (gc := true) (p_mv rfl) rfl rfl ?_
  refine TL.p (C := cx) (gc := true) (p_lenL (xs := l1) kd31 rfl) rfl rfl ?_
  refine TL.p (C := cx) (gc := true) (p_mv rfl) rfl rfl ?_
  refine TL.nil ?_
  refine hK6 _ _ ?_
  refine TK.block ?_
  obtain ⟨o7, hO7, hA7⟩ := bind_some hX
  have E7 : ∀ (l12 : List Str) (env : Env) (h : Hp), (∃ b11, keepE [3] env = [(3, true, OL (α := Str) b11 l12)] ∧ Nd [(b11, RL (α := Str) 9 l12)] ∧ HSub [(b11, RL (α := Str) 9 l12)] h) → X.listing_Names_e7 l12 = some r → K5 env h := by
    intro l12 env h hE hX
    obtain ⟨b11, henv, nd, hs⟩ := hE
    unfold X.listing_Names_e7 at hX
    refine hK5 _ _ (TK.keep [3] ?_)
    rw [henv]
    refine TK.subH hs ?_
    refine TK.seq_k fun K13 hK13 => ?_
    refine TK.reg ?_
    refine TL.p (C := cx) (gc := true) (p_mv rfl) rfl rfl ?_
    obtain ⟨r14, hr14, hX⟩ := bind_some hX
    refine TL.tcX [(b11, RL (α := Str) 9 l12)] [] rfl nd (dlt rfl) rfl ⟨rfl, ⟨rfl, trivial⟩⟩ (ok_slices_Sort_Lstring_string l12 b11 (Nd.take nd 1 rfl) _ hr14) ?_
    rintro _ _ hQ nd
    obtain ⟨rfl, rfl⟩ := hQ
    refine TL.cv 3 (OL (α := Str) b11 r14) rfl (Wk_eq (OL_len (by first | exact len_slices_Sort_Lstring_string hr14 | exact (len_slices_Sort_Lstring_string hr14).symm))) ?_
    refine TL.cv 28 (OL (α := Str) b11 r14) rfl (Wk_eq (OL_len (by first | exact len_slices_Sort_Lstring_string hr14 | exact (len_slices_Sort_Lstring_string hr14).symm))) ?_
    refine TL.nil ?_
    refine hK13 _ _ ?_
    refine TK.seq_k fun K15 hK15 => ?_
    refine TK.reg ?_
    refine TL.p (C := cx) (gc := true) (p_mv rfl) rfl rfl ?_
    obtain ⟨r16, hr16, hX⟩ := bind_some hX
    refine TL.tcX [(b11, RL (α := Str) 9 r14)] [] rfl nd (dlt rfl) rfl ⟨rfl, ⟨rfl, trivial⟩⟩ (ok_slices_Compact_Lstring_string r14 b11 (Nd.take nd 1 rfl) _ hr16) ?_
    rintro _ _ hQ nd
    obtain ⟨b17, rfl, rfl⟩ := hQ
    refine TL.p (C := cx) (gc := true) (p_mv rfl) rfl rfl ?_
    refine TL.nil ?_
    refine hK15 _ _ ?_
    refine TK.lay [(2, L r16)] nd (j := 0) rfl ⟨⟨_, rfl, fix_OL nd (j := 0) rfl, rfl⟩, trivial⟩ fun nd => ?_
    refine TK.ret ?_
    try dsimp only [thenQ]
    exact ret1 (v := Enc.v (r16 : (List Str))) rfl (by obtain rfl := some_in hX; rfl) (v_val _)
  refine TK.iter [0, 3, 8, 9, 10] (fun s env h => match s with | (out9, x10) => ∃ b8, env = [(0, true, Enc.v (l1 : (List File_api))), (3, true, OL (α := Str) b8 out9), (8, true, Enc.v (l1 : (List File_api))), (9, true, Enc.v ((l1.length : Int) : Int)), (10, true, Enc.v (x10 : Int))] ∧ Nd [(b8, RL (α := Str) 9 out9)] ∧ HSub [(b8, RL (α := Str) 9 out9)] h) hO7 ⟨b4, rfl, (Nd.pick nd (is := [0]) (by decide)), (HSub.pick nd (is := [0]) (by decide))⟩ ?_
  rintro ⟨out9, x10⟩ env h x7x ⟨b8, rfl, nd, hs⟩ hX hR7
  refine TK.subH hs ?_
  unfold X.listing_Names_s7 at hX
  try dsimp only at hX
  refine TK.seq_k fun K18 hK18 => ?_
  refine TK.reg ?_
  refine TL.p (C := cx) (gc := true) (p_lss rfl rfl) rfl rfl ?_
  refine TL.nil ?_
  refine hK18 _ _ ?_
  refine TK.seq_k fun K19 hK19 => ?_
  refine TK.cond (b := (decide (x10 < (l1.length : Int)))) rfl (fun hc => ?_) (fun hc => ?_)
  · have hX := ite_t hc hX
    refine TK.skip ?_
    refine hK19 _ _ ?_
    refine TK.seq_k fun K20 hK20 => ?_
    refine TK.block ?_
    refine TK.seq_k fun K21 hK21 => ?_
    refine TK.reg ?_
    obtain ⟨e22, he22, hX⟩ := bind_some hX
    refine TL.p (C := cx) (gc := true) (p_iaL (xs := l1) kd31 ty36 rfl rfl rfl (fun _ => he22)) rfl rfl ?_
    refine TL.p (C := cx) (gc := true) (p_ldE (xs := l1) (a := e22) (e22 : File_api) ty36 rfl rfl (fun _ => he22) rfl rfl rfl) rfl rfl ?_
    refine TL.alO (C := cx) (l := [Enc.v ((Str.mk []) : Str), Enc.v ((0 : Int) : Int), Enc.v ((0 : Int) : Int), Enc.v ((0 : Int) : Int), Enc.v ((0 : Int) : Int), Enc.v (false : Bool), .nils]) nd ty36 ti36_z rfl rfl fun b23 nd => ?_
    refine TL.stV (C := cx) (lu := Enc.cl (e22 : File_api)) nd ty36 rfl (j := 0) rfl rfl rfl (Cells_v (e22 : File_api)) rfl rfl [Enc.v (e22.Path : Str), Enc.v (e22.Version : Int), Enc.v (e22.Size : Int), Enc.v (e22.Sum : Int), Enc.v (e22.Serial : Int), Enc.v (e22.Gone : Bool), Enc.v (e22.Parts : (List Part_api))] rfl fun nd => ?_
    refine TL.nil ?_
    refine hK21 _ _ ?_
    refine TK.seq_k fun K24 hK24 => ?_
    refine TK.reg ?_
    refine TL.p (C := cx) (gc := true) (p_mv rfl) rfl rfl ?_
    refine TL.p (C := cx) (gc := true) (p_faV fs36_0 (by decide) rfl nd (j := 0) rfl rfl) rfl rfl ?_
    refine TL.p (C := cx) (gc := true) (p_ldV (v := Enc.v (e22.Path : Str)) ty9 rfl rfl nd (j := 0) rfl rfl rfl rfl rfl) rfl rfl ?_
    obtain ⟨r25, hr25, hX⟩ := bind_some hX
    refine TL.cvX rfl rfl rfl (fun _ => ⟨rfl, ⟨rfl, ⟨rfl, trivial⟩⟩⟩) (fun e => ok_listing_Newest l1 e22.Path _ hr25) ?_
    refine TL.p (C := cx) (gc := true) (p_mv rfl) rfl rfl ?_
    refine TL.p (C := cx) (gc := true) (p_ex rfl rfl (by decide)) rfl rfl ?_
    refine TL.p (C := cx) (gc := true) (p_ex rfl rfl (by decide)) rfl rfl ?_
    refine TL.alO (C := cx) (l := [Enc.v ((Str.mk []) : Str), Enc.v ((0 : Int) : Int), Enc.v ((0 : Int) : Int), Enc.v ((0 : Int) : Int), Enc.v ((0 : Int) : Int), Enc.v (false : Bool), .nils]) nd ty36 ti36_z rfl rfl fun b26 nd => ?_
    refine TL.stV (C := cx) (lu := Enc.cl (r25.1 : File_api)) nd ty36 rfl (j := 0) rfl rfl rfl (Cells_v (r25.1 : File_api)) rfl rfl [Enc.v (r25.1.Path : Str), Enc.v (r25.1.Version : Int), Enc.v (r25.1.Size : Int), Enc.v (r25.1.Sum : Int), Enc.v (r25.1.Serial : Int), Enc.v (r25.1.Gone : Bool), Enc.v (r25.1.Parts : (List Part_api))] rfl fun nd => ?_
    refine TL.p (C := cx) (gc := true) (p_mv rfl) rfl rfl ?_
    refine TL.nil ?_
    refine hK24 _ _ ?_
    refine TK.seq_k fun K27 hK27 => ?_
    refine TK.reg ?_
    refine TL.p (C := cx) (gc := true) (p_mv rfl) rfl rfl ?_
    refine TL.nil ?_
    refine hK27 _ _ ?_
    refine TK.cond (b := r25.2) rfl (fun hc => ?_) (fun hc => ?_)
    · have hX := ite_t hc hX
      refine TK.reg ?_
      refine TL.p (C := cx) (gc := true) (p_mv rfl) rfl rfl ?_
      refine TL.p (C := cx) (gc := true) (p_faV fs36_0 (by decide) rfl nd (j := 1) rfl rfl) rfl rfl ?_
      refine TL.p (C := cx) (gc := true) (p_ldV (v := Enc.v (e22.Path : Str)) ty9 rfl rfl nd (j := 1) rfl rfl rfl rfl rfl) rfl rfl ?_
      refine TL.lit (C := cx) ([e22.Path] : List Str) kd32 ty9 rfl ⟨⟨rfl, rfl⟩, trivial⟩ rfl rfl rfl ?_
      obtain ⟨u28, hu28, hX⟩ := bind_some hX
      refine TL.appO (C := cx) nd kd32 bo32 ty9 rfl rfl (j := 2) rfl rfl (Src_L _) (by decide) (need_t hu28) rfl fun nd => ?_
      refine TL.p (C := cx) (gc := true) (p_mv rfl) rfl rfl ?_
      refine TL.nil ?_
      refine hK20 _ _ ?_
      refine TK.reg ?_
      refine TL.p (C := cx) (gc := true) (p_add rfl rfl) rfl rfl ?_
      refine TL.p (C := cx) (gc := true) (p_mv rfl) rfl rfl ?_
      refine TL.nil ?_
      exact ⟨_, (some_in hX).symm, b8, rfl, (Nd.pick nd (is := [2]) (by decide)), (HSub.pick nd (is := [2]) (by decide))⟩
    · have hX := ite_f hc hX
      refine TK.skip ?_
      refine hK20 _ _ ?_
      refine TK.reg ?_
      refine TL.p (C := cx) (gc := true) (p_add rfl rfl) rfl rfl ?_
      refine TL.p (C := cx) (gc := true) (p_mv rfl) rfl rfl ?_
      refine TL.nil ?_
      exact ⟨_, (some_in hX).symm, b8, rfl, (Nd.pick nd (is := [2]) (by decide)), (HSub.pick nd (is := [2]) (by decide))⟩
  · have hX := ite_f hc hX
    refine TK.exit ?_
    obtain rfl := hR7 _ (some_in hX).symm
    exact E7 out9 _ _ ⟨b8, rfl, (Nd.pick nd (is := [0]) (by decide)), (HSub.pick nd (is := [0]) (by decide))⟩ hA7

/-- cartridge/cartridgelaw18.alive -/
theorem ok_cartridgelaw18_alive  (r : Bool) (hX : X.cartridgelaw18_alive = some r) : Fun Try.prog 16 [] (· = Enc.v (r : Bool)) := by
  refine Fun.of b16 (Nat.le_of_ble_eq_true rfl) (fun x hx => by cases hx) ?_
  unfold k16
  have nd : Nd [] := Nd_nil
  unfold X.cartridgelaw18_alive at hX
  refine TK.seq_k fun K1 hK1 => ?_
  refine TK.reg ?_
  refine TL.p (C := cx) (gc := true) (p_mv rfl) rfl rfl ?_
  refine TL.nil ?_
  refine hK1 _ _ ?_
  refine TK.seq_k fun K2 hK2 => ?_
  refine TK.reg ?_
  refine TL.p (C := cx) (gc := true) (p_bld (l := [Enc.v ((Str.mk [97]) : Str), Enc.v ((3 : Int) : Int), Enc.v ((0 : Int) : Int), Enc.v ((0 : Int) : Int), Enc.v ((0 : Int) : Int), Enc.v (false : Bool), .nils]) ty36 rfl all36 rfl (fun _ => ⟨⟨rfl, trivial, rfl⟩, ⟨rfl, trivial, rfl⟩, trivial⟩)) rfl rfl (TL.wk (v' := Enc.v ((File_api.mk (Str.mk [97]) (3 : Int) (0 : Int) (0 : Int) (0 : Int) false ([] : (List Part_api))) : File_api)) (Wk_agg ⟨Wk.refl _, Wk.refl _, Wk.refl _, Wk.refl _, Wk.refl _, Wk.refl _, Wk_nil, trivial⟩) ?_)
  refine TL.lit (C := cx) ([(File_api.mk (Str.mk [97]) (3 : Int) (0 : Int) (0 : Int) (0 : Int) false ([] : (List Part_api)))] : List File_api) kd31 ty36 rfl ⟨⟨rfl, rfl⟩, trivial⟩ rfl rfl rfl ?_
  obtain ⟨r3, hr3, hX⟩ := bind_some hX
  refine TL.cvX rfl rfl rfl (fun _ => ⟨rfl, ⟨rfl, ⟨rfl, trivial⟩⟩⟩) (fun e => ok_listing_Newest ([(File_api.mk (Str.mk [97]) (3 : Int) (0 : Int) (0 : Int) (0 : Int) false ([] : (List Part_api)))] : List File_api) (Str.mk [97]) _ hr3) ?_
  refine TL.p (C := cx) (gc := true) (p_mv rfl) rfl rfl ?_
  refine TL.p (C := cx) (gc := true) (p_ex rfl rfl (by decide)) rfl rfl ?_
  refine TL.p (C := cx) (gc := true) (p_ex rfl rfl (by decide)) rfl rfl ?_
  refine TL.alO (C := cx) (l := [Enc.v ((Str.mk []) : Str), Enc.v ((0 : Int) : Int), Enc.v ((0 : Int) : Int), Enc.v ((0 : Int) : Int), Enc.v ((0 : Int) : Int), Enc.v (false : Bool), .nils]) nd ty36 ti36_z rfl rfl fun b4 nd => ?_
  refine TL.stV (C := cx) (lu := Enc.cl (r3.1 : File_api)) nd ty36 rfl (j := 0) rfl rfl rfl (Cells_v (r3.1 : File_api)) rfl rfl [Enc.v (r3.1.Path : Str), Enc.v (r3.1.Version : Int), Enc.v (r3.1.Size : Int), Enc.v (r3.1.Sum : Int), Enc.v (r3.1.Serial : Int), Enc.v (r3.1.Gone : Bool), Enc.v (r3.1.Parts : (List Part_api))] rfl fun nd => ?_
  refine TL.p (C := cx) (gc := true) (p_mv rfl) rfl rfl ?_
  refine TL.nil ?_
  refine hK2 _ _ ?_
  refine TK.seq_k fun K5 hK5 => ?_
  refine TK.reg ?_
  obtain ⟨r6, hr6, hX⟩ := bind_some hX
  refine TL.cvX rfl rfl rfl (fun _ => ⟨rfl, ⟨rfl, ⟨rfl, trivial⟩⟩⟩) (fun e => (Fun.wk (args' := [L ([] : List File_api), Enc.v ((Str.mk [97]) : Str)]) ⟨Wk_nil, Wk.refl _, trivial⟩ (ok_listing_Next ([] : List File_api) (Str.mk [97]) _ hr6))) ?_
  refine TL.p (C := cx) (gc := true) (p_eql rfl rfl) rfl rfl ?_
  refine TL.p (C := cx) (gc := true) (p_mv rfl) rfl rfl ?_
  obtain ⟨r7, hr7, hX⟩ := bind_some hX
  refine TL.cvX (gcT1 rfl) rfl rfl (fun e => ⟨rfl, ⟨rfl, trivial⟩⟩) (fun e => (Fun.wk (args' := [L ([] : List File_api)]) ⟨Wk_nil, trivial⟩ (ok_listing_Serial ([] : List File_api) _ (optG_t hr7 e)))) ?_
  refine TL.p (C := cx) (gc := ((r6 == (1 : Int)))) (p_eql rfl rfl (hg := fun e => ⟨e, rfl⟩)) (gcT1 rfl) rfl ?_
  refine TL.p (C := cx) (gc := true) (p_and rfl rfl (fun e => ⟨rfl, fun h => h⟩)) rfl rfl ?_
  refine TL.p (C := cx) (gc := true) (p_mv rfl) rfl rfl ?_
  refine TL.p (C := cx) (gc := (((r6 == (1 : Int)) && (r7 == (1 : Int))))) (p_mv rfl (hg := fun e => rfl)) (gcT1 rfl) rfl ?_
  refine TL.p (C := cx) (gc := true) (p_and rfl rfl (fun e => ⟨rfl, fun h => h⟩)) rfl rfl ?_
  refine TL.p (C := cx) (gc := true) (p_mv rfl) rfl rfl ?_
  refine TL.p (C := cx) (gc := ((((r6 == (1 : Int)) && (r7 == (1 : Int))) && r3.2))) (p_faV fs36_1 (by decide) rfl nd (j := 0) rfl rfl (hg := fun e => rfl)) (gcT1 rfl) rfl ?_
  refine TL.p (C := cx) (gc := ((((r6 == (1 : Int)) && (r7 == (1 : Int))) && r3.2))) (p_ldV (v := Enc.v (r3.1.Version : Int)) ty3 rfl rfl nd (j := 0) rfl rfl rfl rfl rfl (hg := fun e => e)) (gcT1 rfl) rfl ?_
  refine TL.p (C := cx) (gc := ((((r6 == (1 : Int)) && (r7 == (1 : Int))) && r3.2))) (p_eql rfl rfl (hg := fun e => ⟨e, rfl⟩)) (gcT1 rfl) rfl ?_
  refine TL.p (C := cx) (gc := true) (p_and rfl rfl (fun e => ⟨rfl, fun h => h⟩)) rfl rfl ?_
  refine TL.p (C := cx) (gc := true) (p_mv rfl) rfl rfl ?_
  obtain ⟨r8, hr8, hX⟩ := bind_some hX
  refine TL.cvX (gcT1 rfl) rfl rfl (fun e => ⟨rfl, ⟨rfl, trivial⟩⟩) (fun e => (Fun.wk (args' := [L ([] : List File_api)]) ⟨Wk_nil, trivial⟩ (ok_listing_Names ([] : List File_api) _ (optG_t hr8 e)))) ?_
  refine TL.p (C := cx) (gc := (((((r6 == (1 : Int)) && (r7 == (1 : Int))) && r3.2) && (r3.1.Version == (3 : Int))))) (p_lenL (xs := r8) kd32 rfl (hg := fun e => e)) (gcT1 rfl) rfl ?_
  refine TL.p (C := cx) (gc := (((((r6 == (1 : Int)) && (r7 == (1 : Int))) && r3.2) && (r3.1.Version == (3 : Int))))) (p_eql rfl rfl (hg := fun e => ⟨e, rfl⟩)) (gcT1 rfl) rfl ?_
  refine TL.p (C := cx) (gc := true) (p_and rfl rfl (fun e => ⟨rfl, fun h => h⟩)) rfl rfl ?_
  refine TL.p (C := cx) (gc := true) (p_mv rfl) rfl rfl ?_
  refine TL.nil ?_
  refine hK5 _ _ ?_
  refine TK.ret ?_
  try dsimp only [thenQ]
  exact ret1 (v := Enc.v ((((((r6 == (1 : Int)) && (r7 == (1 : Int))) && r3.2) && (r3.1.Version == (3 : Int))) && ((r8.length : Int) == (0 : Int))) : Bool)) rfl (by obtain rfl := some_in hX; rfl) (v_val _)

/-- slices.IndexFunc[[]cartridge/api.File,cartridge/api.File] -/
theorem ok_slices_IndexFunc_Lapi_File_api_File (s1 : (List File_api)) (g2 : File_api → Option Bool) (r : Int) (hX : X.slices_IndexFunc_Lapi_File_api_File s1 g2 = some r) {g2V : AV} (hg2V : ∃ f m c, g2V = .fn f m c ∧ (∀ i, i < m → (c i).val) ∧ ∀ (a0 : File_api) r, g2 a0 = some r → Fun Try.prog f ([Enc.v a0] ++ (List.range m).map c) (· = Enc.v r)) : Fun Try.prog 50 [Enc.v (s1 : (List File_api)), g2V] (· = Enc.v (r : Int)) := by
  obtain ⟨g2f, g2m, g2c, rfl, hg2v, hg2⟩ := hg2V
  refine Fun.of b50 (Nat.le_of_ble_eq_true rfl) (allVal.mem ⟨(by exact (v_val _)), hg2v, trivial⟩) ?_
  unfold k50
  have nd : Nd [] := Nd_nil
  unfold X.slices_IndexFunc_Lapi_File_api_File at hX
  refine TK.seq_k fun K3 hK3 => ?_
  refine TK.reg ?_
  refine TL.p (C := cx) (gc := true) (p_mv rfl) rfl rfl ?_
  refine TL.nil ?_
  refine hK3 _ _ ?_
  refine TK.seq_k fun K4 hK4 => ?_
  refine TK.seq_k fun K5 hK5 => ?_
  refine TK.reg ?_
  refine TL.p (C := cx) (gc := true) (p_mv rfl) rfl rfl ?_
  refine TL.p (C := cx) (gc := true) (p_lenL (xs := s1) kd31 rfl) rfl rfl ?_
  refine TL.p (C := cx) (gc := true) (p_mv rfl) rfl rfl ?_
  refine TL.nil ?_
  refine hK5 _ _ ?_
  refine TK.block ?_
  obtain ⟨o6, hO6, hA6⟩ := bind_some hX
  have E6 : ∀ (env : Env) (h : Hp), (∃ _u : Unit, keepE [] env = [] ∧ Nd [] ∧ HSub [] h) → X.slices_IndexFunc_Lapi_File_api_File_e6 = some r → K4 env h := by
    intro  env h hE hX
    obtain ⟨_u, henv, nd, hs⟩ := hE
    unfold X.slices_IndexFunc_Lapi_File_api_File_e6 at hX
    refine hK4 _ _ (TK.keep [] ?_)
    rw [henv]
    refine TK.subH hs ?_
    refine TK.seq_k fun K8 hK8 => ?_
    refine TK.reg ?_
    refine TL.p (C := cx) (gc := true) (p_mv rfl) rfl rfl ?_
    refine TL.nil ?_
    refine hK8 _ _ ?_
    refine TK.ret ?_
    try dsimp only [thenQ]
    exact ret1 (v := Enc.v (((-1) : Int) : Int)) rfl (by obtain rfl := some_in hX; rfl) (v_val _)
  refine TK.iter [0, 1, 7, 8] (fun s env h => match s with | x7 => ∃ _u : Unit, env = [(0, true, Enc.v (s1 : (List File_api))), (1, true, .fn g2f g2m g2c), (7, true, Enc.v ((s1.length : Int) : Int)), (8, true, Enc.v (x7 : Int))] ∧ Nd [] ∧ HSub [] h) hO6 ⟨(), rfl, Nd_nil, HSub.refl _⟩ ?_
  rintro x7 env h x6x ⟨_u, rfl, nd, hs⟩ hX hR6
  refine TK.subH hs ?_
  unfold X.slices_IndexFunc_Lapi_File_api_File_s6 at hX
  try dsimp only at hX
  refine TK.seq_k fun K9 hK9 => ?_
  refine TK.reg ?_
  refine TL.p (C := cx) (gc := true) (p_lss rfl rfl) rfl rfl ?_
  refine TL.nil ?_
  refine hK9 _ _ ?_
  refine TK.seq_k fun K10 hK10 => ?_
  refine TK.cond (b := (decide (x7 < (s1.length : Int)))) rfl (fun hc => ?_) (fun hc => ?_)
  · have hX := ite_t hc hX
    refine TK.skip ?_
    refine hK10 _ _ ?_
    refine TK.seq_k fun K11 hK11 => ?_
    refine TK.block ?_
    refine TK.seq_k fun K12 hK12 => ?_
    refine TK.reg ?_
    refine TL.p (C := cx) (gc := true) (p_mv rfl) rfl rfl ?_
    refine TL.p (C := cx) (gc := true) (p_mv rfl) rfl rfl ?_
    refine TL.nil ?_
    refine hK12 _ _ ?_
    refine TK.seq_k fun K13 hK13 => ?_
    refine TK.reg ?_
    refine TL.p (C := cx) (gc := true) (p_mv rfl) rfl rfl ?_
    refine TL.p (C := cx) (gc := true) (p_mv rfl) rfl rfl ?_
    refine TL.p (C := cx) (gc := true) (p_mv rfl) rfl rfl ?_
    obtain ⟨e14, he14, hX⟩ := bind_some hX
    refine TL.p (C := cx) (gc := true) (p_iaL (xs := s1) kd31 ty36 rfl rfl rfl (fun _ => he14)) rfl rfl ?_
    refine TL.p (C := cx) (gc := true) (p_ldE (xs := s1) (a := e14) (e14 : File_api) ty36 rfl rfl (fun _ => he14) rfl rfl rfl) rfl rfl ?_
    obtain ⟨r15, hr15, hX⟩ := bind_some hX
    refine TL.cvX rfl rfl rfl (fun _ => ⟨rfl, ⟨rfl, trivial⟩⟩) (fun e => hg2 e14 _ hr15) ?_
    refine TL.nil ?_
    refine hK13 _ _ ?_
    refine TK.cond (b := r15) rfl (fun hc => ?_) (fun hc => ?_)
    · have hX := ite_t hc hX
      refine TK.seq_k fun K16 hK16 => ?_
      refine TK.reg ?_
      refine TL.p (C := cx) (gc := true) (p_mv rfl) rfl rfl ?_
      refine TL.p (C := cx) (gc := true) (p_mv rfl) rfl rfl ?_
      refine TL.nil ?_
      refine hK16 _ _ ?_
      refine TK.ret ?_
      obtain rfl := hR6 _ (some_in hX).symm
      replace hX := hA6
      try dsimp only [thenQ]
      exact ret1 (v := Enc.v (x7 : Int)) rfl (by obtain rfl := some_in hX; rfl) (v_val _)
    · have hX := ite_f hc hX
      refine TK.skip ?_
      refine hK11 _ _ ?_
      refine TK.reg ?_
      refine TL.p (C := cx) (gc := true) (p_add rfl rfl) rfl rfl ?_
      refine TL.p (C := cx) (gc := true) (p_mv rfl) rfl rfl ?_
      refine TL.nil ?_
      exact ⟨_, (some_in hX).symm, (), rfl, Nd_nil, HSub.refl _⟩
  · have hX := ite_f hc hX
    refine TK.exit ?_
    obtain rfl := hR6 _ (some_in hX).symm
    exact E6 _ _ ⟨(), rfl, Nd_nil, HSub.refl _⟩ hA6

/-- cartridge/listing.Get$1 -/
theorem ok_listing_Get_c1 (f1 : File_api) (c2 : Str) (c3 : Int) (r : Bool) (hX : X.listing_Get_c1 f1 c2 c3 = some r) : Fun Try.prog 51 [Enc.v (f1 : File_api), .vref (ofL [Enc.v (c2 : Str)]) 1 0, .vref (ofL [Enc.v (c3 : Int)]) 1 0] (· = Enc.v (r : Bool)) := by
  refine Fun.of b51 (Nat.le_of_ble_eq_true rfl) (allVal.mem ⟨(by exact (v_val _)), (by exact (vref_val (l := [Enc.v (c2 : Str)]) rfl ⟨(v_val _), trivial⟩)), (by exact (vref_val (l := [Enc.v (c3 : Int)]) rfl ⟨(v_val _), trivial⟩)), trivial⟩) ?_
  unfold k51
  have nd : Nd [] := Nd_nil
  unfold X.listing_Get_c1 at hX
  refine TK.seq_k fun K4 hK4 => ?_
  refine TK.reg ?_
  refine TL.boxV (C := cx) (lu := [Enc.v (f1.Path : Str), Enc.v (f1.Version : Int), Enc.v (f1.Size : Int), Enc.v (f1.Sum : Int), Enc.v (f1.Serial : Int), Enc.v (f1.Gone : Bool), Enc.v (f1.Parts : (List Part_api))]) nd rfl (Cells_v (f1 : File_api)) rfl ?_
  refine TL.p (C := cx) (gc := true) (p_mv rfl) rfl rfl ?_
  refine TL.nil ?_
  refine hK4 _ _ ?_
  refine TK.seq_k fun K5 hK5 => ?_
  refine TK.reg ?_
  refine TL.p (C := cx) (gc := true) (p_faR fs36_0 (by decide) rfl) rfl rfl ?_
  refine TL.p (C := cx) (gc := true) (p_ldR (v := Enc.v (f1.Path : Str)) ty9 rfl rfl rfl rfl rfl rfl) rfl rfl ?_
  refine TL.p (C := cx) (gc := true) (p_ldR (v := Enc.v (c2 : Str)) ty9 rfl rfl rfl rfl rfl rfl) rfl rfl ?_
  refine TL.p (C := cx) (gc := true) (ps_eql (s := f1.Path) (r := c2) rfl rfl) rfl rfl ?_
  refine TL.p (C := cx) (gc := true) (p_mv rfl) rfl rfl ?_
  refine TL.p (C := cx) (gc := ((f1.Path.l == c2.l))) (p_faR fs36_1 (by decide) rfl (hg := fun e => rfl)) (gcT1 rfl) rfl ?_
  refine TL.p (C := cx) (gc := ((f1.Path.l == c2.l))) (p_ldR (v := Enc.v (f1.Version : Int)) ty3 rfl rfl rfl rfl rfl rfl (hg := fun e => e)) (gcT1 rfl) rfl ?_
  refine TL.p (C := cx) (gc := ((f1.Path.l == c2.l))) (p_ldR (v := Enc.v (c3 : Int)) ty3 rfl rfl rfl rfl rfl rfl (hg := fun e => rfl)) (gcT1 rfl) rfl ?_
  refine TL.p (C := cx) (gc := ((f1.Path.l == c2.l))) (p_eql rfl rfl (hg := fun e => ⟨e, e⟩)) (gcT1 rfl) rfl ?_
  refine TL.p (C := cx) (gc := true) (p_and rfl rfl (fun e => ⟨rfl, fun h => h⟩)) rfl rfl ?_
  refine TL.p (C := cx) (gc := true) (p_mv rfl) rfl rfl ?_
  refine TL.nil ?_
  refine hK5 _ _ ?_
  refine TK.ret ?_
  try dsimp only [thenQ]
  exact ret1 (v := Enc.v (((f1.Path.l == c2.l) && (f1.Version == c3)) : Bool)) rfl (by obtain rfl := some_in hX; rfl) (v_val _)

/-- cartridge/listing.Get -/
theorem bc20 : BodyC cx 20 29 [.c 6 36, .t 7] k20 := ⟨Enters.of Try.func20 (by kernel_rfl) (by kernel_rfl), _, _, Try.func20, rfl, by kernel_rfl, rfl, rfl⟩
theorem ok_listing_Get (l1 : (List File_api)) (path2 : Str) (version3 : Int) (r : (File_api × Bool)) (hX : X.listing_Get l1 path2 version3 = some r) : Fun Try.prog 20 [Enc.v (l1 : (List File_api)), Enc.v (path2 : Str), Enc.v (version3 : Int)] (· = .tup 2 (ofL [Enc.v r.1, Enc.v r.2])) := by
  refine Fun.ofC (C := cx) bc20 (Nat.le_of_ble_eq_true rfl) (allVal.mem ⟨(by exact (v_val _)), (by exact (v_val _)), (by exact (v_val _)), trivial⟩) ?_
  unfold k20
  have nd : Nd [] := Nd_nil
  unfold X.listing_Get at hX
  refine TK.seq_k fun K4 hK4 => ?_
  refine TK.reg ?_
  refine TL.boxV (C := cx) (lu := [Enc.v (path2 : Str)]) nd rfl (Cells_v (path2 : Str)) rfl ?_
  refine TL.boxV (C := cx) (lu := [Enc.v (version3 : Int)]) nd rfl (Cells_v (version3 : Int)) rfl ?_
  refine TL.alO (C := cx) (l := [Enc.v ((Str.mk []) : Str), Enc.v ((0 : Int) : Int), Enc.v ((0 : Int) : Int), Enc.v ((0 : Int) : Int), Enc.v ((0 : Int) : Int), Enc.v (false : Bool), .nils]) nd ty36 ti36_z rfl rfl fun b5 nd => ?_
  refine TL.p (C := cx) (gc := true) (p_mv rfl) rfl rfl ?_
  refine TL.nil ?_
  refine hK4 _ _ ?_
  refine TK.cvR nd (j := 0) rfl (l' := [Enc.v ((Str.mk []) : Str), Enc.v ((0 : Int) : Int), Enc.v ((0 : Int) : Int), Enc.v ((0 : Int) : Int), Enc.v ((0 : Int) : Int), Enc.v (false : Bool), Enc.v (([] : (List Part_api)) : (List Part_api))]) ⟨Wk.refl _, Wk.refl _, Wk.refl _, Wk.refl _, Wk.refl _, Wk.refl _, Wk_nil, trivial⟩ fun nd => ?_
  refine TK.seq_k fun K6 hK6 => ?_
  refine TK.seq_k fun K7 hK7 => ?_
  refine TK.reg ?_
  refine TL.p (C := cx) (gc := true) (p_ldR (v := Enc.v (version3 : Int)) ty3 rfl rfl rfl rfl rfl rfl) rfl rfl ?_
  refine TL.p (C := cx) (gc := true) (p_eql rfl rfl) rfl rfl ?_
  refine TL.nil ?_
  refine hK7 _ _ ?_
  refine TK.cond (b := (version3 == (0 : Int))) rfl (fun hc => ?_) (fun hc => ?_)
  · have hX := ite_t hc hX
    refine TK.seq_k fun K8 hK8 => ?_
    refine TK.reg ?_
    refine TL.p (C := cx) (gc := true) (p_mv rfl) rfl rfl ?_
    refine TL.p (C := cx) (gc := true) (p_ldR (v := Enc.v (path2 : Str)) ty9 rfl rfl rfl rfl rfl rfl) rfl rfl ?_
    obtain ⟨r9, hr9, hX⟩ := bind_some hX
    refine TL.cvX rfl rfl rfl (fun _ => ⟨rfl, ⟨rfl, ⟨rfl, trivial⟩⟩⟩) (fun e => ok_listing_Newest l1 path2 _ hr9) ?_
    refine TL.p (C := cx) (gc := true) (p_ex rfl rfl (by decide)) rfl rfl ?_
    refine TL.p (C := cx) (gc := true) (p_ex rfl rfl (by decide)) rfl rfl ?_
    refine TL.stV (C := cx) (lu := Enc.cl (r9.1 : File_api)) nd ty36 rfl (j := 0) rfl rfl rfl (Cells_v (r9.1 : File_api)) rfl rfl [Enc.v (r9.1.Path : Str), Enc.v (r9.1.Version : Int), Enc.v (r9.1.Size : Int), Enc.v (r9.1.Sum : Int), Enc.v (r9.1.Serial : Int), Enc.v (r9.1.Gone : Bool), Enc.v (r9.1.Parts : (List Part_api))] rfl fun nd => ?_
    refine TL.p (C := cx) (gc := true) (p_mv rfl) rfl rfl ?_
    refine TL.nil ?_
    refine hK8 _ _ ?_
    refine TK.ret ?_
    try dsimp only [thenQ]
    exact retC [Enc.v (r9.1 : File_api), Enc.v (r9.2 : Bool)] ⟨p_ldVa (l' := Enc.cl (r9.1 : File_api)) ty36 rfl rfl nd (j := 0) rfl rfl rfl rfl (Nat.le_of_ble_eq_true rfl), p_mv rfl, trivial⟩ (by obtain rfl := some_in hX; rfl) (tup_val (allVal.mem ⟨v_val _, v_val _, trivial⟩))
  · have hX := ite_f hc hX
    refine TK.skip ?_
    refine hK6 _ _ ?_
    refine TK.seq_k fun K10 hK10 => ?_
    refine TK.reg ?_
    refine TL.p (C := cx) (gc := true) (p_mv rfl) rfl rfl ?_
    refine TL.p (C := cx) (gc := true) (p_mf (l := [.vref (ofL [Enc.v (path2 : Str)]) 1 0, .vref (ofL [Enc.v (version3 : Int)]) 1 0]) rfl (fun _ => ⟨rfl, rfl, trivial⟩)) rfl rfl ?_
    obtain ⟨r11, hr11, hX⟩ := bind_some hX
    refine TL.cvX rfl rfl rfl (fun _ => ⟨rfl, ⟨rfl, ⟨rfl, trivial⟩⟩⟩) (fun e => ok_slices_IndexFunc_Lapi_File_api_File l1 (fun a1 => X.listing_Get_c1 a1 path2 version3) _ hr11 ⟨51, 2, ofL [.vref (ofL [Enc.v (path2 : Str)]) 1 0, .vref (ofL [Enc.v (version3 : Int)]) 1 0], rfl, (caps_val rfl ⟨(vref_val (l := [Enc.v (path2 : Str)]) rfl ⟨(v_val _), trivial⟩), (vref_val (l := [Enc.v (version3 : Int)]) rfl ⟨(v_val _), trivial⟩), trivial⟩), fun a1 r hr => ok_listing_Get_c1 a1 path2 version3 r hr⟩) ?_
    refine TL.p (C := cx) (gc := true) (p_mv rfl) rfl rfl ?_
    refine TL.nil ?_
    refine hK10 _ _ ?_
    refine TK.seq_k fun K12 hK12 => ?_
    refine TK.seq_k fun K13 hK13 => ?_
    refine TK.reg ?_
    refine TL.p (C := cx) (gc := true) (p_mv rfl) rfl rfl ?_
    refine TL.p (C := cx) (gc := true) (p_lss rfl rfl) rfl rfl ?_
    refine TL.nil ?_
    refine hK13 _ _ ?_
    refine TK.cond (b := (decide (r11 < (0 : Int)))) rfl (fun hc => ?_) (fun hc => ?_)
    · have hX := ite_t hc hX
      refine TK.seq_k fun K14 hK14 => ?_
      refine TK.reg ?_
      refine TL.p (C := cx) (gc := true) (p_bld (l := [Enc.v ((Str.mk []) : Str), Enc.v ((0 : Int) : Int), Enc.v ((0 : Int) : Int), Enc.v ((0 : Int) : Int), Enc.v ((0 : Int) : Int), Enc.v (false : Bool), .nils]) ty36 rfl all36 rfl (fun _ => trivial)) rfl rfl (TL.wk (v' := Enc.v ((File_api.mk (Str.mk []) (0 : Int) (0 : Int) (0 : Int) (0 : Int) false ([] : (List Part_api))) : File_api)) (Wk_agg ⟨Wk.refl _, Wk.refl _, Wk.refl _, Wk.refl _, Wk.refl _, Wk.refl _, Wk_nil, trivial⟩) ?_)
      refine TL.stV (C := cx) (lu := Enc.cl ((File_api.mk (Str.mk []) (0 : Int) (0 : Int) (0 : Int) (0 : Int) false ([] : (List Part_api))) : File_api)) nd ty36 rfl (j := 0) rfl rfl rfl (Cells_v ((File_api.mk (Str.mk []) (0 : Int) (0 : Int) (0 : Int) (0 : Int) false ([] : (List Part_api))) : File_api)) rfl rfl [Enc.v ((File_api.mk (Str.mk []) (0 : Int) (0 : Int) (0 : Int) (0 : Int) false ([] : (List Part_api))).Path : Str), Enc.v ((File_api.mk (Str.mk []) (0 : Int) (0 : Int) (0 : Int) (0 : Int) false ([] : (List Part_api))).Version : Int), Enc.v ((File_api.mk (Str.mk []) (0 : Int) (0 : Int) (0 : Int) (0 : Int) false ([] : (List Part_api))).Size : Int), Enc.v ((File_api.mk (Str.mk []) (0 : Int) (0 : Int) (0 : Int) (0 : Int) false ([] : (List Part_api))).Sum : Int), Enc.v ((File_api.mk (Str.mk []) (0 : Int) (0 : Int) (0 : Int) (0 : Int) false ([] : (List Part_api))).Serial : Int), Enc.v ((File_api.mk (Str.mk []) (0 : Int) (0 : Int) (0 : Int) (0 : Int) false ([] : (List Part_api))).Gone : Bool), Enc.v ((File_api.mk (Str.mk []) (0 : Int) (0 : Int) (0 : Int) (0 : Int) false ([] : (List Part_api))).Parts : (List Part_api))] rfl fun nd => ?_
      refine TL.p (C := cx) (gc := true) (p_mv rfl) rfl rfl ?_
      refine TL.nil ?_
      refine hK14 _ _ ?_
      refine TK.ret ?_
      try dsimp only [thenQ]
      exact retC [Enc.v ((File_api.mk (Str.mk []) (0 : Int) (0 : Int) (0 : Int) (0 : Int) false ([] : (List Part_api))) : File_api), Enc.v (false : Bool)] ⟨p_ldVa (l' := Enc.cl ((File_api.mk (Str.mk []) (0 : Int) (0 : Int) (0 : Int) (0 : Int) false ([] : (List Part_api))) : File_api)) ty36 rfl rfl nd (j := 0) rfl rfl rfl rfl (Nat.le_of_ble_eq_true rfl), p_mv rfl, trivial⟩ (by obtain rfl := some_in hX; rfl) (tup_val (allVal.mem ⟨v_val _, v_val _, trivial⟩))
    · have hX := ite_f hc hX
      refine TK.skip ?_
      refine hK12 _ _ ?_
      refine TK.seq_k fun K15 hK15 => ?_
      refine TK.reg ?_
      refine TL.p (C := cx) (gc := true) (p_mv rfl) rfl rfl ?_
      refine TL.p (C := cx) (gc := true) (p_mv rfl) rfl rfl ?_
      obtain ⟨e16, he16, hX⟩ := bind_some hX
      refine TL.p (C := cx) (gc := true) (p_iaL (xs := l1) kd31 ty36 rfl rfl rfl (fun _ => he16)) rfl rfl ?_
      refine TL.p (C := cx) (gc := true) (p_ldE (xs := l1) (a := e16) (e16 : File_api) ty36 rfl rfl (fun _ => he16) rfl rfl rfl) rfl rfl ?_
      obtain ⟨r17, hr17, hX⟩ := bind_some hX
      refine TL.cvX rfl rfl rfl (fun _ => ⟨rfl, ⟨rfl, ⟨rfl, trivial⟩⟩⟩) (fun e => ok_listing_there e16 true _ hr17) ?_
      refine TL.p (C := cx) (gc := true) (p_ex rfl rfl (by decide)) rfl rfl ?_
      refine TL.p (C := cx) (gc := true) (p_ex rfl rfl (by decide)) rfl rfl ?_
      refine TL.stV (C := cx) (lu := Enc.cl (r17.1 : File_api)) nd ty36 rfl (j := 0) rfl rfl rfl (Cells_v (r17.1 : File_api)) rfl rfl [Enc.v (r17.1.Path : Str), Enc.v (r17.1.Version : Int), Enc.v (r17.1.Size : Int), Enc.v (r17.1.Sum : Int), Enc.v (r17.1.Serial : Int), Enc.v (r17.1.Gone : Bool), Enc.v (r17.1.Parts : (List Part_api))] rfl fun nd => ?_
      refine TL.p (C := cx) (gc := true) (p_mv rfl) rfl rfl ?_
      refine TL.nil ?_
      refine hK15 _ _ ?_
      refine TK.ret ?_
      try dsimp only [thenQ]
      exact retC [Enc.v (r17.1 : File_api), Enc.v (r17.2 : Bool)] ⟨p_ldVa (l' := Enc.cl (r17.1 : File_api)) ty36 rfl rfl nd (j := 0) rfl rfl rfl rfl (Nat.le_of_ble_eq_true rfl), p_mv rfl, trivial⟩ (by obtain rfl := some_in hX; rfl) (tup_val (allVal.mem ⟨v_val _, v_val _, trivial⟩))

/-- cartridge/cartridgelaw18.ListingNext -/
theorem ok_cartridgelaw18_ListingNext (n1 : Int) (m2 : Int) (gone3 : Bool) (r : Bool) (hX : X.cartridgelaw18_ListingNext n1 m2 gone3 = some r) : Fun Try.prog 6 [Enc.v (n1 : Int), Enc.v (m2 : Int), Enc.v (gone3 : Bool)] (· = Enc.v (r : Bool)) := by
  refine Fun.of b6 (Nat.le_of_ble_eq_true rfl) (allVal.mem ⟨(by exact (v_val _)), (by exact (v_val _)), (by exact (v_val _)), trivial⟩) ?_
  unfold k6
  have nd : Nd [] := Nd_nil
  unfold X.cartridgelaw18_ListingNext at hX
  refine TK.seq_k fun K4 hK4 => ?_
  refine TK.reg ?_
  refine TL.p (C := cx) (gc := true) (p_mv rfl) rfl rfl ?_
  refine TL.nil ?_
  refine hK4 _ _ ?_
  refine TK.seq_k fun K5 hK5 => ?_
  refine TK.reg ?_
  obtain ⟨r6, hr6, hX⟩ := bind_some hX
  refine TL.cvX rfl rfl rfl (fun _ => ⟨rfl, trivial⟩) (fun e => ok_cartridgelaw18_alive  _ hr6) ?_
  refine TL.p (C := cx) (gc := true) (p_mv rfl) rfl rfl ?_
  refine TL.nil ?_
  refine hK5 _ _ ?_
  refine TK.seq_k fun K7 hK7 => ?_
  refine TK.seq_k fun K8 hK8 => ?_
  refine TK.reg ?_
  refine TL.p (C := cx) (gc := true) (p_mv rfl) rfl rfl ?_
  refine TL.p (C := cx) (gc := true) (p_not rfl) rfl rfl ?_
  refine TL.p (C := cx) (gc := true) (p_mv rfl) rfl rfl ?_
  refine TL.p (C := cx) (gc := (!((!r6)))) (p_mv rfl (hg := fun e => rfl)) (gcF1 rfl) rfl ?_
  refine TL.p (C := cx) (gc := (!((!r6)))) (p_lss rfl rfl (hg := fun e => ⟨e, rfl⟩)) (gcF1 rfl) rfl ?_
  refine TL.p (C := cx) (gc := true) (p_or rfl rfl (fun e => ⟨rfl, fun h => (not_t h)⟩)) rfl rfl ?_
  refine TL.p (C := cx) (gc := true) (p_mv rfl) rfl rfl ?_
  refine TL.p (C := cx) (gc := (!(((!r6) || (decide (n1 < (1 : Int))))))) (p_mv rfl (hg := fun e => rfl)) (gcF1 rfl) rfl ?_
  refine TL.p (C := cx) (gc := (!(((!r6) || (decide (n1 < (1 : Int))))))) (p_gtr rfl rfl (hg := fun e => ⟨e, rfl⟩)) (gcF1 rfl) rfl ?_
  refine TL.p (C := cx) (gc := true) (p_or rfl rfl (fun e => ⟨rfl, fun h => (not_t h)⟩)) rfl rfl ?_
  refine TL.p (C := cx) (gc := true) (p_mv rfl) rfl rfl ?_
  refine TL.p (C := cx) (gc := (!((((!r6) || (decide (n1 < (1 : Int)))) || (decide (n1 > (20 : Int))))))) (p_mv rfl (hg := fun e => rfl)) (gcF1 rfl) rfl ?_
  refine TL.p (C := cx) (gc := (!((((!r6) || (decide (n1 < (1 : Int)))) || (decide (n1 > (20 : Int))))))) (p_lss rfl rfl (hg := fun e => ⟨e, rfl⟩)) (gcF1 rfl) rfl ?_
  refine TL.p (C := cx) (gc := true) (p_or rfl rfl (fun e => ⟨rfl, fun h => (not_t h)⟩)) rfl rfl ?_
  refine TL.p (C := cx) (gc := true) (p_mv rfl) rfl rfl ?_
  refine TL.p (C := cx) (gc := (!(((((!r6) || (decide (n1 < (1 : Int)))) || (decide (n1 > (20 : Int)))) || (decide (m2 < (1 : Int))))))) (p_mv rfl (hg := fun e => rfl)) (gcF1 rfl) rfl ?_
  refine TL.p (C := cx) (gc := (!(((((!r6) || (decide (n1 < (1 : Int)))) || (decide (n1 > (20 : Int)))) || (decide (m2 < (1 : Int))))))) (p_gtr rfl rfl (hg := fun e => ⟨e, rfl⟩)) (gcF1 rfl) rfl ?_
  refine TL.p (C := cx) (gc := true) (p_or rfl rfl (fun e => ⟨rfl, fun h => (not_t h)⟩)) rfl rfl ?_
  refine TL.nil ?_
  refine hK8 _ _ ?_
  refine TK.cond (b := (((((!r6) || (decide (n1 < (1 : Int)))) || (decide (n1 > (20 : Int)))) || (decide (m2 < (1 : Int)))) || (decide (m2 > (20 : Int))))) rfl (fun hc => ?_) (fun hc => ?_)
  · have hX := ite_t hc hX
    refine TK.seq_k fun K9 hK9 => ?_
    refine TK.reg ?_
    refine TL.p (C := cx) (gc := true) (p_mv rfl) rfl rfl ?_
    refine TL.p (C := cx) (gc := true) (p_mv rfl) rfl rfl ?_
    refine TL.nil ?_
    refine hK9 _ _ ?_
    refine TK.ret ?_
    try dsimp only [thenQ]
    exact ret1 (v := Enc.v (r6 : Bool)) rfl (by obtain rfl := some_in hX; rfl) (v_val _)
  · have hX := ite_f hc hX
    refine TK.skip ?_
    refine hK7 _ _ ?_
    refine TK.seq_k fun K10 hK10 => ?_
    refine TK.reg ?_
    refine TL.p (C := cx) (gc := true) (p_mv rfl) rfl rfl ?_
    refine TL.nil ?_
    refine hK10 _ _ ?_
    refine TK.ownL (α := File_api) 8 36 nd rfl (.inl rfl) fun b11 nd => ?_
    refine TK.seq_k fun K12 hK12 => ?_
    refine TK.seq_k fun K13 hK13 => ?_
    refine TK.reg ?_
    refine TL.p (C := cx) (gc := true) (p_mv rfl) rfl rfl ?_
    refine TL.nil ?_
    refine hK13 _ _ ?_
    refine TK.block ?_
    obtain ⟨o14, hO14, hA14⟩ := bind_some hX
    have E14 : ∀ (l19 : List File_api) (env : Env) (h : Hp), (∃ b18, keepE [0, 1, 2, 8] env = [(0, true, Enc.v (n1 : Int)), (1, true, Enc.v (m2 : Int)), (2, true, Enc.v (gone3 : Bool)), (8, true, OL (α := File_api) b18 l19)] ∧ Nd [(b18, RL (α := File_api) 36 l19)] ∧ HSub [(b18, RL (α := File_api) 36 l19)] h) → X.cartridgelaw18_ListingNext_e14 m2 n1 gone3 l19 = some r → K12 env h := by
      intro l19 env h hE hX
      obtain ⟨b18, henv, nd, hs⟩ := hE
      unfold X.cartridgelaw18_ListingNext_e14 at hX
      refine hK12 _ _ (TK.keep [0, 1, 2, 8] ?_)
      rw [henv]
      refine TK.subH hs ?_
      refine TK.seq_k fun K20 hK20 => ?_
      refine TK.seq_k fun K21 hK21 => ?_
      refine TK.reg ?_
      refine TL.p (C := cx) (gc := true) (p_mv rfl) rfl rfl ?_
      refine TL.nil ?_
      refine hK21 _ _ ?_
      refine TK.block ?_
      obtain ⟨o22, hO22, hA22⟩ := bind_some hX
      have E22 : ∀ (l27 : List File_api) (env : Env) (h : Hp), (∃ b26, keepE [0, 1, 2, 8] env = [(0, true, Enc.v (n1 : Int)), (1, true, Enc.v (m2 : Int)), (2, true, Enc.v (gone3 : Bool)), (8, true, OL (α := File_api) b26 l27)] ∧ Nd [(b26, RL (α := File_api) 36 l27)] ∧ HSub [(b26, RL (α := File_api) 36 l27)] h) → X.cartridgelaw18_ListingNext_e22 n1 m2 gone3 l27 = some r → K20 env h := by
        intro l27 env h hE hX
        obtain ⟨b26, henv, nd, hs⟩ := hE
        unfold X.cartridgelaw18_ListingNext_e22 at hX
        refine hK20 _ _ (TK.keep [0, 1, 2, 8] ?_)
        rw [henv]
        refine TK.subH hs ?_
        refine TK.seq_k fun K28 hK28 => ?_
        refine TK.reg ?_
        refine TL.p (C := cx) (gc := true) (p_mv rfl) rfl rfl ?_
        refine TL.lay [(8, L l27), (73, L l27)] nd (j := 0) rfl ⟨⟨_, rfl, fix_OL nd (j := 0) rfl, rfl⟩, ⟨⟨_, rfl, fix_OL nd (j := 0) rfl, rfl⟩, trivial⟩⟩ fun nd => ?_
        obtain ⟨r29, hr29, hX⟩ := bind_some hX
        refine TL.cvX rfl rfl rfl (fun _ => ⟨rfl, ⟨rfl, ⟨rfl, trivial⟩⟩⟩) (fun e => ok_listing_Newest l27 (Str.mk [97]) _ hr29) ?_
        refine TL.p (C := cx) (gc := true) (p_mv rfl) rfl rfl ?_
        refine TL.p (C := cx) (gc := true) (p_ex rfl rfl (by decide)) rfl rfl ?_
        refine TL.p (C := cx) (gc := true) (p_ex rfl rfl (by decide)) rfl rfl ?_
        refine TL.alO (C := cx) (l := [Enc.v ((Str.mk []) : Str), Enc.v ((0 : Int) : Int), Enc.v ((0 : Int) : Int), Enc.v ((0 : Int) : Int), Enc.v ((0 : Int) : Int), Enc.v (false : Bool), .nils]) nd ty36 ti36_z rfl rfl fun b30 nd => ?_
        refine TL.stV (C := cx) (lu := Enc.cl (r29.1 : File_api)) nd ty36 rfl (j := 0) rfl rfl rfl (Cells_v (r29.1 : File_api)) rfl rfl [Enc.v (r29.1.Path : Str), Enc.v (r29.1.Version : Int), Enc.v (r29.1.Size : Int), Enc.v (r29.1.Sum : Int), Enc.v (r29.1.Serial : Int), Enc.v (r29.1.Gone : Bool), Enc.v (r29.1.Parts : (List Part_api))] rfl fun nd => ?_
        refine TL.p (C := cx) (gc := true) (p_mv rfl) rfl rfl ?_
        refine TL.nil ?_
        refine hK28 _ _ ?_
        refine TK.seq_k fun K31 hK31 => ?_
        refine TK.reg ?_
        refine TL.p (C := cx) (gc := true) (p_mv rfl) rfl rfl ?_
        refine TL.p (C := cx) (gc := true) (p_mv rfl) rfl rfl ?_
        obtain ⟨r32, hr32, hX⟩ := bind_some hX
        refine TL.cvX rfl rfl rfl (fun _ => ⟨rfl, ⟨rfl, ⟨rfl, ⟨rfl, trivial⟩⟩⟩⟩) (fun e => ok_listing_Get l27 (Str.mk [97]) n1 _ hr32) ?_
        refine TL.p (C := cx) (gc := true) (p_mv rfl) rfl rfl ?_
        refine TL.p (C := cx) (gc := true) (p_ex rfl rfl (by decide)) rfl rfl ?_
        refine TL.p (C := cx) (gc := true) (p_ex rfl rfl (by decide)) rfl rfl ?_
        refine TL.alO (C := cx) (l := [Enc.v ((Str.mk []) : Str), Enc.v ((0 : Int) : Int), Enc.v ((0 : Int) : Int), Enc.v ((0 : Int) : Int), Enc.v ((0 : Int) : Int), Enc.v (false : Bool), .nils]) nd ty36 ti36_z rfl rfl fun b33 nd => ?_
        refine TL.stV (C := cx) (lu := Enc.cl (r32.1 : File_api)) nd ty36 rfl (j := 0) rfl rfl rfl (Cells_v (r32.1 : File_api)) rfl rfl [Enc.v (r32.1.Path : Str), Enc.v (r32.1.Version : Int), Enc.v (r32.1.Size : Int), Enc.v (r32.1.Sum : Int), Enc.v (r32.1.Serial : Int), Enc.v (r32.1.Gone : Bool), Enc.v (r32.1.Parts : (List Part_api))] rfl fun nd => ?_
        refine TL.p (C := cx) (gc := true) (p_mv rfl) rfl rfl ?_
        refine TL.nil ?_
        refine hK31 _ _ ?_
        refine TK.seq_k fun K34 hK34 => ?_
        refine TK.reg ?_
        refine TL.p (C := cx) (gc := true) (p_mv rfl) rfl rfl ?_
        refine TL.p (C := cx) (gc := true) (p_mul rfl rfl) rfl rfl ?_
        refine TL.p (C := cx) (gc := true) (p_mv rfl) rfl rfl ?_
        refine TL.nil ?_
        refine hK34 _ _ ?_
        refine TK.seq_k fun K35 hK35 => ?_
        have J35 : ∀ (want36 : Int) (env : Env) (h : Hp), (∃ _u : Unit, keepE [0, 1, 2, 8, 12, 14, 15] env = [(0, true, Enc.v (n1 : Int)), (1, true, Enc.v (m2 : Int)), (2, true, Enc.v (gone3 : Bool)), (8, true, Enc.v (l27 : (List File_api))), (12, true, Enc.v (r29.2 : Bool)), (14, true, Enc.v (r32.2 : Bool)), (15, true, Enc.v (want36 : Int))] ∧ Nd [] ∧ HSub [] h) → X.cartridgelaw18_ListingNext_j35 gone3 l27 n1 m2 r29 r32 want36 = some r → K35 env h := by
          intro want36 env h hE hX
          obtain ⟨_u, henv, nd, hs⟩ := hE
          unfold X.cartridgelaw18_ListingNext_j35 at hX
          refine hK35 _ _ (TK.keep [0, 1, 2, 8, 12, 14, 15] ?_)
          rw [henv]
          refine TK.subH hs ?_
          refine TK.seq_k fun K37 hK37 => ?_
          refine TK.reg ?_
          refine TL.p (C := cx) (gc := true) (p_mv rfl) rfl rfl ?_
          refine TL.nil ?_
          refine hK37 _ _ ?_
          refine TK.seq_k fun K38 hK38 => ?_
          have J38 : ∀ (names39 : Int) (env : Env) (h : Hp), (∃ _u : Unit, keepE [0, 1, 2, 8, 12, 14, 15, 16] env = [(0, true, Enc.v (n1 : Int)), (1, true, Enc.v (m2 : Int)), (2, true, Enc.v (gone3 : Bool)), (8, true, Enc.v (l27 : (List File_api))), (12, true, Enc.v (r29.2 : Bool)), (14, true, Enc.v (r32.2 : Bool)), (15, true, Enc.v (want36 : Int)), (16, true, Enc.v (names39 : Int))] ∧ Nd [] ∧ HSub [] h) → X.cartridgelaw18_ListingNext_j38 l27 n1 m2 want36 r29 gone3 r32 names39 = some r → K38 env h := by
            intro names39 env h hE hX
            obtain ⟨_u, henv, nd, hs⟩ := hE
            unfold X.cartridgelaw18_ListingNext_j38 at hX
            refine hK38 _ _ (TK.keep [0, 1, 2, 8, 12, 14, 15, 16] ?_)
            rw [henv]
            refine TK.subH hs ?_
            refine TK.seq_k fun K40 hK40 => ?_
            refine TK.reg ?_
            refine TL.p (C := cx) (gc := true) (p_mv rfl) rfl rfl ?_
            obtain ⟨r41, hr41, hX⟩ := bind_some hX
            refine TL.cvX rfl rfl rfl (fun _ => ⟨rfl, ⟨rfl, ⟨rfl, trivial⟩⟩⟩) (fun e => ok_listing_Next l27 (Str.mk [97]) _ hr41) ?_
            refine TL.p (C := cx) (gc := true) (p_mv rfl) rfl rfl ?_
            refine TL.p (C := cx) (gc := true) (p_add rfl rfl) rfl rfl ?_
            refine TL.p (C := cx) (gc := true) (p_eql rfl rfl) rfl rfl ?_
            refine TL.p (C := cx) (gc := true) (p_mv rfl) rfl rfl ?_
            refine TL.p (C := cx) (gc := ((r41 == (wr (n1 + (1 : Int)))))) (p_mv rfl (hg := fun e => rfl)) (gcT1 rfl) rfl ?_
            obtain ⟨r42, hr42, hX⟩ := bind_some hX
            refine TL.cvX (gcT1 rfl) rfl rfl (fun e => ⟨rfl, ⟨e, ⟨rfl, trivial⟩⟩⟩) (fun e => ok_listing_Next l27 (Str.mk [98]) _ (optG_t hr42 e)) ?_
            refine TL.p (C := cx) (gc := ((r41 == (wr (n1 + (1 : Int)))))) (p_mv rfl (hg := fun e => rfl)) (gcT1 rfl) rfl ?_
            refine TL.p (C := cx) (gc := ((r41 == (wr (n1 + (1 : Int)))))) (p_add rfl rfl (hg := fun e => ⟨e, rfl⟩)) (gcT1 rfl) rfl ?_
            refine TL.p (C := cx) (gc := ((r41 == (wr (n1 + (1 : Int)))))) (p_eql rfl rfl (hg := fun e => ⟨e, e⟩)) (gcT1 rfl) rfl ?_
            refine TL.p (C := cx) (gc := true) (p_and rfl rfl (fun e => ⟨rfl, fun h => h⟩)) rfl rfl ?_
            refine TL.p (C := cx) (gc := true) (p_mv rfl) rfl rfl ?_
            refine TL.p (C := cx) (gc := (((r41 == (wr (n1 + (1 : Int)))) && (r42 == (wr (m2 + (1 : Int))))))) (p_mv rfl (hg := fun e => rfl)) (gcT1 rfl) rfl ?_
            obtain ⟨r43, hr43, hX⟩ := bind_some hX
            refine TL.cvX (gcT1 rfl) rfl rfl (fun e => ⟨rfl, ⟨e, ⟨rfl, trivial⟩⟩⟩) (fun e => ok_listing_Next l27 (Str.mk [99]) _ (optG_t hr43 e)) ?_
            refine TL.p (C := cx) (gc := (((r41 == (wr (n1 + (1 : Int)))) && (r42 == (wr (m2 + (1 : Int))))))) (p_eql rfl rfl (hg := fun e => ⟨e, rfl⟩)) (gcT1 rfl) rfl ?_
            refine TL.p (C := cx) (gc := true) (p_and rfl rfl (fun e => ⟨rfl, fun h => h⟩)) rfl rfl ?_
            refine TL.p (C := cx) (gc := true) (p_mv rfl) rfl rfl ?_
            refine TL.p (C := cx) (gc := ((((r41 == (wr (n1 + (1 : Int)))) && (r42 == (wr (m2 + (1 : Int))))) && (r43 == (1 : Int))))) (p_mv rfl (hg := fun e => rfl)) (gcT1 rfl) rfl ?_
            obtain ⟨r44, hr44, hX⟩ := bind_some hX
            refine TL.cvX (gcT1 rfl) rfl rfl (fun e => ⟨rfl, ⟨e, trivial⟩⟩) (fun e => ok_listing_Serial l27 _ (optG_t hr44 e)) ?_
            refine TL.p (C := cx) (gc := ((((r41 == (wr (n1 + (1 : Int)))) && (r42 == (wr (m2 + (1 : Int))))) && (r43 == (1 : Int))))) (p_mv rfl (hg := fun e => rfl)) (gcT1 rfl) rfl ?_
            refine TL.p (C := cx) (gc := ((((r41 == (wr (n1 + (1 : Int)))) && (r42 == (wr (m2 + (1 : Int))))) && (r43 == (1 : Int))))) (p_eql rfl rfl (hg := fun e => ⟨e, e⟩)) (gcT1 rfl) rfl ?_
            refine TL.p (C := cx) (gc := true) (p_and rfl rfl (fun e => ⟨rfl, fun h => h⟩)) rfl rfl ?_
            refine TL.p (C := cx) (gc := true) (p_mv rfl) rfl rfl ?_
            refine TL.p (C := cx) (gc := (((((r41 == (wr (n1 + (1 : Int)))) && (r42 == (wr (m2 + (1 : Int))))) && (r43 == (1 : Int))) && (r44 == want36)))) (p_mv rfl (hg := fun e => rfl)) (gcT1 rfl) rfl ?_
            refine TL.p (C := cx) (gc := (((((r41 == (wr (n1 + (1 : Int)))) && (r42 == (wr (m2 + (1 : Int))))) && (r43 == (1 : Int))) && (r44 == want36)))) (p_mv rfl (hg := fun e => rfl)) (gcT1 rfl) rfl ?_
            refine TL.p (C := cx) (gc := (((((r41 == (wr (n1 + (1 : Int)))) && (r42 == (wr (m2 + (1 : Int))))) && (r43 == (1 : Int))) && (r44 == want36)))) (p_not rfl (hg := fun e => e)) (gcT1 rfl) rfl ?_
            refine TL.p (C := cx) (gc := (((((r41 == (wr (n1 + (1 : Int)))) && (r42 == (wr (m2 + (1 : Int))))) && (r43 == (1 : Int))) && (r44 == want36)))) (p_eqB kd4 rfl rfl (hg := fun e => ⟨e, e⟩)) (gcT1 rfl) rfl ?_
            refine TL.p (C := cx) (gc := true) (p_and rfl rfl (fun e => ⟨rfl, fun h => h⟩)) rfl rfl ?_
            refine TL.p (C := cx) (gc := true) (p_mv rfl) rfl rfl ?_
            refine TL.p (C := cx) (gc := ((((((r41 == (wr (n1 + (1 : Int)))) && (r42 == (wr (m2 + (1 : Int))))) && (r43 == (1 : Int))) && (r44 == want36)) && (r29.2 == (!gone3))))) (p_mv rfl (hg := fun e => rfl)) (gcT1 rfl) rfl ?_
            refine TL.p (C := cx) (gc := ((((((r41 == (wr (n1 + (1 : Int)))) && (r42 == (wr (m2 + (1 : Int))))) && (r43 == (1 : Int))) && (r44 == want36)) && (r29.2 == (!gone3))))) (p_mv rfl (hg := fun e => rfl)) (gcT1 rfl) rfl ?_
            refine TL.p (C := cx) (gc := ((((((r41 == (wr (n1 + (1 : Int)))) && (r42 == (wr (m2 + (1 : Int))))) && (r43 == (1 : Int))) && (r44 == want36)) && (r29.2 == (!gone3))))) (p_not rfl (hg := fun e => e)) (gcT1 rfl) rfl ?_
            refine TL.p (C := cx) (gc := ((((((r41 == (wr (n1 + (1 : Int)))) && (r42 == (wr (m2 + (1 : Int))))) && (r43 == (1 : Int))) && (r44 == want36)) && (r29.2 == (!gone3))))) (p_eqB kd4 rfl rfl (hg := fun e => ⟨e, e⟩)) (gcT1 rfl) rfl ?_
            refine TL.p (C := cx) (gc := true) (p_and rfl rfl (fun e => ⟨rfl, fun h => h⟩)) rfl rfl ?_
            refine TL.p (C := cx) (gc := true) (p_mv rfl) rfl rfl ?_
            refine TL.p (C := cx) (gc := (((((((r41 == (wr (n1 + (1 : Int)))) && (r42 == (wr (m2 + (1 : Int))))) && (r43 == (1 : Int))) && (r44 == want36)) && (r29.2 == (!gone3))) && (r32.2 == (!gone3))))) (p_mv rfl (hg := fun e => rfl)) (gcT1 rfl) rfl ?_
            obtain ⟨r45, hr45, hX⟩ := bind_some hX
            refine TL.cvX (gcT1 rfl) rfl rfl (fun e => ⟨rfl, ⟨e, trivial⟩⟩) (fun e => ok_listing_Names l27 _ (optG_t hr45 e)) ?_
            refine TL.p (C := cx) (gc := (((((((r41 == (wr (n1 + (1 : Int)))) && (r42 == (wr (m2 + (1 : Int))))) && (r43 == (1 : Int))) && (r44 == want36)) && (r29.2 == (!gone3))) && (r32.2 == (!gone3))))) (p_lenL (xs := r45) kd32 rfl (hg := fun e => e)) (gcT1 rfl) rfl ?_
            refine TL.p (C := cx) (gc := (((((((r41 == (wr (n1 + (1 : Int)))) && (r42 == (wr (m2 + (1 : Int))))) && (r43 == (1 : Int))) && (r44 == want36)) && (r29.2 == (!gone3))) && (r32.2 == (!gone3))))) (p_mv rfl (hg := fun e => rfl)) (gcT1 rfl) rfl ?_
            refine TL.p (C := cx) (gc := (((((((r41 == (wr (n1 + (1 : Int)))) && (r42 == (wr (m2 + (1 : Int))))) && (r43 == (1 : Int))) && (r44 == want36)) && (r29.2 == (!gone3))) && (r32.2 == (!gone3))))) (p_eql rfl rfl (hg := fun e => ⟨e, e⟩)) (gcT1 rfl) rfl ?_
            refine TL.p (C := cx) (gc := true) (p_and rfl rfl (fun e => ⟨rfl, fun h => h⟩)) rfl rfl ?_
            refine TL.p (C := cx) (gc := true) (p_mv rfl) rfl rfl ?_
            refine TL.nil ?_
            refine hK40 _ _ ?_
            refine TK.ret ?_
            try dsimp only [thenQ]
            exact ret1 (v := Enc.v ((((((((r41 == (wr (n1 + (1 : Int)))) && (r42 == (wr (m2 + (1 : Int))))) && (r43 == (1 : Int))) && (r44 == want36)) && (r29.2 == (!gone3))) && (r32.2 == (!gone3))) && ((r45.length : Int) == names39)) : Bool)) rfl (by obtain rfl := some_in hX; rfl) (v_val _)
          refine TK.seq_k fun K46 hK46 => ?_
          refine TK.reg ?_
          refine TL.p (C := cx) (gc := true) (p_mv rfl) rfl rfl ?_
          refine TL.nil ?_
          refine hK46 _ _ ?_
          refine TK.cond (b := gone3) rfl (fun hc => ?_) (fun hc => ?_)
          · have hX := ite_t hc hX
            refine TK.reg ?_
            refine TL.p (C := cx) (gc := true) (p_mv rfl) rfl rfl ?_
            refine TL.nil ?_
            exact J38 (1 : Int) _ _ ⟨(), rfl, Nd_nil, HSub.refl _⟩ hX
          · have hX := ite_f hc hX
            refine TK.skip ?_
            exact J38 (2 : Int) _ _ ⟨(), rfl, Nd_nil, HSub.refl _⟩ hX
        refine TK.seq_k fun K47 hK47 => ?_
        refine TK.reg ?_
        refine TL.p (C := cx) (gc := true) (p_mv rfl) rfl rfl ?_
        refine TL.p (C := cx) (gc := true) (p_mv rfl) rfl rfl ?_
        refine TL.p (C := cx) (gc := true) (p_geq rfl rfl) rfl rfl ?_
        refine TL.nil ?_
        refine hK47 _ _ ?_
        refine TK.cond (b := (decide (m2 ≥ n1))) rfl (fun hc => ?_) (fun hc => ?_)
        · have hX := ite_t hc hX
          refine TK.reg ?_
          refine TL.p (C := cx) (gc := true) (p_mv rfl) rfl rfl ?_
          refine TL.p (C := cx) (gc := true) (p_mul rfl rfl) rfl rfl ?_
          refine TL.p (C := cx) (gc := true) (p_add rfl rfl) rfl rfl ?_
          refine TL.p (C := cx) (gc := true) (p_mv rfl) rfl rfl ?_
          refine TL.nil ?_
          exact J35 (wr ((wr ((2 : Int) * m2)) + (1 : Int))) _ _ ⟨(), rfl, (Nd.pick nd (is := []) (by decide)), (HSub.pick nd (is := []) (by decide))⟩ hX
        · have hX := ite_f hc hX
          refine TK.skip ?_
          exact J35 (wr ((2 : Int) * n1)) _ _ ⟨(), rfl, (Nd.pick nd (is := []) (by decide)), (HSub.pick nd (is := []) (by decide))⟩ hX
      refine TK.iter [0, 1, 2, 8, 10] (fun s env h => match s with | (l24, i25) => ∃ b23, env = [(0, true, Enc.v (n1 : Int)), (1, true, Enc.v (m2 : Int)), (2, true, Enc.v (gone3 : Bool)), (8, true, OL (α := File_api) b23 l24), (10, true, Enc.v (i25 : Int))] ∧ Nd [(b23, RL (α := File_api) 36 l24)] ∧ HSub [(b23, RL (α := File_api) 36 l24)] h) hO22 ⟨b18, rfl, (Nd.pick nd (is := [0]) (by decide)), (HSub.pick nd (is := [0]) (by decide))⟩ ?_
      rintro ⟨l24, i25⟩ env h x22x ⟨b23, rfl, nd, hs⟩ hX hR22
      refine TK.subH hs ?_
      unfold X.cartridgelaw18_ListingNext_s22 at hX
      try dsimp only at hX
      refine TK.seq_k fun K48 hK48 => ?_
      refine TK.seq_k fun K49 hK49 => ?_
      refine TK.reg ?_
      refine TL.p (C := cx) (gc := true) (p_mv rfl) rfl rfl ?_
      refine TL.p (C := cx) (gc := true) (p_mv rfl) rfl rfl ?_
      refine TL.p (C := cx) (gc := true) (p_lss rfl rfl) rfl rfl ?_
      refine TL.nil ?_
      refine hK49 _ _ ?_
      refine TK.cond (b := (decide (i25 < m2))) rfl (fun hc => ?_) (fun hc => ?_)
      · have hX := ite_t hc hX
        refine TK.skip ?_
        refine hK48 _ _ ?_
        refine TK.seq_k fun K50 hK50 => ?_
        refine TK.block ?_
        refine TK.reg ?_
        refine TL.p (C := cx) (gc := true) (p_mv rfl) rfl rfl ?_
        refine TL.p (C := cx) (gc := true) (p_mv rfl) rfl rfl ?_
        refine TL.p (C := cx) (gc := true) (p_add rfl rfl) rfl rfl ?_
        refine TL.p (C := cx) (gc := true) (p_mv rfl) rfl rfl ?_
        refine TL.p (C := cx) (gc := true) (p_mul rfl rfl) rfl rfl ?_
        refine TL.p (C := cx) (gc := true) (p_add rfl rfl) rfl rfl ?_
        refine TL.p (C := cx) (gc := true) (p_bld (l := [Enc.v ((Str.mk [98]) : Str), Enc.v ((wr (i25 + (1 : Int))) : Int), Enc.v ((0 : Int) : Int), Enc.v ((0 : Int) : Int), Enc.v ((wr ((wr ((2 : Int) * i25)) + (2 : Int))) : Int), Enc.v (false : Bool), .nils]) ty36 rfl all36 rfl (fun _ => ⟨⟨rfl, trivial, rfl⟩, ⟨rfl, trivial, rfl⟩, ⟨rfl, trivial, rfl⟩, trivial⟩)) rfl rfl (TL.wk (v' := Enc.v ((File_api.mk (Str.mk [98]) (wr (i25 + (1 : Int))) (0 : Int) (0 : Int) (wr ((wr ((2 : Int) * i25)) + (2 : Int))) false ([] : (List Part_api))) : File_api)) (Wk_agg ⟨Wk.refl _, Wk.refl _, Wk.refl _, Wk.refl _, Wk.refl _, Wk.refl _, Wk_nil, trivial⟩) ?_)
        refine TL.lit (C := cx) ([(File_api.mk (Str.mk [98]) (wr (i25 + (1 : Int))) (0 : Int) (0 : Int) (wr ((wr ((2 : Int) * i25)) + (2 : Int))) false ([] : (List Part_api)))] : List File_api) kd31 ty36 rfl ⟨⟨rfl, rfl⟩, trivial⟩ rfl rfl rfl ?_
        obtain ⟨u51, hu51, hX⟩ := bind_some hX
        refine TL.appO (C := cx) nd kd31 bo31 ty36 rfl rfl (j := 0) rfl rfl (Src_L _) (by decide) (need_t hu51) rfl fun nd => ?_
        refine TL.p (C := cx) (gc := true) (p_mv rfl) rfl rfl ?_
        refine TL.nil ?_
        refine hK50 _ _ ?_
        refine TK.reg ?_
        refine TL.p (C := cx) (gc := true) (p_mv rfl) rfl rfl ?_
        refine TL.p (C := cx) (gc := true) (p_add rfl rfl) rfl rfl ?_
        refine TL.p (C := cx) (gc := true) (p_mv rfl) rfl rfl ?_
        refine TL.nil ?_
        exact ⟨_, (some_in hX).symm, b23, rfl, (Nd.pick nd (is := [0]) (by decide)), (HSub.pick nd (is := [0]) (by decide))⟩
      · have hX := ite_f hc hX
        refine TK.exit ?_
        obtain rfl := hR22 _ (some_in hX).symm
        exact E22 l24 _ _ ⟨b23, rfl, (Nd.pick nd (is := [0]) (by decide)), (HSub.pick nd (is := [0]) (by decide))⟩ hA22
    refine TK.iter [0, 1, 2, 8, 9] (fun s env h => match s with | (l16, i17) => ∃ b15, env = [(0, true, Enc.v (n1 : Int)), (1, true, Enc.v (m2 : Int)), (2, true, Enc.v (gone3 : Bool)), (8, true, OL (α := File_api) b15 l16), (9, true, Enc.v (i17 : Int))] ∧ Nd [(b15, RL (α := File_api) 36 l16)] ∧ HSub [(b15, RL (α := File_api) 36 l16)] h) hO14 ⟨b11, rfl, (Nd.pick nd (is := [0]) (by decide)), (HSub.pick nd (is := [0]) (by decide))⟩ ?_
    rintro ⟨l16, i17⟩ env h x14x ⟨b15, rfl, nd, hs⟩ hX hR14
    refine TK.subH hs ?_
    unfold X.cartridgelaw18_ListingNext_s14 at hX
    try dsimp only at hX
    refine TK.seq_k fun K52 hK52 => ?_
    refine TK.seq_k fun K53 hK53 => ?_
    refine TK.reg ?_
    refine TL.p (C := cx) (gc := true) (p_mv rfl) rfl rfl ?_
    refine TL.p (C := cx) (gc := true) (p_mv rfl) rfl rfl ?_
    refine TL.p (C := cx) (gc := true) (p_lss rfl rfl) rfl rfl ?_
    refine TL.nil ?_
    refine hK53 _ _ ?_
    refine TK.cond (b := (decide (i17 < n1))) rfl (fun hc => ?_) (fun hc => ?_)
    · have hX := ite_t hc hX
      refine TK.skip ?_
      refine hK52 _ _ ?_
      refine TK.seq_k fun K54 hK54 => ?_
      refine TK.block ?_
      refine TK.reg ?_
      refine TL.p (C := cx) (gc := true) (p_mv rfl) rfl rfl ?_
      refine TL.p (C := cx) (gc := true) (p_mv rfl) rfl rfl ?_
      refine TL.p (C := cx) (gc := true) (p_add rfl rfl) rfl rfl ?_
      refine TL.p (C := cx) (gc := true) (p_mv rfl) rfl rfl ?_
      refine TL.p (C := cx) (gc := true) (p_mul rfl rfl) rfl rfl ?_
      refine TL.p (C := cx) (gc := true) (p_add rfl rfl) rfl rfl ?_
      refine TL.p (C := cx) (gc := true) (p_mv rfl) rfl rfl ?_
      refine TL.p (C := cx) (gc := true) (p_mv rfl) rfl rfl ?_
      refine TL.p (C := cx) (gc := gone3) (p_mv rfl (hg := fun e => rfl)) (gcT1 rfl) rfl ?_
      refine TL.p (C := cx) (gc := gone3) (p_mv rfl (hg := fun e => rfl)) (gcT1 rfl) rfl ?_
      refine TL.p (C := cx) (gc := gone3) (p_sub rfl rfl (hg := fun e => ⟨e, rfl⟩)) (gcT1 rfl) rfl ?_
      refine TL.p (C := cx) (gc := gone3) (p_eql rfl rfl (hg := fun e => ⟨e, e⟩)) (gcT1 rfl) rfl ?_
      refine TL.p (C := cx) (gc := true) (p_and rfl rfl (fun e => ⟨rfl, fun h => h⟩)) rfl rfl ?_
      refine TL.p (C := cx) (gc := true) (p_bld (l := [Enc.v ((Str.mk [97]) : Str), Enc.v ((wr (i17 + (1 : Int))) : Int), Enc.v ((0 : Int) : Int), Enc.v ((0 : Int) : Int), Enc.v ((wr ((wr ((2 : Int) * i17)) + (1 : Int))) : Int), Enc.v ((gone3 && (i17 == (wr (n1 - (1 : Int))))) : Bool), .nils]) ty36 rfl all36 rfl (fun _ => ⟨⟨rfl, trivial, rfl⟩, ⟨rfl, trivial, rfl⟩, ⟨rfl, trivial, rfl⟩, ⟨rfl, trivial, rfl⟩, trivial⟩)) rfl rfl (TL.wk (v' := Enc.v ((File_api.mk (Str.mk [97]) (wr (i17 + (1 : Int))) (0 : Int) (0 : Int) (wr ((wr ((2 : Int) * i17)) + (1 : Int))) (gone3 && (i17 == (wr (n1 - (1 : Int))))) ([] : (List Part_api))) : File_api)) (Wk_agg ⟨Wk.refl _, Wk.refl _, Wk.refl _, Wk.refl _, Wk.refl _, Wk.refl _, Wk_nil, trivial⟩) ?_)
      refine TL.lit (C := cx) ([(File_api.mk (Str.mk [97]) (wr (i17 + (1 : Int))) (0 : Int) (0 : Int) (wr ((wr ((2 : Int) * i17)) + (1 : Int))) (gone3 && (i17 == (wr (n1 - (1 : Int))))) ([] : (List Part_api)))] : List File_api) kd31 ty36 rfl ⟨⟨rfl, rfl⟩, trivial⟩ rfl rfl rfl ?_
      obtain ⟨u55, hu55, hX⟩ := bind_some hX
      refine TL.appO (C := cx) nd kd31 bo31 ty36 rfl rfl (j := 0) rfl rfl (Src_L _) (by decide) (need_t hu55) rfl fun nd => ?_
      refine TL.p (C := cx) (gc := true) (p_mv rfl) rfl rfl ?_
      refine TL.nil ?_
      refine hK54 _ _ ?_
      refine TK.reg ?_
      refine TL.p (C := cx) (gc := true) (p_mv rfl) rfl rfl ?_
      refine TL.p (C := cx) (gc := true) (p_add rfl rfl) rfl rfl ?_
      refine TL.p (C := cx) (gc := true) (p_mv rfl) rfl rfl ?_
      refine TL.nil ?_
      exact ⟨_, (some_in hX).symm, b15, rfl, (Nd.pick nd (is := [0]) (by decide)), (HSub.pick nd (is := [0]) (by decide))⟩
    · have hX := ite_f hc hX
      refine TK.exit ?_
      obtain rfl := hR14 _ (some_in hX).symm
      exact E14 l16 _ _ ⟨b15, rfl, (Nd.pick nd (is := [0]) (by decide)), (HSub.pick nd (is := [0]) (by decide))⟩ hA14

end Go.Proofs.Ytndjbcnpgggddaa
