import Derived.Test.YtndjbcnpgggddaaXFn
import Derived.Test.YtndjbcnpgggddaaXS
import Derived.Test.YtndjbcnpgggddaaAmK0
import Derived.Test.YtndjbcnpgggddaaSh
/- That they do. -/
namespace Go.Proofs.Ytndjbcnpgggddaa
open Go.AM Go.AX
set_option linter.unusedVariables false
set_option maxRecDepth 20000

/-- cartridge/listing.newest -/
theorem bc49 : BodyC cx 49 35 [.c 4 36, .t 5] k49 := ⟨Enters.of Try.func49 (by kernel_rfl) (by kernel_rfl), _, _, Try.func49, rfl, by kernel_rfl, rfl, rfl⟩
theorem ok_listing_newest (l1 : (List File_api)) (path2 : Str) (r : (File_api × Bool)) (hX : X.listing_newest l1 path2 = some r) : Fun Try.prog 49 [Enc.v (l1 : (List File_api)), Enc.v (path2 : Str)] (· = .tup 2 (ofL [Enc.v r.1, Enc.v r.2])) := by
  refine Fun.ofC (C := cx) bc49 (Nat.le_of_ble_eq_true rfl) (allVal.mem ⟨(by exact (v_val _)), (by exact (v_val _)), trivial⟩) ?_
  unfold k49
  have nd : Nd [] := Nd_nil
  unfold X.listing_newest at hX
  refine TK.seq_k fun K3 hK3 => ?_
  refine TK.reg ?_
  refine TL.alO (C := cx) (l := [Enc.v ((Str.mk []) : Str), Enc.v ((0 : Int) : Int), Enc.v ((0 : Int) : Int), Enc.v ((0 : Int) : Int), Enc.v ((0 : Int) : Int), Enc.v (false : Bool), .nils]) nd ty36 ti36_z rfl rfl fun b4 nd => ?_
  refine TL.p (C := cx) (gc := true) (p_mv rfl) rfl rfl ?_
  refine TL.nil ?_
  refine hK3 _ _ ?_
  refine TK.cvR nd (j := 0) rfl (l' := [Enc.v ((Str.mk []) : Str), Enc.v ((0 : Int) : Int), Enc.v ((0 : Int) : Int), Enc.v ((0 : Int) : Int), Enc.v ((0 : Int) : Int), Enc.v (false : Bool), Enc.v (([] : (List Part_api)) : (List Part_api))]) ⟨Wk.refl _, Wk.refl _, Wk.refl _, Wk.refl _, Wk.refl _, Wk.refl _, Wk_nil, trivial⟩ fun nd => ?_
  refine TK.seq_k fun K5 hK5 => ?_
  refine TK.reg ?_
  refine TL.alO (C := cx) (l := [Enc.v ((Str.mk []) : Str), Enc.v ((0 : Int) : Int), Enc.v ((0 : Int) : Int), Enc.v ((0 : Int) : Int), Enc.v ((0 : Int) : Int), Enc.v (false : Bool), .nils]) nd ty36 ti36_z rfl rfl fun b6 nd => ?_
  refine TL.nil ?_
  refine hK5 _ _ ?_
  refine TK.cvR nd (j := 0) rfl (l' := [Enc.v ((Str.mk []) : Str), Enc.v ((0 : Int) : Int), Enc.v ((0 : Int) : Int), Enc.v ((0 : Int) : Int), Enc.v ((0 : Int) : Int), Enc.v (false : Bool), Enc.v (([] : (List Part_api)) : (List Part_api))]) ⟨Wk.refl _, Wk.refl _, Wk.refl _, Wk.refl _, Wk.refl _, Wk.refl _, Wk_nil, trivial⟩ fun nd => ?_
  refine TK.seq_k fun K7 hK7 => ?_
  refine TK.reg ?_
  refine TL.p (C := cx) (gc := true) (p_mv rfl) rfl rfl ?_
  refine TL.nil ?_
  refine hK7 _ _ ?_
  refine TK.seq_k fun K8 hK8 => ?_
  refine TK.seq_k fun K9 hK9 => ?_
  refine TK.reg ?_
  refine TL.p (C := cx) (gc := true) (p_mv rfl) rfl rfl ?_
  refine TL.p (C := cx) (gc := true) (p_lenL (xs := l1) kd31 rfl) rfl rfl ?_
  refine TL.p (C := cx) (gc := true) (p_mv rfl) rfl rfl ?_
  refine TL.nil ?_
  refine hK9 _ _ ?_
  refine TK.block ?_
  obtain ⟨o10, hO10, hA10⟩ := bind_some hX
  have E10 : ∀ (c24 : Str) (c25 : Int) (c26 : Int) (c27 : Int) (c28 : Int) (c29 : Bool) (c30 : (List Part_api)) (ok31 : Bool) (env : Env) (h : Hp), (∃ b22 b23, keepE [4, 6, 7] env = [(4, true, .ref b22 0 7), (6, true, .ref b23 0 7), (7, true, Enc.v (ok31 : Bool))] ∧ Nd [(b22, RV 36 [Enc.v ((Str.mk []) : Str), Enc.v ((0 : Int) : Int), Enc.v ((0 : Int) : Int), Enc.v ((0 : Int) : Int), Enc.v ((0 : Int) : Int), Enc.v (false : Bool), Enc.v (([] : (List Part_api)) : (List Part_api))]), (b23, RV 36 [Enc.v (c24 : Str), Enc.v (c25 : Int), Enc.v (c26 : Int), Enc.v (c27 : Int), Enc.v (c28 : Int), Enc.v (c29 : Bool), Enc.v (c30 : (List Part_api))])] ∧ HSub [(b22, RV 36 [Enc.v ((Str.mk []) : Str), Enc.v ((0 : Int) : Int), Enc.v ((0 : Int) : Int), Enc.v ((0 : Int) : Int), Enc.v ((0 : Int) : Int), Enc.v (false : Bool), Enc.v (([] : (List Part_api)) : (List Part_api))]), (b23, RV 36 [Enc.v (c24 : Str), Enc.v (c25 : Int), Enc.v (c26 : Int), Enc.v (c27 : Int), Enc.v (c28 : Int), Enc.v (c29 : Bool), Enc.v (c30 : (List Part_api))])] h) → X.listing_newest_e10 c24 c25 c26 c27 c28 c29 c30 ok31 = some r → K8 env h := by
    intro c24 c25 c26 c27 c28 c29 c30 ok31 env h hE hX
    obtain ⟨b22, b23, henv, nd, hs⟩ := hE
    unfold X.listing_newest_e10 at hX
    refine hK8 _ _ (TK.keep [4, 6, 7] ?_)
    rw [henv]
    refine TK.subH hs ?_
    refine TK.seq_k fun K32 hK32 => ?_
    refine TK.reg ?_
    refine TL.p (C := cx) (gc := true) (p_ldVa (l' := Enc.cl ((File_api.mk c24 c25 c26 c27 c28 c29 c30) : File_api)) ty36 rfl rfl nd (j := 1) rfl rfl rfl rfl (Nat.le_of_ble_eq_true rfl)) rfl rfl ?_
    refine TL.p (C := cx) (gc := true) (p_mv rfl) rfl rfl ?_
    refine TL.stV (C := cx) (lu := Enc.cl ((File_api.mk c24 c25 c26 c27 c28 c29 c30) : File_api)) nd ty36 rfl (j := 0) rfl rfl rfl (Cells_v ((File_api.mk c24 c25 c26 c27 c28 c29 c30) : File_api)) rfl rfl [Enc.v ((File_api.mk c24 c25 c26 c27 c28 c29 c30).Path : Str), Enc.v ((File_api.mk c24 c25 c26 c27 c28 c29 c30).Version : Int), Enc.v ((File_api.mk c24 c25 c26 c27 c28 c29 c30).Size : Int), Enc.v ((File_api.mk c24 c25 c26 c27 c28 c29 c30).Sum : Int), Enc.v ((File_api.mk c24 c25 c26 c27 c28 c29 c30).Serial : Int), Enc.v ((File_api.mk c24 c25 c26 c27 c28 c29 c30).Gone : Bool), Enc.v ((File_api.mk c24 c25 c26 c27 c28 c29 c30).Parts : (List Part_api))] rfl fun nd => ?_
    refine TL.p (C := cx) (gc := true) (p_mv rfl) rfl rfl ?_
    refine TL.nil ?_
    refine hK32 _ _ ?_
    refine TK.ret ?_
    try dsimp only [thenQ]
    exact retC [Enc.v ((File_api.mk c24 c25 c26 c27 c28 c29 c30) : File_api), Enc.v (ok31 : Bool)] ⟨p_ldVa (l' := Enc.cl ((File_api.mk c24 c25 c26 c27 c28 c29 c30) : File_api)) ty36 rfl rfl nd (j := 0) rfl rfl rfl rfl (Nat.le_of_ble_eq_true rfl), p_mv rfl, trivial⟩ (by obtain rfl := some_in hX; rfl) (tup_val (allVal.mem ⟨v_val _, v_val _, trivial⟩))
  refine TK.iter [1, 4, 6, 7, 10, 11, 12] (fun s env h => match s with | (c13, c14, c15, c16, c17, c18, c19, ok20, x21) => ∃ b11 b12, env = [(1, true, Enc.v (path2 : Str)), (4, true, .ref b11 0 7), (6, true, .ref b12 0 7), (7, true, Enc.v (ok20 : Bool)), (10, true, Enc.v (l1 : (List File_api))), (11, true, Enc.v ((l1.length : Int) : Int)), (12, true, Enc.v (x21 : Int))] ∧ Nd [(b11, RV 36 [Enc.v ((Str.mk []) : Str), Enc.v ((0 : Int) : Int), Enc.v ((0 : Int) : Int), Enc.v ((0 : Int) : Int), Enc.v ((0 : Int) : Int), Enc.v (false : Bool), Enc.v (([] : (List Part_api)) : (List Part_api))]), (b12, RV 36 [Enc.v (c13 : Str), Enc.v (c14 : Int), Enc.v (c15 : Int), Enc.v (c16 : Int), Enc.v (c17 : Int), Enc.v (c18 : Bool), Enc.v (c19 : (List Part_api))])] ∧ HSub [(b11, RV 36 [Enc.v ((Str.mk []) : Str), Enc.v ((0 : Int) : Int), Enc.v ((0 : Int) : Int), Enc.v ((0 : Int) : Int), Enc.v ((0 : Int) : Int), Enc.v (false : Bool), Enc.v (([] : (List Part_api)) : (List Part_api))]), (b12, RV 36 [Enc.v (c13 : Str), Enc.v (c14 : Int), Enc.v (c15 : Int), Enc.v (c16 : Int), Enc.v (c17 : Int), Enc.v (c18 : Bool), Enc.v (c19 : (List Part_api))])] h) hO10 ⟨b4, b6, rfl, (Nd.pick nd (is := [1, 0]) (by decide)), (HSub.pick nd (is := [1, 0]) (by decide))⟩ ?_
  rintro ⟨c13, c14, c15, c16, c17, c18, c19, ok20, x21⟩ env h x10x ⟨b11, b12, rfl, nd, hs⟩ hX hR10
  refine TK.subH hs ?_
  unfold X.listing_newest_s10 at hX
  try dsimp only at hX
  refine TK.seq_k fun K33 hK33 => ?_
  refine TK.reg ?_
  refine TL.p (C := cx) (gc := true) (p_lss rfl rfl) rfl rfl ?_
  refine TL.nil ?_
  refine hK33 _ _ ?_
  refine TK.seq_k fun K34 hK34 => ?_
  refine TK.cond (b := (decide (x21 < (l1.length : Int)))) rfl (fun hc => ?_) (fun hc => ?_)
  · have hX := ite_t hc hX
    refine TK.skip ?_
    refine hK34 _ _ ?_
    refine TK.seq_k fun K35 hK35 => ?_
    refine TK.block ?_
    refine TK.seq_k fun K36 hK36 => ?_
    refine TK.reg ?_
    obtain ⟨e37, he37, hX⟩ := bind_some hX
    refine TL.p (C := cx) (gc := true) (p_iaL (xs := l1) kd31 ty36 rfl rfl rfl (fun _ => he37)) rfl rfl ?_
    refine TL.p (C := cx) (gc := true) (p_ldE (xs := l1) (a := e37) (e37 : File_api) ty36 rfl rfl (fun _ => he37) rfl rfl rfl) rfl rfl ?_
    refine TL.alO (C := cx) (l := [Enc.v ((Str.mk []) : Str), Enc.v ((0 : Int) : Int), Enc.v ((0 : Int) : Int), Enc.v ((0 : Int) : Int), Enc.v ((0 : Int) : Int), Enc.v (false : Bool), .nils]) nd ty36 ti36_z rfl rfl fun b38 nd => ?_
    refine TL.stV (C := cx) (lu := Enc.cl (e37 : File_api)) nd ty36 rfl (j := 0) rfl rfl rfl (Cells_v (e37 : File_api)) rfl rfl [Enc.v (e37.Path : Str), Enc.v (e37.Version : Int), Enc.v (e37.Size : Int), Enc.v (e37.Sum : Int), Enc.v (e37.Serial : Int), Enc.v (e37.Gone : Bool), Enc.v (e37.Parts : (List Part_api))] rfl fun nd => ?_
    refine TL.nil ?_
    refine hK36 _ _ ?_
    refine TK.seq_k fun K39 hK39 => ?_
    refine TK.reg ?_
    refine TL.p (C := cx) (gc := true) (p_faV fs36_0 (by decide) rfl nd (j := 0) rfl rfl) rfl rfl ?_
    refine TL.p (C := cx) (gc := true) (p_ldV (v := Enc.v (e37.Path : Str)) ty9 rfl rfl nd (j := 0) rfl rfl rfl rfl rfl) rfl rfl ?_
    refine TL.p (C := cx) (gc := true) (p_mv rfl) rfl rfl ?_
    refine TL.p (C := cx) (gc := true) (ps_eql (s := e37.Path) (r := path2) rfl rfl) rfl rfl ?_
    refine TL.p (C := cx) (gc := true) (p_mv rfl) rfl rfl ?_
    refine TL.p (C := cx) (gc := ((e37.Path.l == path2.l))) (p_mv rfl (hg := fun e => rfl)) (gcT1 rfl) rfl ?_
    refine TL.p (C := cx) (gc := ((e37.Path.l == path2.l))) (p_not rfl (hg := fun e => e)) (gcT1 rfl) rfl ?_
    refine TL.p (C := cx) (gc := ((e37.Path.l == path2.l))) (p_mv rfl (hg := fun e => e)) (gcT1 rfl) rfl ?_
    refine TL.p (C := cx) (gc := (((e37.Path.l == path2.l)) && (!((!ok20))))) (p_faV fs36_1 (by decide) rfl nd (j := 0) rfl rfl (hg := fun e => rfl)) (gcF rfl) rfl ?_
    refine TL.p (C := cx) (gc := (((e37.Path.l == path2.l)) && (!((!ok20))))) (p_ldV (v := Enc.v (e37.Version : Int)) ty3 rfl rfl nd (j := 0) rfl rfl rfl rfl rfl (hg := fun e => e)) (gcF rfl) rfl ?_
    refine TL.p (C := cx) (gc := (((e37.Path.l == path2.l)) && (!((!ok20))))) (p_faV fs36_1 (by decide) rfl nd (j := 2) rfl rfl (hg := fun e => rfl)) (gcF rfl) rfl ?_
    refine TL.p (C := cx) (gc := (((e37.Path.l == path2.l)) && (!((!ok20))))) (p_ldV (v := Enc.v (c14 : Int)) ty3 rfl rfl nd (j := 2) rfl rfl rfl rfl rfl (hg := fun e => e)) (gcF rfl) rfl ?_
    refine TL.p (C := cx) (gc := (((e37.Path.l == path2.l)) && (!((!ok20))))) (p_gtr rfl rfl (hg := fun e => ⟨e, e⟩)) (gcF rfl) rfl ?_
    refine TL.p (C := cx) (gc := ((e37.Path.l == path2.l))) (p_or rfl rfl (fun e => ⟨e, fun h => (and_i e (not_t h))⟩)) (gcT1 rfl) rfl ?_
    refine TL.p (C := cx) (gc := true) (p_and rfl rfl (fun e => ⟨rfl, fun h => h⟩)) rfl rfl ?_
    refine TL.nil ?_
    refine hK39 _ _ ?_
    refine TK.cond (b := ((e37.Path.l == path2.l) && ((!ok20) || (decide (e37.Version > c14))))) rfl (fun hc => ?_) (fun hc => ?_)
    · have hX := ite_t hc hX
      refine TK.reg ?_
      refine TL.p (C := cx) (gc := true) (p_ldVa (l' := Enc.cl (e37 : File_api)) ty36 rfl rfl nd (j := 0) rfl rfl rfl rfl (Nat.le_of_ble_eq_true rfl)) rfl rfl ?_
      refine TL.stV (C := cx) (lu := Enc.cl (e37 : File_api)) nd ty36 rfl (j := 2) rfl rfl rfl (Cells_v (e37 : File_api)) rfl rfl [Enc.v (e37.Path : Str), Enc.v (e37.Version : Int), Enc.v (e37.Size : Int), Enc.v (e37.Sum : Int), Enc.v (e37.Serial : Int), Enc.v (e37.Gone : Bool), Enc.v (e37.Parts : (List Part_api))] rfl fun nd => ?_
      refine TL.p (C := cx) (gc := true) (p_mv rfl) rfl rfl ?_
      refine TL.nil ?_
      refine hK35 _ _ ?_
      refine TK.reg ?_
      refine TL.p (C := cx) (gc := true) (p_add rfl rfl) rfl rfl ?_
      refine TL.p (C := cx) (gc := true) (p_mv rfl) rfl rfl ?_
      refine TL.nil ?_
      exact ⟨_, (some_in hX).symm, b11, b12, rfl, (Nd.pick nd (is := [1, 2]) (by decide)), (HSub.pick nd (is := [1, 2]) (by decide))⟩
    · have hX := ite_f hc hX
      refine TK.skip ?_
      refine hK35 _ _ ?_
      refine TK.reg ?_
      refine TL.p (C := cx) (gc := true) (p_add rfl rfl) rfl rfl ?_
      refine TL.p (C := cx) (gc := true) (p_mv rfl) rfl rfl ?_
      refine TL.nil ?_
      exact ⟨_, (some_in hX).symm, b11, b12, rfl, (Nd.pick nd (is := [1, 2]) (by decide)), (HSub.pick nd (is := [1, 2]) (by decide))⟩
  · have hX := ite_f hc hX
    refine TK.exit ?_
    obtain rfl := hR10 _ (some_in hX).symm
    exact E10 c13 c14 c15 c16 c17 c18 c19 ok20 _ _ ⟨b11, b12, rfl, (Nd.pick nd (is := [0, 1]) (by decide)), (HSub.pick nd (is := [0, 1]) (by decide))⟩ hA10

/-- slices.Clone[[]cartridge/api.Part,cartridge/api.Part] -/
theorem ok_slices_Clone_Lapi_Part_api_Part (s1 : (List Part_api)) (r : (List Part_api)) (hX : X.slices_Clone_Lapi_Part_api_Part s1 = some r) : Fun Try.prog 139 [Enc.v (s1 : (List Part_api))] (· = Enc.v (r : (List Part_api))) := by
  refine Fun.of b139 (Nat.le_of_ble_eq_true rfl) (allVal.mem ⟨(by exact (v_val _)), trivial⟩) ?_
  unfold k139
  have nd : Nd [] := Nd_nil
  unfold X.slices_Clone_Lapi_Part_api_Part at hX
  refine TK.seq_k fun K2 hK2 => ?_
  refine TK.reg ?_
  refine TL.p (C := cx) (gc := true) (p_mv rfl) rfl rfl ?_
  refine TL.nil ?_
  refine hK2 _ _ ?_
  refine TK.seq_k fun K3 hK3 => ?_
  refine TK.seq_k fun K4 hK4 => ?_
  refine TK.reg ?_
  refine TL.p (C := cx) (gc := true) (p_mv rfl) rfl rfl ?_
  refine TL.eqNilU (C := cx) (xs := s1) kd34 rfl rfl rfl fun z5 hbz5 => ?_
  replace hX := nilU_t hX hbz5
  refine TL.nil ?_
  refine hK4 _ _ ?_
  refine TK.cond (b := z5) rfl (fun hc => ?_) (fun hc => ?_)
  · have hX := ite_t hc hX
    refine TK.seq_k fun K6 hK6 => ?_
    refine TK.reg ?_
    refine TL.p (C := cx) (gc := true) (p_mv rfl) rfl rfl ?_
    refine TL.nil ?_
    refine hK6 _ _ ?_
    refine TK.wk 2 (L ([] : (List Part_api))) rfl Wk_nil ?_
    refine TK.ret ?_
    try dsimp only [thenQ]
    exact ret1 (v := Enc.v (([] : (List Part_api)) : (List Part_api))) rfl (by obtain rfl := some_in hX; rfl) (v_val _)
  · have hX := ite_f hc hX
    refine TK.skip ?_
    refine hK3 _ _ ?_
    refine TK.seq_k fun K7 hK7 => ?_
    refine TK.reg ?_
    refine TL.litZ (C := cx) kd34 ty87 rfl ?_
    refine TL.p (C := cx) (gc := true) (p_mv rfl) rfl rfl ?_
    obtain ⟨u9, hu9, hX⟩ := bind_some hX
    refine TL.appN (C := cx) nd kd34 bo34 ty87 rfl rfl (.inr rfl) rfl (Src_L _) (by decide) (need_t hu9) rfl fun b10 nd => ?_
    refine TL.p (C := cx) (gc := true) (p_mv rfl) rfl rfl ?_
    refine TL.nil ?_
    refine hK7 _ _ ?_
    refine TK.lay [(2, L s1)] nd (j := 0) rfl ⟨⟨_, rfl, fix_OL nd (j := 0) rfl, rfl⟩, trivial⟩ fun nd => ?_
    refine TK.ret ?_
    try dsimp only [thenQ]
    exact ret1 (v := Enc.v (s1 : (List Part_api))) rfl (by obtain rfl := some_in hX; rfl) (v_val _)

/-- cartridge/listing.Clone -/
theorem bc87 : BodyC cx 87 8 [.c 2 36] k87 := ⟨Enters.of Try.func87 (by kernel_rfl) (by kernel_rfl), _, _, Try.func87, rfl, by kernel_rfl, rfl, rfl⟩
theorem ok_listing_Clone (f1 : File_api) (r : File_api) (hX : X.listing_Clone f1 = some r) : Fun Try.prog 87 [Enc.v (f1 : File_api)] (· = Enc.v (r : File_api)) := by
  refine Fun.ofC (C := cx) bc87 (Nat.le_of_ble_eq_true rfl) (allVal.mem ⟨(by exact (v_val _)), trivial⟩) ?_
  unfold k87
  have nd : Nd [] := Nd_nil
  unfold X.listing_Clone at hX
  refine TK.seq_k fun K2 hK2 => ?_
  refine TK.reg ?_
  refine TL.boxO (C := cx) (lu := [Enc.v (f1.Path : Str), Enc.v (f1.Version : Int), Enc.v (f1.Size : Int), Enc.v (f1.Sum : Int), Enc.v (f1.Serial : Int), Enc.v (f1.Gone : Bool), Enc.v (f1.Parts : (List Part_api))]) nd rfl (Cells_v (f1 : File_api)) rfl fun b3 nd => ?_
  refine TL.alO (C := cx) (l := [Enc.v ((Str.mk []) : Str), Enc.v ((0 : Int) : Int), Enc.v ((0 : Int) : Int), Enc.v ((0 : Int) : Int), Enc.v ((0 : Int) : Int), Enc.v (false : Bool), .nils]) nd ty36 ti36_z rfl rfl fun b4 nd => ?_
  refine TL.nil ?_
  refine hK2 _ _ ?_
  refine TK.cvR nd (j := 0) rfl (l' := [Enc.v ((Str.mk []) : Str), Enc.v ((0 : Int) : Int), Enc.v ((0 : Int) : Int), Enc.v ((0 : Int) : Int), Enc.v ((0 : Int) : Int), Enc.v (false : Bool), Enc.v (([] : (List Part_api)) : (List Part_api))]) ⟨Wk.refl _, Wk.refl _, Wk.refl _, Wk.refl _, Wk.refl _, Wk.refl _, Wk_nil, trivial⟩ fun nd => ?_
  refine TK.seq_k fun K5 hK5 => ?_
  refine TK.reg ?_
  refine TL.p (C := cx) (gc := true) (p_faV fs36_6 (by decide) rfl nd (j := 1) rfl rfl) rfl rfl ?_
  refine TL.p (C := cx) (gc := true) (p_ldV (v := Enc.v (f1.Parts : (List Part_api))) ty34 rfl rfl nd (j := 1) rfl rfl rfl rfl rfl) rfl rfl ?_
  obtain ⟨r6, hr6, hX⟩ := bind_some hX
  refine TL.cvX rfl rfl rfl (fun _ => ⟨rfl, ⟨rfl, trivial⟩⟩) (fun e => ok_slices_Clone_Lapi_Part_api_Part f1.Parts _ hr6) ?_
  refine TL.p (C := cx) (gc := true) (p_faV fs36_6 (by decide) rfl nd (j := 1) rfl rfl) rfl rfl ?_
  refine TL.stV (C := cx) (lu := Enc.cl (r6 : (List Part_api))) nd ty34 rfl (j := 1) rfl rfl rfl (Cells_v (r6 : (List Part_api))) rfl rfl [Enc.v (f1.Path : Str), Enc.v (f1.Version : Int), Enc.v (f1.Size : Int), Enc.v (f1.Sum : Int), Enc.v (f1.Serial : Int), Enc.v (f1.Gone : Bool), Enc.v (r6 : (List Part_api))] rfl fun nd => ?_
  refine TL.nil ?_
  refine hK5 _ _ ?_
  refine TK.seq_k fun K7 hK7 => ?_
  refine TK.reg ?_
  refine TL.p (C := cx) (gc := true) (p_ldVa (l' := Enc.cl ((File_api.mk f1.Path f1.Version f1.Size f1.Sum f1.Serial f1.Gone r6) : File_api)) ty36 rfl rfl nd (j := 1) rfl rfl rfl rfl (Nat.le_of_ble_eq_true rfl)) rfl rfl ?_
  refine TL.stV (C := cx) (lu := Enc.cl ((File_api.mk f1.Path f1.Version f1.Size f1.Sum f1.Serial f1.Gone r6) : File_api)) nd ty36 rfl (j := 0) rfl rfl rfl (Cells_v ((File_api.mk f1.Path f1.Version f1.Size f1.Sum f1.Serial f1.Gone r6) : File_api)) rfl rfl [Enc.v ((File_api.mk f1.Path f1.Version f1.Size f1.Sum f1.Serial f1.Gone r6).Path : Str), Enc.v ((File_api.mk f1.Path f1.Version f1.Size f1.Sum f1.Serial f1.Gone r6).Version : Int), Enc.v ((File_api.mk f1.Path f1.Version f1.Size f1.Sum f1.Serial f1.Gone r6).Size : Int), Enc.v ((File_api.mk f1.Path f1.Version f1.Size f1.Sum f1.Serial f1.Gone r6).Sum : Int), Enc.v ((File_api.mk f1.Path f1.Version f1.Size f1.Sum f1.Serial f1.Gone r6).Serial : Int), Enc.v ((File_api.mk f1.Path f1.Version f1.Size f1.Sum f1.Serial f1.Gone r6).Gone : Bool), Enc.v ((File_api.mk f1.Path f1.Version f1.Size f1.Sum f1.Serial f1.Gone r6).Parts : (List Part_api))] rfl fun nd => ?_
  refine TL.nil ?_
  refine hK7 _ _ ?_
  refine TK.ret ?_
  try dsimp only [thenQ]
  exact retC [Enc.v ((File_api.mk f1.Path f1.Version f1.Size f1.Sum f1.Serial f1.Gone r6) : File_api)] ⟨p_ldVa (l' := Enc.cl ((File_api.mk f1.Path f1.Version f1.Size f1.Sum f1.Serial f1.Gone r6) : File_api)) ty36 rfl rfl nd (j := 0) rfl rfl rfl rfl (Nat.le_of_ble_eq_true rfl), trivial⟩ (by obtain rfl := some_in hX; rfl) (v_val _)

/-- cartridge/listing.there -/
theorem bc48 : BodyC cx 48 15 [.c 4 36, .t 5] k48 := ⟨Enters.of Try.func48 (by kernel_rfl) (by kernel_rfl), _, _, Try.func48, rfl, by kernel_rfl, rfl, rfl⟩
theorem ok_listing_there (f1 : File_api) (ok2 : Bool) (r : (File_api × Bool)) (hX : X.listing_there f1 ok2 = some r) : Fun Try.prog 48 [Enc.v (f1 : File_api), Enc.v (ok2 : Bool)] (· = .tup 2 (ofL [Enc.v r.1, Enc.v r.2])) := by
  refine Fun.ofC (C := cx) bc48 (Nat.le_of_ble_eq_true rfl) (allVal.mem ⟨(by exact (v_val _)), (by exact (v_val _)), trivial⟩) ?_
  unfold k48
  have nd : Nd [] := Nd_nil
  unfold X.listing_there at hX
  refine TK.seq_k fun K3 hK3 => ?_
  refine TK.reg ?_
  refine TL.boxV (C := cx) (lu := [Enc.v (f1.Path : Str), Enc.v (f1.Version : Int), Enc.v (f1.Size : Int), Enc.v (f1.Sum : Int), Enc.v (f1.Serial : Int), Enc.v (f1.Gone : Bool), Enc.v (f1.Parts : (List Part_api))]) nd rfl (Cells_v (f1 : File_api)) rfl ?_
  refine TL.alO (C := cx) (l := [Enc.v ((Str.mk []) : Str), Enc.v ((0 : Int) : Int), Enc.v ((0 : Int) : Int), Enc.v ((0 : Int) : Int), Enc.v ((0 : Int) : Int), Enc.v (false : Bool), .nils]) nd ty36 ti36_z rfl rfl fun b4 nd => ?_
  refine TL.p (C := cx) (gc := true) (p_mv rfl) rfl rfl ?_
  refine TL.nil ?_
  refine hK3 _ _ ?_
  refine TK.cvR nd (j := 0) rfl (l' := [Enc.v ((Str.mk []) : Str), Enc.v ((0 : Int) : Int), Enc.v ((0 : Int) : Int), Enc.v ((0 : Int) : Int), Enc.v ((0 : Int) : Int), Enc.v (false : Bool), Enc.v (([] : (List Part_api)) : (List Part_api))]) ⟨Wk.refl _, Wk.refl _, Wk.refl _, Wk.refl _, Wk.refl _, Wk.refl _, Wk_nil, trivial⟩ fun nd => ?_
  refine TK.seq_k fun K5 hK5 => ?_
  refine TK.seq_k fun K6 hK6 => ?_
  refine TK.reg ?_
  refine TL.p (C := cx) (gc := true) (p_mv rfl) rfl rfl ?_
  refine TL.p (C := cx) (gc := true) (p_not rfl) rfl rfl ?_
  refine TL.p (C := cx) (gc := true) (p_mv rfl) rfl rfl ?_
  refine TL.p (C := cx) (gc := (!((!ok2)))) (p_faR fs36_5 (by decide) rfl (hg := fun e => rfl)) (gcF1 rfl) rfl ?_
  refine TL.p (C := cx) (gc := (!((!ok2)))) (p_ldR (v := Enc.v (f1.Gone : Bool)) ty4 rfl rfl rfl rfl rfl rfl (hg := fun e => e)) (gcF1 rfl) rfl ?_
  refine TL.p (C := cx) (gc := true) (p_or rfl rfl (fun e => ⟨rfl, fun h => (not_t h)⟩)) rfl rfl ?_
  refine TL.nil ?_
  refine hK6 _ _ ?_
  refine TK.cond (b := ((!ok2) || f1.Gone)) rfl (fun hc => ?_) (fun hc => ?_)
  · have hX := ite_t hc hX
    refine TK.seq_k fun K7 hK7 => ?_
    refine TK.reg ?_
    refine TL.p (C := cx) (gc := true) (p_bld (l := [Enc.v ((Str.mk []) : Str), Enc.v ((0 : Int) : Int), Enc.v ((0 : Int) : Int), Enc.v ((0 : Int) : Int), Enc.v ((0 : Int) : Int), Enc.v (false : Bool), .nils]) ty36 rfl all36 rfl (fun _ => trivial)) rfl rfl (TL.wk (v' := Enc.v ((File_api.mk (Str.mk []) (0 : Int) (0 : Int) (0 : Int) (0 : Int) false ([] : (List Part_api))) : File_api)) (Wk_agg ⟨Wk.refl _, Wk.refl _, Wk.refl _, Wk.refl _, Wk.refl _, Wk.refl _, Wk_nil, trivial⟩) ?_)
    refine TL.stV (C := cx) (lu := Enc.cl ((File_api.mk (Str.mk []) (0 : Int) (0 : Int) (0 : Int) (0 : Int) false ([] : (List Part_api))) : File_api)) nd ty36 rfl (j := 0) rfl rfl rfl (Cells_v ((File_api.mk (Str.mk []) (0 : Int) (0 : Int) (0 : Int) (0 : Int) false ([] : (List Part_api))) : File_api)) rfl rfl [Enc.v ((File_api.mk (Str.mk []) (0 : Int) (0 : Int) (0 : Int) (0 : Int) false ([] : (List Part_api))).Path : Str), Enc.v ((File_api.mk (Str.mk []) (0 : Int) (0 : Int) (0 : Int) (0 : Int) false ([] : (List Part_api))).Version : Int), Enc.v ((File_api.mk (Str.mk []) (0 : Int) (0 : Int) (0 : Int) (0 : Int) false ([] : (List Part_api))).Size : Int), Enc.v ((File_api.mk (Str.mk []) (0 : Int) (0 : Int) (0 : Int) (0 : Int) false ([] : (List Part_api))).Sum : Int), Enc.v ((File_api.mk (Str.mk []) (0 : Int) (0 : Int) (0 : Int) (0 : Int) false ([] : (List Part_api))).Serial : Int), Enc.v ((File_api.mk (Str.mk []) (0 : Int) (0 : Int) (0 : Int) (0 : Int) false ([] : (List Part_api))).Gone : Bool), Enc.v ((File_api.mk (Str.mk []) (0 : Int) (0 : Int) (0 : Int) (0 : Int) false ([] : (List Part_api))).Parts : (List Part_api))] rfl fun nd => ?_
    refine TL.p (C := cx) (gc := true) (p_mv rfl) rfl rfl ?_
    refine TL.nil ?_
    refine hK7 _ _ ?_
    refine TK.ret ?_
    try dsimp only [thenQ]
    exact retC [Enc.v ((File_api.mk (Str.mk []) (0 : Int) (0 : Int) (0 : Int) (0 : Int) false ([] : (List Part_api))) : File_api), Enc.v (false : Bool)] ⟨p_ldVa (l' := Enc.cl ((File_api.mk (Str.mk []) (0 : Int) (0 : Int) (0 : Int) (0 : Int) false ([] : (List Part_api))) : File_api)) ty36 rfl rfl nd (j := 0) rfl rfl rfl rfl (Nat.le_of_ble_eq_true rfl), p_mv rfl, trivial⟩ (by obtain rfl := some_in hX; rfl) (tup_val (allVal.mem ⟨v_val _, v_val _, trivial⟩))
  · have hX := ite_f hc hX
    refine TK.skip ?_
    refine hK5 _ _ ?_
    refine TK.seq_k fun K8 hK8 => ?_
    refine TK.reg ?_
    refine TL.p (C := cx) (gc := true) (p_ldRa (l' := Enc.cl (f1 : File_api)) ty36 rfl rfl rfl rfl rfl (Nat.le_of_ble_eq_true rfl)) rfl rfl ?_
    obtain ⟨r9, hr9, hX⟩ := bind_some hX
    refine TL.cvX rfl rfl rfl (fun _ => ⟨rfl, ⟨rfl, trivial⟩⟩) (fun e => ok_listing_Clone f1 _ hr9) ?_
    refine TL.stV (C := cx) (lu := Enc.cl (r9 : File_api)) nd ty36 rfl (j := 0) rfl rfl rfl (Cells_v (r9 : File_api)) rfl rfl [Enc.v (r9.Path : Str), Enc.v (r9.Version : Int), Enc.v (r9.Size : Int), Enc.v (r9.Sum : Int), Enc.v (r9.Serial : Int), Enc.v (r9.Gone : Bool), Enc.v (r9.Parts : (List Part_api))] rfl fun nd => ?_
    refine TL.p (C := cx) (gc := true) (p_mv rfl) rfl rfl ?_
    refine TL.nil ?_
    refine hK8 _ _ ?_
    refine TK.ret ?_
    try dsimp only [thenQ]
    exact retC [Enc.v (r9 : File_api), Enc.v (true : Bool)] ⟨p_ldVa (l' := Enc.cl (r9 : File_api)) ty36 rfl rfl nd (j := 0) rfl rfl rfl rfl (Nat.le_of_ble_eq_true rfl), p_mv rfl, trivial⟩ (by obtain rfl := some_in hX; rfl) (tup_val (allVal.mem ⟨v_val _, v_val _, trivial⟩))

/-- cartridge/listing.Newest -/
theorem bc18 : BodyC cx 18 14 [.c 4 36, .t 5] k18 := ⟨Enters.of Try.func18 (by kernel_rfl) (by kernel_rfl), _, _, Try.func18, rfl, by kernel_rfl, rfl, rfl⟩
theorem ok_listing_Newest (l1 : (List File_api)) (path2 : Str) (r : (File_api × Bool)) (hX : X.listing_Newest l1 path2 = some r) : Fun Try.prog 18 [Enc.v (l1 : (List File_api)), Enc.v (path2 : Str)] (· = .tup 2 (ofL [Enc.v r.1, Enc.v r.2])) := by
  refine Fun.ofC (C := cx) bc18 (Nat.le_of_ble_eq_true rfl) (allVal.mem ⟨(by exact (v_val _)), (by exact (v_val _)), trivial⟩) ?_
  unfold k18
  have nd : Nd [] := Nd_nil
  unfold X.listing_Newest at hX
  refine TK.seq_k fun K3 hK3 => ?_
  refine TK.reg ?_
  refine TL.alO (C := cx) (l := [Enc.v ((Str.mk []) : Str), Enc.v ((0 : Int) : Int), Enc.v ((0 : Int) : Int), Enc.v ((0 : Int) : Int), Enc.v ((0 : Int) : Int), Enc.v (false : Bool), .nils]) nd ty36 ti36_z rfl rfl fun b4 nd => ?_
  refine TL.p (C := cx) (gc := true) (p_mv rfl) rfl rfl ?_
  refine TL.nil ?_
  refine hK3 _ _ ?_
  refine TK.cvR nd (j := 0) rfl (l' := [Enc.v ((Str.mk []) : Str), Enc.v ((0 : Int) : Int), Enc.v ((0 : Int) : Int), Enc.v ((0 : Int) : Int), Enc.v ((0 : Int) : Int), Enc.v (false : Bool), Enc.v (([] : (List Part_api)) : (List Part_api))]) ⟨Wk.refl _, Wk.refl _, Wk.refl _, Wk.refl _, Wk.refl _, Wk.refl _, Wk_nil, trivial⟩ fun nd => ?_
  refine TK.seq_k fun K5 hK5 => ?_
  refine TK.reg ?_
  refine TL.p (C := cx) (gc := true) (p_mv rfl) rfl rfl ?_
  refine TL.p (C := cx) (gc := true) (p_mv rfl) rfl rfl ?_
  obtain ⟨r6, hr6, hX⟩ := bind_some hX
  refine TL.cvX rfl rfl rfl (fun _ => ⟨rfl, ⟨rfl, ⟨rfl, trivial⟩⟩⟩) (fun e => ok_listing_newest l1 path2 _ hr6) ?_
  refine TL.p (C := cx) (gc := true) (p_ex rfl rfl (by decide)) rfl rfl ?_
  refine TL.p (C := cx) (gc := true) (p_ex rfl rfl (by decide)) rfl rfl ?_
  obtain ⟨r7, hr7, hX⟩ := bind_some hX
  refine TL.cvX rfl rfl rfl (fun _ => ⟨rfl, ⟨rfl, ⟨rfl, trivial⟩⟩⟩) (fun e => ok_listing_there r6.1 r6.2 _ hr7) ?_
  refine TL.p (C := cx) (gc := true) (p_ex rfl rfl (by decide)) rfl rfl ?_
  refine TL.p (C := cx) (gc := true) (p_ex rfl rfl (by decide)) rfl rfl ?_
  refine TL.stV (C := cx) (lu := Enc.cl (r7.1 : File_api)) nd ty36 rfl (j := 0) rfl rfl rfl (Cells_v (r7.1 : File_api)) rfl rfl [Enc.v (r7.1.Path : Str), Enc.v (r7.1.Version : Int), Enc.v (r7.1.Size : Int), Enc.v (r7.1.Sum : Int), Enc.v (r7.1.Serial : Int), Enc.v (r7.1.Gone : Bool), Enc.v (r7.1.Parts : (List Part_api))] rfl fun nd => ?_
  refine TL.p (C := cx) (gc := true) (p_mv rfl) rfl rfl ?_
  refine TL.nil ?_
  refine hK5 _ _ ?_
  refine TK.ret ?_
  try dsimp only [thenQ]
  exact retC [Enc.v (r7.1 : File_api), Enc.v (r7.2 : Bool)] ⟨p_ldVa (l' := Enc.cl (r7.1 : File_api)) ty36 rfl rfl nd (j := 0) rfl rfl rfl rfl (Nat.le_of_ble_eq_true rfl), p_mv rfl, trivial⟩ (by obtain rfl := some_in hX; rfl) (tup_val (allVal.mem ⟨v_val _, v_val _, trivial⟩))

/-- cartridge/listing.Next -/
theorem ok_listing_Next (l1 : (List File_api)) (path2 : Str) (r : Int) (hX : X.listing_Next l1 path2 = some r) : Fun Try.prog 23 [Enc.v (l1 : (List File_api)), Enc.v (path2 : Str)] (· = Enc.v (r : Int)) := by
  refine Fun.of b23 (Nat.le_of_ble_eq_true rfl) (allVal.mem ⟨(by exact (v_val _)), (by exact (v_val _)), trivial⟩) ?_
  unfold k23
  have nd : Nd [] := Nd_nil
  unfold X.listing_Next at hX
  refine TK.seq_k fun K3 hK3 => ?_
  refine TK.reg ?_
  refine TL.p (C := cx) (gc := true) (p_mv rfl) rfl rfl ?_
  refine TL.nil ?_
  refine hK3 _ _ ?_
  refine TK.seq_k fun K4 hK4 => ?_
  refine TK.reg ?_
  refine TL.p (C := cx) (gc := true) (p_mv rfl) rfl rfl ?_
  refine TL.p (C := cx) (gc := true) (p_mv rfl) rfl rfl ?_
  obtain ⟨r5, hr5, hX⟩ := bind_some hX
  refine TL.cvX rfl rfl rfl (fun _ => ⟨rfl, ⟨rfl, ⟨rfl, trivial⟩⟩⟩) (fun e => ok_listing_newest l1 path2 _ hr5) ?_
  refine TL.p (C := cx) (gc := true) (p_mv rfl) rfl rfl ?_
  refine TL.p (C := cx) (gc := true) (p_ex rfl rfl (by decide)) rfl rfl ?_
  refine TL.p (C := cx) (gc := true) (p_ex rfl rfl (by decide)) rfl rfl ?_
  refine TL.alO (C := cx) (l := [Enc.v ((Str.mk []) : Str), Enc.v ((0 : Int) : Int), Enc.v ((0 : Int) : Int), Enc.v ((0 : Int) : Int), Enc.v ((0 : Int) : Int), Enc.v (false : Bool), .nils]) nd ty36 ti36_z rfl rfl fun b6 nd => ?_
  refine TL.stV (C := cx) (lu := Enc.cl (r5.1 : File_api)) nd ty36 rfl (j := 0) rfl rfl rfl (Cells_v (r5.1 : File_api)) rfl rfl [Enc.v (r5.1.Path : Str), Enc.v (r5.1.Version : Int), Enc.v (r5.1.Size : Int), Enc.v (r5.1.Sum : Int), Enc.v (r5.1.Serial : Int), Enc.v (r5.1.Gone : Bool), Enc.v (r5.1.Parts : (List Part_api))] rfl fun nd => ?_
  refine TL.p (C := cx) (gc := true) (p_mv rfl) rfl rfl ?_
  refine TL.nil ?_
  refine hK4 _ _ ?_
  refine TK.seq_k fun K7 hK7 => ?_
  refine TK.seq_k fun K8 hK8 => ?_
  refine TK.reg ?_
  refine TL.p (C := cx) (gc := true) (p_mv rfl) rfl rfl ?_
  refine TL.p (C := cx) (gc := true) (p_not rfl) rfl rfl ?_
  refine TL.nil ?_
  refine hK8 _ _ ?_
  refine TK.cond (b := (!r5.2)) rfl (fun hc => ?_) (fun hc => ?_)
  · have hX := ite_t hc hX
    refine TK.seq_k fun K9 hK9 => ?_
    refine TK.reg ?_
    refine TL.p (C := cx) (gc := true) (p_mv rfl) rfl rfl ?_
    refine TL.nil ?_
    refine hK9 _ _ ?_
    refine TK.ret ?_
    try dsimp only [thenQ]
    exact ret1 (v := Enc.v ((1 : Int) : Int)) rfl (by obtain rfl := some_in hX; rfl) (v_val _)
  · have hX := ite_f hc hX
    refine TK.skip ?_
    refine hK7 _ _ ?_
    refine TK.seq_k fun K10 hK10 => ?_
    refine TK.reg ?_
    refine TL.p (C := cx) (gc := true) (p_faV fs36_1 (by decide) rfl nd (j := 0) rfl rfl) rfl rfl ?_
    refine TL.p (C := cx) (gc := true) (p_ldV (v := Enc.v (r5.1.Version : Int)) ty3 rfl rfl nd (j := 0) rfl rfl rfl rfl rfl) rfl rfl ?_
    refine TL.p (C := cx) (gc := true) (p_add rfl rfl) rfl rfl ?_
    refine TL.p (C := cx) (gc := true) (p_mv rfl) rfl rfl ?_
    refine TL.nil ?_
    refine hK10 _ _ ?_
    refine TK.ret ?_
    try dsimp only [thenQ]
    exact ret1 (v := Enc.v ((wr (r5.1.Version + (1 : Int))) : Int)) rfl (by obtain rfl := some_in hX; rfl) (v_val _)

/-- cartridge/listing.Serial -/
theorem ok_listing_Serial (l1 : (List File_api)) (r : Int) (hX : X.listing_Serial l1 = some r) : Fun Try.prog 25 [Enc.v (l1 : (List File_api))] (· = Enc.v (r : Int)) := by
  refine Fun.of b25 (Nat.le_of_ble_eq_true rfl) (allVal.mem ⟨(by exact (v_val _)), trivial⟩) ?_
  unfold k25
  have nd : Nd [] := Nd_nil
  unfold X.listing_Serial at hX
  refine TK.seq_k fun K2 hK2 => ?_
  refine TK.reg ?_
  refine TL.p (C := cx) (gc := true) (p_mv rfl) rfl rfl ?_
  refine TL.nil ?_
  refine hK2 _ _ ?_
  refine TK.seq_k fun K3 hK3 => ?_
  refine TK.seq_k fun K4 hK4 => ?_
  refine TK.reg ?_
  refine TL.p (C := cx) (gc := true) (p_mv rfl) rfl rfl ?_
  refine TL.p (C := cx) (gc := true) (p_lenL (xs := l1) kd31 rfl) rfl rfl ?_
  refine TL.p (C := cx) (gc := true) (p_eql rfl rfl) rfl rfl ?_
  refine TL.nil ?_
  refine hK4 _ _ ?_
  refine TK.cond (b := ((l1.length : Int) == (0 : Int))) rfl (fun hc => ?_) (fun hc => ?_)
  · have hX := ite_t hc hX
    refine TK.seq_k fun K5 hK5 => ?_
    refine TK.reg ?_
    refine TL.p (C := cx) (gc := true) (p_mv rfl) rfl rfl ?_
    refine TL.nil ?_
    refine hK5 _ _ ?_
    refine TK.ret ?_
    try dsimp only [thenQ]
    exact ret1 (v := Enc.v ((1 : Int) : Int)) rfl (by obtain rfl := some_in hX; rfl) (v_val _)
  · have hX := ite_f hc hX
    refine TK.skip ?_
    refine hK3 _ _ ?_
    refine TK.seq_k fun K6 hK6 => ?_
    refine TK.reg ?_
    refine TL.p (C := cx) (gc := true) (p_mv rfl) rfl rfl ?_
    obtain ⟨e7, he7, hX⟩ := bind_some hX
    refine TL.p (C := cx) (gc := true) (p_iaL (xs := l1) kd31 ty36 rfl rfl rfl (fun _ => he7)) rfl rfl ?_
    refine TL.p (C := cx) (gc := true) (p_faE fs36_4 (by decide) rfl) rfl rfl ?_
    refine TL.p (C := cx) (gc := true) (p_ldE (xs := l1) (a := e7) (e7.Serial : Int) ty3 rfl rfl (fun _ => he7) rfl rfl rfl) rfl rfl ?_
    refine TL.p (C := cx) (gc := true) (p_mv rfl) rfl rfl ?_
    refine TL.nil ?_
    refine hK6 _ _ ?_
    refine TK.seq_k fun K8 hK8 => ?_
    refine TK.seq_k fun K9 hK9 => ?_
    refine TK.reg ?_
    refine TL.p (C := cx) (gc := true) (p_mv rfl) rfl rfl ?_
    refine TL.p (C := cx) (gc := true) (p_lenL (xs := l1) kd31 rfl) rfl rfl ?_
    refine TL.p (C := cx) (gc := true) (p_mv rfl) rfl rfl ?_
    refine TL.nil ?_
    refine hK9 _ _ ?_
    refine TK.block ?_
    obtain ⟨o10, hO10, hA10⟩ := bind_some hX
    have E10 : ∀ (n13 : Int) (env : Env) (h : Hp), (∃ _u : Unit, keepE [3] env = [(3, true, Enc.v (n13 : Int))] ∧ Nd [] ∧ HSub [] h) → X.listing_Serial_e10 n13 = some r → K8 env h := by
      intro n13 env h hE hX
      obtain ⟨_u, henv, nd, hs⟩ := hE
      unfold X.listing_Serial_e10 at hX
      refine hK8 _ _ (TK.keep [3] ?_)
      rw [henv]
      refine TK.subH hs ?_
      refine TK.seq_k fun K14 hK14 => ?_
      refine TK.reg ?_
      refine TL.p (C := cx) (gc := true) (p_mv rfl) rfl rfl ?_
      refine TL.p (C := cx) (gc := true) (p_add rfl rfl) rfl rfl ?_
      refine TL.p (C := cx) (gc := true) (p_mv rfl) rfl rfl ?_
      refine TL.nil ?_
      refine hK14 _ _ ?_
      refine TK.ret ?_
      try dsimp only [thenQ]
      exact ret1 (v := Enc.v ((wr (n13 + (1 : Int))) : Int)) rfl (by obtain rfl := some_in hX; rfl) (v_val _)
    refine TK.iter [3, 13, 14, 15] (fun s env h => match s with | (n11, x12) => ∃ _u : Unit, env = [(3, true, Enc.v (n11 : Int)), (13, true, Enc.v (l1 : (List File_api))), (14, true, Enc.v ((l1.length : Int) : Int)), (15, true, Enc.v (x12 : Int))] ∧ Nd [] ∧ HSub [] h) hO10 ⟨(), rfl, Nd_nil, HSub.refl _⟩ ?_
    rintro ⟨n11, x12⟩ env h x10x ⟨_u, rfl, nd, hs⟩ hX hR10
    refine TK.subH hs ?_
    unfold X.listing_Serial_s10 at hX
    try dsimp only at hX
    refine TK.seq_k fun K15 hK15 => ?_
    refine TK.reg ?_
    refine TL.p (C := cx) (gc := true) (p_lss rfl rfl) rfl rfl ?_
    refine TL.nil ?_
    refine hK15 _ _ ?_
    refine TK.seq_k fun K16 hK16 => ?_
    refine TK.cond (b := (decide (x12 < (l1.length : Int)))) rfl (fun hc => ?_) (fun hc => ?_)
    · have hX := ite_t hc hX
      refine TK.skip ?_
      refine hK16 _ _ ?_
      refine TK.seq_k fun K17 hK17 => ?_
      refine TK.block ?_
      refine TK.seq_k fun K18 hK18 => ?_
      refine TK.reg ?_
      obtain ⟨e19, he19, hX⟩ := bind_some hX
      refine TL.p (C := cx) (gc := true) (p_iaL (xs := l1) kd31 ty36 rfl rfl rfl (fun _ => he19)) rfl rfl ?_
      refine TL.p (C := cx) (gc := true) (p_ldE (xs := l1) (a := e19) (e19 : File_api) ty36 rfl rfl (fun _ => he19) rfl rfl rfl) rfl rfl ?_
      refine TL.alO (C := cx) (l := [Enc.v ((Str.mk []) : Str), Enc.v ((0 : Int) : Int), Enc.v ((0 : Int) : Int), Enc.v ((0 : Int) : Int), Enc.v ((0 : Int) : Int), Enc.v (false : Bool), .nils]) nd ty36 ti36_z rfl rfl fun b20 nd => ?_
      refine TL.stV (C := cx) (lu := Enc.cl (e19 : File_api)) nd ty36 rfl (j := 0) rfl rfl rfl (Cells_v (e19 : File_api)) rfl rfl [Enc.v (e19.Path : Str), Enc.v (e19.Version : Int), Enc.v (e19.Size : Int), Enc.v (e19.Sum : Int), Enc.v (e19.Serial : Int), Enc.v (e19.Gone : Bool), Enc.v (e19.Parts : (List Part_api))] rfl fun nd => ?_
      refine TL.nil ?_
      refine hK18 _ _ ?_
      refine TK.reg ?_
      refine TL.p (C := cx) (gc := true) (p_mv rfl) rfl rfl ?_
      refine TL.p (C := cx) (gc := true) (p_faV fs36_4 (by decide) rfl nd (j := 0) rfl rfl) rfl rfl ?_
      refine TL.p (C := cx) (gc := true) (p_ldV (v := Enc.v (e19.Serial : Int)) ty3 rfl rfl nd (j := 0) rfl rfl rfl rfl rfl) rfl rfl ?_
      refine TL.p (C := cx) (gc := true) (p_max rfl rfl) rfl rfl ?_
      refine TL.p (C := cx) (gc := true) (p_mv rfl) rfl rfl ?_
      refine TL.nil ?_
      refine hK17 _ _ ?_
      refine TK.reg ?_
      refine TL.p (C := cx) (gc := true) (p_add rfl rfl) rfl rfl ?_
      refine TL.p (C := cx) (gc := true) (p_mv rfl) rfl rfl ?_
      refine TL.nil ?_
      exact ⟨_, (some_in hX).symm, (), rfl, (Nd.pick nd (is := []) (by decide)), (HSub.pick nd (is := []) (by decide))⟩
    · have hX := ite_f hc hX
      refine TK.exit ?_
      obtain rfl := hR10 _ (some_in hX).symm
      exact E10 n11 _ _ ⟨(), rfl, Nd_nil, HSub.refl _⟩ hA10

/-- slices.Sort[[]string,string] -/
theorem len_slices_Sort_Lstring_string {l1 r : List Str} (hX : X.slices_Sort_Lstring_string l1 = some r) : r.length = l1.length := by
  unfold X.slices_Sort_Lstring_string at hX
  split at hX
  · injection hX with hX
    subst hX
    exact sortS_len _
  · cases hX
theorem ok_slices_Sort_Lstring_string (l1 : List Str) (b1 : Nat) (nd : Nd [(b1, RL (α := Str) 9 l1)]) (r : List Str) (hX : X.slices_Sort_Lstring_string l1 = some r) : TCX Try.prog 46 [OL (α := Str) b1 l1] [(b1, RL (α := Str) 9 l1)] (fun rv h' => rv = .tup 0 (ofL []) ∧ h' = [(b1, RL (α := Str) 9 r)]) := by
  unfold X.slices_Sort_Lstring_string at hX
  split at hX
  · rename_i hlt
    injection hX with hX
    subst hX
    exact tcx_sort (Enters.of Try.func46 (by kernel_rfl) (by kernel_rfl)) (fun blk off cap ss w h1 h2 h3 => Go.Proofs.Try.slices_Sort_string blk off cap ss w h1 h2 h3) (fun p cap w => Go.Proofs.Try.slices_Sort_string_none p cap w) hlt
  · cases hX

/-- slices.Compact[[]string,string] -/
theorem ok_slices_Compact_Lstring_string (l1 : List Str) (b1 : Nat) (nd : Nd [(b1, RL (α := Str) 9 l1)]) (r : List Str) (hX : X.slices_Compact_Lstring_string l1 = some r) : TCX Try.prog 47 [OL (α := Str) b1 l1] [(b1, RL (α := Str) 9 l1)] (fun rv h' => ∃ b2, rv = OL (α := Str) b2 r ∧ h' = [(b2, RL (α := Str) 9 r)]) := by
  unfold X.slices_Compact_Lstring_string at hX
  split at hX
  · rename_i hlt
    injection hX with hX
    subst hX
    exact tcx_compact (Enters.of Try.func47 (by kernel_rfl) (by kernel_rfl)) (fun blk off cap ss w h1 h2 h3 => Go.Proofs.Try.slices_Compact_string blk off cap ss w h1 h2 h3) (fun p cap w => Go.Proofs.Try.slices_Compact_string_empty p cap w) compact_le hlt
  · cases hX

/-- cartridge/listing.Names -/
theorem ok_listing_Names (l1 : (List File_api)) (r : (List Str)) (hX : X.listing_Names l1 = some r) : Fun Try.prog 17 [Enc.v (l1 : (List File_api))] (· = Enc.v (r : (List Str))) := by
  refine Fun.of b17 (Nat.le_of_ble_eq_true rfl) (allVal.mem ⟨(by exact (v_val _)), trivial⟩) ?_
  unfold k17
  have nd : Nd [] := Nd_nil
  unfold X.listing_Names at hX
  refine TK.seq_k fun K2 hK2 => ?_
  refine TK.reg ?_
  refine TL.p (C := cx) (gc := true) (p_mv rfl) rfl rfl ?_
  refine TL.nil ?_
  refine hK2 _ _ ?_
  refine TK.seq_k fun K3 hK3 => ?_
  refine TK.reg ?_
  refine TL.p (C := cx) (gc := true) (p_mv rfl) rfl rfl ?_
  refine TL.nil ?_
  refine hK3 _ _ ?_
  refine TK.ownL (α := Str) 3 9 nd rfl (.inl rfl) fun b4 nd => ?_
  refine TK.seq_k fun K5 hK5 => ?_
  refine TK.seq_k fun K6 hK6 => ?_
  refine TK.reg ?_
  refine TL.p (C := cx) (gc := true) (p_mv rfl) rfl rfl ?_
  refine TL.p (C := cx) (gc := true) (p_lenL (xs := l1) kd31 rfl) rfl rfl ?_
  refine TL.p (C := cx) (gc := true) (p_mv rfl) rfl rfl ?_
  refine TL.nil ?_
  refine hK6 _ _ ?_
  refine TK.block ?_
  obtain ⟨o7, hO7, hA7⟩ := bind_some hX
  have E7 : ∀ (l12 : List Str) (env : Env) (h : Hp), (∃ b11, keepE [3] env = [(3, true, OL (α := Str) b11 l12)] ∧ Nd [(b11, RL (α := Str) 9 l12)] ∧ HSub [(b11, RL (α := Str) 9 l12)] h) → X.listing_Names_e7 l12 = some r → K5 env h := by
    intro l12 env h hE hX
    obtain ⟨b11, henv, nd, hs⟩ := hE
    unfold X.listing_Names_e7 at hX
    refine hK5 _ _ (TK.keep [3] ?_)
    rw [henv]
    refine TK.subH hs ?_
    refine TK.seq_k fun K13 hK13 => ?_
    refine TK.reg ?_
    refine TL.p (C := cx) (gc := true) (p_mv rfl) rfl rfl ?_
    obtain ⟨r14, hr14, hX⟩ := bind_some hX
    refine TL.tcX [(b11, RL (α := Str) 9 l12)] [] rfl nd (dlt rfl) rfl ⟨rfl, ⟨rfl, trivial⟩⟩ (ok_slices_Sort_Lstring_string l12 b11 (Nd.take nd 1 rfl) _ hr14) ?_
    rintro _ _ hQ nd
    obtain ⟨rfl, rfl⟩ := hQ
    refine TL.cv 3 (OL (α := Str) b11 r14) rfl (Wk_eq (OL_len (by first | exact len_slices_Sort_Lstring_string hr14 | exact (len_slices_Sort_Lstring_string hr14).symm))) ?_
    refine TL.cv 28 (OL (α := Str) b11 r14) rfl (Wk_eq (OL_len (by first | exact len_slices_Sort_Lstring_string hr14 | exact (len_slices_Sort_Lstring_string hr14).symm))) ?_
    refine TL.nil ?_
    refine hK13 _ _ ?_
    refine TK.seq_k fun K15 hK15 => ?_
    refine TK.reg ?_
    refine TL.p (C := cx) (gc := true) (p_mv rfl) rfl rfl ?_
    obtain ⟨r16, hr16, hX⟩ := bind_some hX
    refine TL.tcX [(b11, RL (α := Str) 9 r14)] [] rfl nd (dlt rfl) rfl ⟨rfl, ⟨rfl, trivial⟩⟩ (ok_slices_Compact_Lstring_string r14 b11 (Nd.take nd 1 rfl) _ hr16) ?_
    rintro _ _ hQ nd
    obtain ⟨b17, rfl, rfl⟩ := hQ
    refine TL.p (C := cx) (gc := true) (p_mv rfl) rfl rfl ?_
    refine TL.nil ?_
    refine hK15 _ _ ?_
    refine TK.lay [(2, L r16)] nd (j := 0) rfl ⟨⟨_, rfl, fix_OL nd (j := 0) rfl, rfl⟩, trivial⟩ fun nd => ?_
    refine TK.ret ?_
    try dsimp only [thenQ]
    exact ret1 (v := Enc.v (r16 : (List Str))) rfl (by obtain rfl := some_in hX; rfl) (v_val _)
  refine TK.iter [0, 3, 8, 9, 10] (fun s env h => match s with | (out9, x10) => ∃ b8, env = [(0, true, Enc.v (l1 : (List File_api))), (3, true, OL (α := Str) b8 out9), (8, true, Enc.v (l1 : (List File_api))), (9, true, Enc.v ((l1.length : Int) : Int)), (10, true, Enc.v (x10 : Int))] ∧ Nd [(b8, RL (α := Str) 9 out9)] ∧ HSub [(b8, RL (α := Str) 9 out9)] h) hO7 ⟨b4, rfl, (Nd.pick nd (is := [0]) (by decide)), (HSub.pick nd (is := [0]) (by decide))⟩ ?_
  rintro ⟨out9, x10⟩ env h x7x ⟨b8, rfl, nd, hs⟩ hX hR7
  refine TK.subH hs ?_
  unfold X.listing_Names_s7 at hX
  try dsimp only at hX
  refine TK.seq_k fun K18 hK18 => ?_
  refine TK.reg ?_
  refine TL.p (C := cx) (gc := true) (p_lss rfl rfl) rfl rfl ?_
  refine TL.nil ?_
  refine hK18 _ _ ?_
  refine TK.seq_k fun K19 hK19 => ?_
  refine TK.cond (b := (decide (x10 < (l1.length : Int)))) rfl (fun hc => ?_) (fun hc => ?_)
  · have hX := ite_t hc hX
    refine TK.skip ?_
    refine hK19 _ _ ?_
    refine TK.seq_k fun K20 hK20 => ?_
    refine TK.block ?_
    refine TK.seq_k fun K21 hK21 => ?_
    refine TK.reg ?_
    obtain ⟨e22, he22, hX⟩ := bind_some hX
    refine TL.p (C := cx) (gc := true) (p_iaL (xs := l1) kd31 ty36 rfl rfl rfl (fun _ => he22)) rfl rfl ?_
    refine TL.p (C := cx) (gc := true) (p_ldE (xs := l1) (a := e22) (e22 : File_api) ty36 rfl rfl (fun _ => he22) rfl rfl rfl) rfl rfl ?_
    refine TL.alO (C := cx) (l := [Enc.v ((Str.mk []) : Str), Enc.v ((0 : Int) : Int), Enc.v ((0 : Int) : Int), Enc.v ((0 : Int) : Int), Enc.v ((0 : Int) : Int), Enc.v (false : Bool), .nils]) nd ty36 ti36_z rfl rfl fun b23 nd => ?_
    refine TL.stV (C := cx) (lu := Enc.cl (e22 : File_api)) nd ty36 rfl (j := 0) rfl rfl rfl (Cells_v (e22 : File_api)) rfl rfl [Enc.v (e22.Path : Str), Enc.v (e22.Version : Int), Enc.v (e22.Size : Int), Enc.v (e22.Sum : Int), Enc.v (e22.Serial : Int), Enc.v (e22.Gone : Bool), Enc.v (e22.Parts : (List Part_api))] rfl fun nd => ?_
    refine TL.nil ?_
    refine hK21 _ _ ?_
    refine TK.seq_k fun K24 hK24 => ?_
    refine TK.reg ?_
    refine TL.p (C := cx) (gc := true) (p_mv rfl) rfl rfl ?_
    refine TL.p (C := cx) (gc := true) (p_faV fs36_0 (by decide) rfl nd (j := 0) rfl rfl) rfl rfl ?_
    refine TL.p (C := cx) (gc := true) (p_ldV (v := Enc.v (e22.Path : Str)) ty9 rfl rfl nd (j := 0) rfl rfl rfl rfl rfl) rfl rfl ?_
    obtain ⟨r25, hr25, hX⟩ := bind_some hX
    refine TL.cvX rfl rfl rfl (fun _ => ⟨rfl, ⟨rfl, ⟨rfl, trivial⟩⟩⟩) (fun e => ok_listing_Newest l1 e22.Path _ hr25) ?_
    refine TL.p (C := cx) (gc := true) (p_mv rfl) rfl rfl ?_
    refine TL.p (C := cx) (gc := true) (p_ex rfl rfl (by decide)) rfl rfl ?_
    refine TL.p (C := cx) (gc := true) (p_ex rfl rfl (by decide)) rfl rfl ?_
    refine TL.alO (C := cx) (l := [Enc.v ((Str.mk []) : Str), Enc.v ((0 : Int) : Int), Enc.v ((0 : Int) : Int), Enc.v ((0 : Int) : Int), Enc.v ((0 : Int) : Int), Enc.v (false : Bool), .nils]) nd ty36 ti36_z rfl rfl fun b26 nd => ?_
    refine TL.stV (C := cx) (lu := Enc.cl (r25.1 : File_api)) nd ty36 rfl (j := 0) rfl rfl rfl (Cells_v (r25.1 : File_api)) rfl rfl [Enc.v (r25.1.Path : Str), Enc.v (r25.1.Version : Int), Enc.v (r25.1.Size : Int), Enc.v (r25.1.Sum : Int), Enc.v (r25.1.Serial : Int), Enc.v (r25.1.Gone : Bool), Enc.v (r25.1.Parts : (List Part_api))] rfl fun nd => ?_
    refine TL.p (C := cx) (gc := true) (p_mv rfl) rfl rfl ?_
    refine TL.nil ?_
    refine hK24 _ _ ?_
    refine TK.seq_k fun K27 hK27 => ?_
    refine TK.reg ?_
    refine TL.p (C := cx) (gc := true) (p_mv rfl) rfl rfl ?_
    refine TL.nil ?_
    refine hK27 _ _ ?_
    refine TK.cond (b := r25.2) rfl (fun hc => ?_) (fun hc => ?_)
    · have hX := ite_t hc hX
      refine TK.reg ?_
      refine TL.p (C := cx) (gc := true) (p_mv rfl) rfl rfl ?_
      refine TL.p (C := cx) (gc := true) (p_faV fs36_0 (by decide) rfl nd (j := 1) rfl rfl) rfl rfl ?_
      refine TL.p (C := cx) (gc := true) (p_ldV (v := Enc.v (e22.Path : Str)) ty9 rfl rfl nd (j := 1) rfl rfl rfl rfl rfl) rfl rfl ?_
      refine TL.lit (C := cx) ([e22.Path] : List Str) kd32 ty9 rfl ⟨⟨rfl, rfl⟩, trivial⟩ rfl rfl rfl ?_
      obtain ⟨u28, hu28, hX⟩ := bind_some hX
      refine TL.appO (C := cx) nd kd32 bo32 ty9 rfl rfl (j := 2) rfl rfl (Src_L _) (by decide) (need_t hu28) rfl fun nd => ?_
      refine TL.p (C := cx) (gc := true) (p_mv rfl) rfl rfl ?_
      refine TL.nil ?_
      refine hK20 _ _ ?_
      refine TK.reg ?_
      refine TL.p (C := cx) (gc := true) (p_add rfl rfl) rfl rfl ?_
      refine TL.p (C := cx) (gc := true) (p_mv rfl) rfl rfl ?_
      refine TL.nil ?_
      exact ⟨_, (some_in hX).symm, b8, rfl, (Nd.pick nd (is := [2]) (by decide)), (HSub.pick nd (is := [2]) (by decide))⟩
    · have hX := ite_f hc hX
      refine TK.skip ?_
      refine hK20 _ _ ?_
      refine TK.reg ?_
      refine TL.p (C := cx) (gc := true) (p_add rfl rfl) rfl rfl ?_
      refine TL.p (C := cx) (gc := true) (p_mv rfl) rfl rfl ?_
      refine TL.nil ?_
      exact ⟨_, (some_in hX).symm, b8, rfl, (Nd.pick nd (is := [2]) (by decide)), (HSub.pick nd (is := [2]) (by decide))⟩
  · have hX := ite_f hc hX
    refine TK.exit ?_
    obtain rfl := hR7 _ (some_in hX).symm
    exact E7 out9 _ _ ⟨b8, rfl, (Nd.pick nd (is := [0]) (by decide)), (HSub.pick nd (is := [0]) (by decide))⟩ hA7

/-- cartridge/cartridgelaw18.alive -/
theorem ok_cartridgelaw18_alive  (r : Bool) (hX : X.cartridgelaw18_alive = some r) : Fun Try.prog 16 [] (· = Enc.v (r : Bool)) := by
  refine Fun.of b16 (Nat.le_of_ble_eq_true rfl) (fun x hx => by cases hx) ?_
  unfold k16
  have nd : Nd [] := Nd_nil
  unfold X.cartridgelaw18_alive at hX
  refine TK.seq_k fun K1 hK1 => ?_
  refine TK.reg ?_
  refine TL.p (C := cx) (gc := true) (p_mv rfl) rfl rfl ?_
  refine TL.nil ?_
  refine hK1 _ _ ?_
  refine TK.seq_k fun K2 hK2 => ?_
  refine TK.reg ?_
  refine TL.p (C := cx) (gc := true) (p_bld (l := [Enc.v ((Str.mk [97]) : Str), Enc.v ((3 : Int) : Int), Enc.v ((0 : Int) : Int), Enc.v ((0 : Int) : Int), Enc.v ((0 : Int) : Int), Enc.v (false : Bool), .nils]) ty36 rfl all36 rfl (fun _ => ⟨⟨rfl, trivial, rfl⟩, ⟨rfl, trivial, rfl⟩, trivial⟩)) rfl rfl (TL.wk (v' := Enc.v ((File_api.mk (Str.mk [97]) (3 : Int) (0 : Int) (0 : Int) (0 : Int) false ([] : (List Part_api))) : File_api)) (Wk_agg ⟨Wk.refl _, Wk.refl _, Wk.refl _, Wk.refl _, Wk.refl _, Wk.refl _, Wk_nil, trivial⟩) ?_)
  refine TL.lit (C := cx) ([(File_api.mk (Str.mk [97]) (3 : Int) (0 : Int) (0 : Int) (0 : Int) false ([] : (List Part_api)))] : List File_api) kd31 ty36 rfl ⟨⟨rfl, rfl⟩, trivial⟩ rfl rfl rfl ?_
  obtain ⟨r3, hr3, hX⟩ := bind_some hX
  refine TL.cvX rfl rfl rfl (fun _ => ⟨rfl, ⟨rfl, ⟨rfl, trivial⟩⟩⟩) (fun e => ok_listing_Newest ([(File_api.mk (Str.mk [97]) (3 : Int) (0 : Int) (0 : Int) (0 : Int) false ([] : (List Part_api)))] : List File_api) (Str.mk [97]) _ hr3) ?_
  refine TL.p (C := cx) (gc := true) (p_mv rfl) rfl rfl ?_
  refine TL.p (C := cx) (gc := true) (p_ex rfl rfl (by decide)) rfl rfl ?_
  refine TL.p (C := cx) (gc := true) (p_ex rfl rfl (by decide)) rfl rfl ?_
  refine TL.alO (C := cx) (l := [Enc.v ((Str.mk []) : Str), Enc.v ((0 : Int) : Int), Enc.v ((0 : Int) : Int), Enc.v ((0 : Int) : Int), Enc.v ((0 : Int) : Int), Enc.v (false : Bool), .nils]) nd ty36 ti36_z rfl rfl fun b4 nd => ?_
  refine TL.stV (C := cx) (lu := Enc.cl (r3.1 : File_api)) nd ty36 rfl (j := 0) rfl rfl rfl (Cells_v (r3.1 : File_api)) rfl rfl [Enc.v (r3.1.Path : Str), Enc.v (r3.1.Version : Int), Enc.v (r3.1.Size : Int), Enc.v (r3.1.Sum : Int), Enc.v (r3.1.Serial : Int), Enc.v (r3.1.Gone : Bool), Enc.v (r3.1.Parts : (List Part_api))] rfl fun nd => ?_
  refine TL.p (C := cx) (gc := true) (p_mv rfl) rfl rfl ?_
  refine TL.nil ?_
  refine hK2 _ _ ?_
  refine TK.seq_k fun K5 hK5 => ?_
  refine TK.reg ?_
  obtain ⟨r6, hr6, hX⟩ := bind_some hX
  refine TL.cvX rfl rfl rfl (fun _ => ⟨rfl, ⟨rfl, ⟨rfl, trivial⟩⟩⟩) (fun e => (Fun.wk (args' := [L ([] : List File_api), Enc.v ((Str.mk [97]) : Str)]) ⟨Wk_nil, Wk.refl _, trivial⟩ (ok_listing_Next ([] : List File_api) (Str.mk [97]) _ hr6))) ?_
  refine TL.p (C := cx) (gc := true) (p_eql rfl rfl) rfl rfl ?_
  refine TL.p (C := cx) (gc := true) (p_mv rfl) rfl rfl ?_
  obtain ⟨r7, hr7, hX⟩ := bind_some hX
  refine TL.cvX (gcT1 rfl) rfl rfl (fun e => ⟨rfl, ⟨rfl, trivial⟩⟩) (fun e => (Fun.wk (args' := [L ([] : List File_api)]) ⟨Wk_nil, trivial⟩ (ok_listing_Serial ([] : List File_api) _ (optG_t hr7 e)))) ?_
  refine TL.p (C := cx) (gc := ((r6 == (1 : Int)))) (p_eql rfl rfl (hg := fun e => ⟨e, rfl⟩)) (gcT1 rfl) rfl ?_
  refine TL.p (C := cx) (gc := true) (p_and rfl rfl (fun e => ⟨rfl, fun h => h⟩)) rfl rfl ?_
  refine TL.p (C := cx) (gc := true) (p_mv rfl) rfl rfl ?_
  refine TL.p (C := cx) (gc := (((r6 == (1 : Int)) && (r7 == (1 : Int))))) (p_mv rfl (hg := fun e => rfl)) (gcT1 rfl) rfl ?_
  refine TL.p (C := cx) (gc := true) (p_and rfl rfl (fun e => ⟨rfl, fun h => h⟩)) rfl rfl ?_
  refine TL.p (C := cx) (gc := true) (p_mv rfl) rfl rfl ?_
  refine TL.p (C := cx) (gc := ((((r6 == (1 : Int)) && (r7 == (1 : Int))) && r3.2))) (p_faV fs36_1 (by decide) rfl nd (j := 0) rfl rfl (hg := fun e => rfl)) (gcT1 rfl) rfl ?_
  refine TL.p (C := cx) (gc := ((((r6 == (1 : Int)) && (r7 == (1 : Int))) && r3.2))) (p_ldV (v := Enc.v (r3.1.Version : Int)) ty3 rfl rfl nd (j := 0) rfl rfl rfl rfl rfl (hg := fun e => e)) (gcT1 rfl) rfl ?_
  refine TL.p (C := cx) (gc := ((((r6 == (1 : Int)) && (r7 == (1 : Int))) && r3.2))) (p_eql rfl rfl (hg := fun e => ⟨e, rfl⟩)) (gcT1 rfl) rfl ?_
  refine TL.p (C := cx) (gc := true) (p_and rfl rfl (fun e => ⟨rfl, fun h => h⟩)) rfl rfl ?_
  refine TL.p (C := cx) (gc := true) (p_mv rfl) rfl rfl ?_
  obtain ⟨r8, hr8, hX⟩ := bind_some hX
  refine TL.cvX (gcT1 rfl) rfl rfl (fun e => ⟨rfl, ⟨rfl, trivial⟩⟩) (fun e => (Fun.wk (args' := [L ([] : List File_api)]) ⟨Wk_nil, trivial⟩ (ok_listing_Names ([] : List File_api) _ (optG_t hr8 e)))) ?_
  refine TL.p (C := cx) (gc := (((((r6 == (1 : Int)) && (r7 == (1 : Int))) && r3.2) && (r3.1.Version == (3 : Int))))) (p_lenL (xs := r8) kd32 rfl (hg := fun e => e)) (gcT1 rfl) rfl ?_
  refine TL.p (C := cx) (gc := (((((r6 == (1 : Int)) && (r7 == (1 : Int))) && r3.2) && (r3.1.Version == (3 : Int))))) (p_eql rfl rfl (hg := fun e => ⟨e, rfl⟩)) (gcT1 rfl) rfl ?_
  refine TL.p (C := cx) (gc := true) (p_and rfl rfl (fun e => ⟨rfl, fun h => h⟩)) rfl rfl ?_
  refine TL.p (C := cx) (gc := true) (p_mv rfl) rfl rfl ?_
  refine TL.nil ?_
  refine hK5 _ _ ?_
  refine TK.ret ?_
  try dsimp only [thenQ]
  exact ret1 (v := Enc.v ((((((r6 == (1 : Int)) && (r7 == (1 : Int))) && r3.2) && (r3.1.Version == (3 : Int))) && ((r8.length : Int) == (0 : Int))) : Bool)) rfl (by obtain rfl := some_in hX; rfl) (v_val _)

/-- cartridge/cartridgeref10.Newest -/
theorem bc19 : BodyC cx 19 53 [.c 4 36, .t 5] k19 := ⟨Enters.of Try.func19 (by kernel_rfl) (by kernel_rfl), _, _, Try.func19, rfl, by kernel_rfl, rfl, rfl⟩
theorem ok_cartridgeref10_Newest (l1 : (List File_api)) (path2 : Str) (r : (File_api × Bool)) (hX : X.cartridgeref10_Newest l1 path2 = some r) : Fun Try.prog 19 [Enc.v (l1 : (List File_api)), Enc.v (path2 : Str)] (· = .tup 2 (ofL [Enc.v r.1, Enc.v r.2])) := by
  refine Fun.ofC (C := cx) bc19 (Nat.le_of_ble_eq_true rfl) (allVal.mem ⟨(by exact (v_val _)), (by exact (v_val _)), trivial⟩) ?_
  unfold k19
  have nd : Nd [] := Nd_nil
  unfold X.cartridgeref10_Newest at hX
  refine TK.seq_k fun K3 hK3 => ?_
  refine TK.reg ?_
  refine TL.alO (C := cx) (l := [Enc.v ((Str.mk []) : Str), Enc.v ((0 : Int) : Int), Enc.v ((0 : Int) : Int), Enc.v ((0 : Int) : Int), Enc.v ((0 : Int) : Int), Enc.v (false : Bool), .nils]) nd ty36 ti36_z rfl rfl fun b4 nd => ?_
  refine TL.p (C := cx) (gc := true) (p_mv rfl) rfl rfl ?_
  refine TL.nil ?_
  refine hK3 _ _ ?_
  refine TK.cvR nd (j := 0) rfl (l' := [Enc.v ((Str.mk []) : Str), Enc.v ((0 : Int) : Int), Enc.v ((0 : Int) : Int), Enc.v ((0 : Int) : Int), Enc.v ((0 : Int) : Int), Enc.v (false : Bool), Enc.v (([] : (List Part_api)) : (List Part_api))]) ⟨Wk.refl _, Wk.refl _, Wk.refl _, Wk.refl _, Wk.refl _, Wk.refl _, Wk_nil, trivial⟩ fun nd => ?_
  refine TK.seq_k fun K5 hK5 => ?_
  refine TK.reg ?_
  refine TL.p (C := cx) (gc := true) (p_mv rfl) rfl rfl ?_
  refine TL.nil ?_
  refine hK5 _ _ ?_
  refine TK.seq_k fun K6 hK6 => ?_
  refine TK.seq_k fun K7 hK7 => ?_
  refine TK.reg ?_
  refine TL.p (C := cx) (gc := true) (p_mv rfl) rfl rfl ?_
  refine TL.nil ?_
  refine hK7 _ _ ?_
  refine TK.block ?_
  obtain ⟨o8, hO8, hA8⟩ := bind_some hX
  have E8 : ∀ (at13 : Int) (env : Env) (h : Hp), (∃ b12, keepE [0, 4, 6] env = [(0, true, Enc.v (l1 : (List File_api))), (4, true, .ref b12 0 7), (6, true, Enc.v (at13 : Int))] ∧ Nd [(b12, RV 36 [Enc.v ((Str.mk []) : Str), Enc.v ((0 : Int) : Int), Enc.v ((0 : Int) : Int), Enc.v ((0 : Int) : Int), Enc.v ((0 : Int) : Int), Enc.v (false : Bool), Enc.v (([] : (List Part_api)) : (List Part_api))])] ∧ HSub [(b12, RV 36 [Enc.v ((Str.mk []) : Str), Enc.v ((0 : Int) : Int), Enc.v ((0 : Int) : Int), Enc.v ((0 : Int) : Int), Enc.v ((0 : Int) : Int), Enc.v (false : Bool), Enc.v (([] : (List Part_api)) : (List Part_api))])] h) → X.cartridgeref10_Newest_e8 l1 at13 = some r → K6 env h := by
    intro at13 env h hE hX
    obtain ⟨b12, henv, nd, hs⟩ := hE
    unfold X.cartridgeref10_Newest_e8 at hX
    refine hK6 _ _ (TK.keep [0, 4, 6] ?_)
    rw [henv]
    refine TK.subH hs ?_
    refine TK.seq_k fun K14 hK14 => ?_
    refine TK.seq_k fun K15 hK15 => ?_
    refine TK.reg ?_
    refine TL.p (C := cx) (gc := true) (p_mv rfl) rfl rfl ?_
    refine TL.p (C := cx) (gc := true) (p_lss rfl rfl) rfl rfl ?_
    refine TL.p (C := cx) (gc := true) (p_mv rfl) rfl rfl ?_
    refine TL.p (C := cx) (gc := (!((decide (at13 < (0 : Int)))))) (p_mv rfl (hg := fun e => rfl)) (gcF1 rfl) rfl ?_
    refine TL.p (C := cx) (gc := (!((decide (at13 < (0 : Int)))))) (p_mv rfl (hg := fun e => rfl)) (gcF1 rfl) rfl ?_
    obtain ⟨e16, he16, hX⟩ := bind_some hX
    refine TL.p (C := cx) (gc := (!((decide (at13 < (0 : Int)))))) (p_iaL (xs := l1) kd31 ty36 rfl rfl rfl (fun e => optG_t he16 e) (hg := fun e => ⟨e, e⟩)) (gcF1 rfl) rfl ?_
    refine TL.p (C := cx) (gc := (!((decide (at13 < (0 : Int)))))) (p_faE fs36_5 (by decide) rfl (hg := fun e => e)) (gcF1 rfl) rfl ?_
    refine TL.p (C := cx) (gc := (!((decide (at13 < (0 : Int)))))) (p_ldE (xs := l1) (a := e16) (e16.Gone : Bool) ty4 rfl rfl (fun e => optG_t he16 e) rfl rfl rfl (hg := fun e => e)) (gcF1 rfl) rfl ?_
    refine TL.p (C := cx) (gc := true) (p_or rfl rfl (fun e => ⟨rfl, fun h => (not_t h)⟩)) rfl rfl ?_
    refine TL.nil ?_
    refine hK15 _ _ ?_
    refine TK.cond (b := ((decide (at13 < (0 : Int))) || e16.Gone)) rfl (fun hc => ?_) (fun hc => ?_)
    · have hX := ite_t hc hX
      refine TK.seq_k fun K17 hK17 => ?_
      refine TK.reg ?_
      refine TL.p (C := cx) (gc := true) (p_bld (l := [Enc.v ((Str.mk []) : Str), Enc.v ((0 : Int) : Int), Enc.v ((0 : Int) : Int), Enc.v ((0 : Int) : Int), Enc.v ((0 : Int) : Int), Enc.v (false : Bool), .nils]) ty36 rfl all36 rfl (fun _ => trivial)) rfl rfl (TL.wk (v' := Enc.v ((File_api.mk (Str.mk []) (0 : Int) (0 : Int) (0 : Int) (0 : Int) false ([] : (List Part_api))) : File_api)) (Wk_agg ⟨Wk.refl _, Wk.refl _, Wk.refl _, Wk.refl _, Wk.refl _, Wk.refl _, Wk_nil, trivial⟩) ?_)
      refine TL.stV (C := cx) (lu := Enc.cl ((File_api.mk (Str.mk []) (0 : Int) (0 : Int) (0 : Int) (0 : Int) false ([] : (List Part_api))) : File_api)) nd ty36 rfl (j := 0) rfl rfl rfl (Cells_v ((File_api.mk (Str.mk []) (0 : Int) (0 : Int) (0 : Int) (0 : Int) false ([] : (List Part_api))) : File_api)) rfl rfl [Enc.v ((File_api.mk (Str.mk []) (0 : Int) (0 : Int) (0 : Int) (0 : Int) false ([] : (List Part_api))).Path : Str), Enc.v ((File_api.mk (Str.mk []) (0 : Int) (0 : Int) (0 : Int) (0 : Int) false ([] : (List Part_api))).Version : Int), Enc.v ((File_api.mk (Str.mk []) (0 : Int) (0 : Int) (0 : Int) (0 : Int) false ([] : (List Part_api))).Size : Int), Enc.v ((File_api.mk (Str.mk []) (0 : Int) (0 : Int) (0 : Int) (0 : Int) false ([] : (List Part_api))).Sum : Int), Enc.v ((File_api.mk (Str.mk []) (0 : Int) (0 : Int) (0 : Int) (0 : Int) false ([] : (List Part_api))).Serial : Int), Enc.v ((File_api.mk (Str.mk []) (0 : Int) (0 : Int) (0 : Int) (0 : Int) false ([] : (List Part_api))).Gone : Bool), Enc.v ((File_api.mk (Str.mk []) (0 : Int) (0 : Int) (0 : Int) (0 : Int) false ([] : (List Part_api))).Parts : (List Part_api))] rfl fun nd => ?_
      refine TL.p (C := cx) (gc := true) (p_mv rfl) rfl rfl ?_
      refine TL.nil ?_
      refine hK17 _ _ ?_
      refine TK.ret ?_
      try dsimp only [thenQ]
      exact retC [Enc.v ((File_api.mk (Str.mk []) (0 : Int) (0 : Int) (0 : Int) (0 : Int) false ([] : (List Part_api))) : File_api), Enc.v (false : Bool)] ⟨p_ldVa (l' := Enc.cl ((File_api.mk (Str.mk []) (0 : Int) (0 : Int) (0 : Int) (0 : Int) false ([] : (List Part_api))) : File_api)) ty36 rfl rfl nd (j := 0) rfl rfl rfl rfl (Nat.le_of_ble_eq_true rfl), p_mv rfl, trivial⟩ (by obtain rfl := some_in hX; rfl) (tup_val (allVal.mem ⟨v_val _, v_val _, trivial⟩))
    · have hX := ite_f hc hX
      refine TK.skip ?_
      refine hK14 _ _ ?_
      refine TK.seq_k fun K18 hK18 => ?_
      refine TK.reg ?_
      refine TL.p (C := cx) (gc := true) (p_mv rfl) rfl rfl ?_
      refine TL.p (C := cx) (gc := true) (p_mv rfl) rfl rfl ?_
      obtain ⟨e19, he19, hX⟩ := bind_some hX
      refine TL.p (C := cx) (gc := true) (p_iaL (xs := l1) kd31 ty36 rfl rfl rfl (fun _ => he19)) rfl rfl ?_
      refine TL.p (C := cx) (gc := true) (p_ldE (xs := l1) (a := e19) (e19 : File_api) ty36 rfl rfl (fun _ => he19) rfl rfl rfl) rfl rfl ?_
      refine TL.stV (C := cx) (lu := Enc.cl (e19 : File_api)) nd ty36 rfl (j := 0) rfl rfl rfl (Cells_v (e19 : File_api)) rfl rfl [Enc.v (e19.Path : Str), Enc.v (e19.Version : Int), Enc.v (e19.Size : Int), Enc.v (e19.Sum : Int), Enc.v (e19.Serial : Int), Enc.v (e19.Gone : Bool), Enc.v (e19.Parts : (List Part_api))] rfl fun nd => ?_
      refine TL.p (C := cx) (gc := true) (p_mv rfl) rfl rfl ?_
      refine TL.nil ?_
      refine hK18 _ _ ?_
      refine TK.ret ?_
      try dsimp only [thenQ]
      exact retC [Enc.v (e19 : File_api), Enc.v (true : Bool)] ⟨p_ldVa (l' := Enc.cl (e19 : File_api)) ty36 rfl rfl nd (j := 0) rfl rfl rfl rfl (Nat.le_of_ble_eq_true rfl), p_mv rfl, trivial⟩ (by obtain rfl := some_in hX; rfl) (tup_val (allVal.mem ⟨v_val _, v_val _, trivial⟩))
  refine TK.iter [0, 1, 4, 6, 7] (fun s env h => match s with | (at10, i11) => ∃ b9, env = [(0, true, Enc.v (l1 : (List File_api))), (1, true, Enc.v (path2 : Str)), (4, true, .ref b9 0 7), (6, true, Enc.v (at10 : Int)), (7, true, Enc.v (i11 : Int))] ∧ Nd [(b9, RV 36 [Enc.v ((Str.mk []) : Str), Enc.v ((0 : Int) : Int), Enc.v ((0 : Int) : Int), Enc.v ((0 : Int) : Int), Enc.v ((0 : Int) : Int), Enc.v (false : Bool), Enc.v (([] : (List Part_api)) : (List Part_api))])] ∧ HSub [(b9, RV 36 [Enc.v ((Str.mk []) : Str), Enc.v ((0 : Int) : Int), Enc.v ((0 : Int) : Int), Enc.v ((0 : Int) : Int), Enc.v ((0 : Int) : Int), Enc.v (false : Bool), Enc.v (([] : (List Part_api)) : (List Part_api))])] h) hO8 ⟨b4, rfl, (Nd.pick nd (is := [0]) (by decide)), (HSub.pick nd (is := [0]) (by decide))⟩ ?_
  rintro ⟨at10, i11⟩ env h x8x ⟨b9, rfl, nd, hs⟩ hX hR8
  refine TK.subH hs ?_
  unfold X.cartridgeref10_Newest_s8 at hX
  try dsimp only at hX
  refine TK.seq_k fun K20 hK20 => ?_
  refine TK.seq_k fun K21 hK21 => ?_
  refine TK.reg ?_
  refine TL.p (C := cx) (gc := true) (p_mv rfl) rfl rfl ?_
  refine TL.p (C := cx) (gc := true) (p_mv rfl) rfl rfl ?_
  refine TL.p (C := cx) (gc := true) (p_lenL (xs := l1) kd31 rfl) rfl rfl ?_
  refine TL.p (C := cx) (gc := true) (p_lss rfl rfl) rfl rfl ?_
  refine TL.nil ?_
  refine hK21 _ _ ?_
  refine TK.cond (b := (decide (i11 < (l1.length : Int)))) rfl (fun hc => ?_) (fun hc => ?_)
  · have hX := ite_t hc hX
    refine TK.skip ?_
    refine hK20 _ _ ?_
    refine TK.seq_k fun K22 hK22 => ?_
    have J22 : ∀ (at24 : Int) (env : Env) (h : Hp), (∃ b23, keepE [0, 1, 4, 6, 7] env = [(0, true, Enc.v (l1 : (List File_api))), (1, true, Enc.v (path2 : Str)), (4, true, .ref b23 0 7), (6, true, Enc.v (at24 : Int)), (7, true, Enc.v (i11 : Int))] ∧ Nd [(b23, RV 36 [Enc.v ((Str.mk []) : Str), Enc.v ((0 : Int) : Int), Enc.v ((0 : Int) : Int), Enc.v ((0 : Int) : Int), Enc.v ((0 : Int) : Int), Enc.v (false : Bool), Enc.v (([] : (List Part_api)) : (List Part_api))])] ∧ HSub [(b23, RV 36 [Enc.v ((Str.mk []) : Str), Enc.v ((0 : Int) : Int), Enc.v ((0 : Int) : Int), Enc.v ((0 : Int) : Int), Enc.v ((0 : Int) : Int), Enc.v (false : Bool), Enc.v (([] : (List Part_api)) : (List Part_api))])] h) → X.cartridgeref10_Newest_j22 i11 at24 = some x8x → K22 env h := by
      intro at24 env h hE hX
      obtain ⟨b23, henv, nd, hs⟩ := hE
      unfold X.cartridgeref10_Newest_j22 at hX
      refine hK22 _ _ (TK.keep [0, 1, 4, 6, 7] ?_)
      rw [henv]
      refine TK.subH hs ?_
      refine TK.reg ?_
      refine TL.p (C := cx) (gc := true) (p_mv rfl) rfl rfl ?_
      refine TL.p (C := cx) (gc := true) (p_add rfl rfl) rfl rfl ?_
      refine TL.p (C := cx) (gc := true) (p_mv rfl) rfl rfl ?_
      refine TL.nil ?_
      exact ⟨_, (some_in hX).symm, b23, rfl, (Nd.pick nd (is := [0]) (by decide)), (HSub.pick nd (is := [0]) (by decide))⟩
    refine TK.block ?_
    refine TK.seq_k fun K25 hK25 => ?_
    have ndS : Nd [(b9, RV 36 [Enc.v ((Str.mk []) : Str), Enc.v ((0 : Int) : Int), Enc.v ((0 : Int) : Int), Enc.v ((0 : Int) : Int), Enc.v ((0 : Int) : Int), Enc.v (false : Bool), Enc.v (([] : (List Part_api)) : (List Part_api))])] := Nd.pick nd (is := [0]) (by decide)
    refine TK.drwX (h := []) (hS := [(b9, RV 36 [Enc.v ((Str.mk []) : Str), Enc.v ((0 : Int) : Int), Enc.v ((0 : Int) : Int), Enc.v ((0 : Int) : Int), Enc.v ((0 : Int) : Int), Enc.v (false : Bool), Enc.v (([] : (List Part_api)) : (List Part_api))])]) [(0, 0), (0, 1), (0, 2), (0, 3), (0, 4), (0, 5), (0, 6), (0, 7), (0, 8), (0, 9), (0, 10), (0, 11), (0, 12), (0, 13), (0, 14), (0, 15), (0, 16), (0, 17), (0, 18), (0, 19), (0, 20), (0, 21), (0, 22), (0, 23)] mixed (by kernel_rfl) (HSub_app nd) ?_
    refine DR0 (gc := true) rfl (vok_p (C := cx) (p_mv rfl)) rfl rfl ?_
    refine DR0 (gc := true) rfl (vok_p (C := cx) (p_mv rfl)) rfl rfl ?_
    obtain ⟨e26, he26, hX⟩ := bind_some hX
    refine DR0 (gc := true) rfl (vok_p (C := cx) (p_iaL (xs := l1) kd31 ty36 rfl rfl rfl (fun _ => he26))) rfl rfl ?_
    refine DR0 (gc := true) rfl (vok_p (C := cx) (p_faE fs36_0 (by decide) rfl)) rfl rfl ?_
    refine DR0 (gc := true) rfl (vok_p (C := cx) (p_ldE (xs := l1) (a := e26) (e26.Path : Str) ty9 rfl rfl (fun _ => he26) rfl rfl rfl)) rfl rfl ?_
    refine DR0 (gc := true) rfl (vok_p (C := cx) (p_mv rfl)) rfl rfl ?_
    refine DR0 (gc := true) rfl (vok_p (C := cx) (ps_eql (s := e26.Path) (r := path2) rfl rfl)) rfl rfl ?_
    refine DR0 (gc := true) rfl (vok_p (C := cx) (p_mv rfl)) rfl rfl ?_
    refine DR0 (gc := ((e26.Path.l == path2.l))) rfl (vok_p (C := cx) (p_mv rfl (hg := fun e => rfl))) (gcT1 rfl) rfl ?_
    refine DR0 (gc := ((e26.Path.l == path2.l))) rfl (vok_p (C := cx) (p_lss rfl rfl (hg := fun e => ⟨e, rfl⟩))) (gcT1 rfl) rfl ?_
    refine DR0 (gc := ((e26.Path.l == path2.l))) rfl (vok_p (C := cx) (p_mv rfl (hg := fun e => e))) (gcT1 rfl) rfl ?_
    refine DR0 (gc := (((e26.Path.l == path2.l)) && (!((decide (at10 < (0 : Int))))))) rfl (vok_p (C := cx) (p_mv rfl (hg := fun e => rfl))) (gcF rfl) rfl ?_
    refine DR0 (gc := (((e26.Path.l == path2.l)) && (!((decide (at10 < (0 : Int))))))) rfl (vok_p (C := cx) (p_mv rfl (hg := fun e => rfl))) (gcF rfl) rfl ?_
    obtain ⟨e27, he27, hX⟩ := bind_some hX
    refine DR0 (gc := (((e26.Path.l == path2.l)) && (!((decide (at10 < (0 : Int))))))) rfl (vok_p (C := cx) (p_iaL (xs := l1) kd31 ty36 rfl rfl rfl (fun e => optG_t he27 e) (hg := fun e => ⟨e, e⟩))) (gcF rfl) rfl ?_
    refine DR0 (gc := (((e26.Path.l == path2.l)) && (!((decide (at10 < (0 : Int))))))) rfl (vok_p (C := cx) (p_faE fs36_1 (by decide) rfl (hg := fun e => e))) (gcF rfl) rfl ?_
    refine DR0 (gc := (((e26.Path.l == path2.l)) && (!((decide (at10 < (0 : Int))))))) rfl (vok_p (C := cx) (p_ldE (xs := l1) (a := e27) (e27.Version : Int) ty3 rfl rfl (fun e => optG_t he27 e) rfl rfl rfl (hg := fun e => e))) (gcF rfl) rfl ?_
    refine DR0 (gc := (((e26.Path.l == path2.l)) && (!((decide (at10 < (0 : Int))))))) rfl (vok_p (C := cx) (p_mv rfl (hg := fun e => rfl))) (gcF rfl) rfl ?_
    refine DR0 (gc := (((e26.Path.l == path2.l)) && (!((decide (at10 < (0 : Int))))))) rfl (vok_p (C := cx) (p_mv rfl (hg := fun e => rfl))) (gcF rfl) rfl ?_
    obtain ⟨e28, he28, hX⟩ := bind_some hX
    refine DR0 (gc := (((e26.Path.l == path2.l)) && (!((decide (at10 < (0 : Int))))))) rfl (vok_p (C := cx) (p_iaL (xs := l1) kd31 ty36 rfl rfl rfl (fun e => optG_t he28 e) (hg := fun e => ⟨e, e⟩))) (gcF rfl) rfl ?_
    refine DR0 (gc := (((e26.Path.l == path2.l)) && (!((decide (at10 < (0 : Int))))))) rfl (vok_p (C := cx) (p_faE fs36_1 (by decide) rfl (hg := fun e => e))) (gcF rfl) rfl ?_
    refine DR0 (gc := (((e26.Path.l == path2.l)) && (!((decide (at10 < (0 : Int))))))) rfl (vok_p (C := cx) (p_ldE (xs := l1) (a := e28) (e28.Version : Int) ty3 rfl rfl (fun e => optG_t he28 e) rfl rfl rfl (hg := fun e => e))) (gcF rfl) rfl ?_
    refine DR0 (gc := (((e26.Path.l == path2.l)) && (!((decide (at10 < (0 : Int))))))) rfl (vok_p (C := cx) (p_gtr rfl rfl (hg := fun e => ⟨e, e⟩))) (gcF rfl) rfl ?_
    refine DR0 (gc := ((e26.Path.l == path2.l))) rfl (vok_p (C := cx) (p_or rfl rfl (fun e => ⟨e, fun h => (and_i e (not_t h))⟩))) (gcT1 rfl) rfl ?_
    refine DR0 (gc := true) rfl (vok_p (C := cx) (p_and rfl rfl (fun e => ⟨rfl, fun h => h⟩))) rfl rfl ?_
    refine DRend ?_
    refine hK25 _ _ ?_
    refine TK.cond (b := ((e26.Path.l == path2.l) && ((decide (at10 < (0 : Int))) || (decide (e27.Version > e28.Version))))) rfl (fun hc => ?_) (fun hc => ?_)
    · have hX := ite_t hc hX
      refine TK.reg ?_
      refine TL.p (C := cx) (gc := true) (p_mv rfl) rfl rfl ?_
      refine TL.p (C := cx) (gc := true) (p_mv rfl) rfl rfl ?_
      refine TL.nil ?_
      exact J22 i11 _ _ ⟨b9, rfl, (Nd.pick nd (is := [0]) (by decide)), (HSub.pick nd (is := [0]) (by decide))⟩ hX
    · have hX := ite_f hc hX
      refine TK.skip ?_
      exact J22 at10 _ _ ⟨b9, rfl, (Nd.pick nd (is := [0]) (by decide)), (HSub.pick nd (is := [0]) (by decide))⟩ hX
  · have hX := ite_f hc hX
    refine TK.exit ?_
    obtain rfl := hR8 _ (some_in hX).symm
    exact E8 at10 _ _ ⟨b9, rfl, (Nd.pick nd (is := [0]) (by decide)), (HSub.pick nd (is := [0]) (by decide))⟩ hA8

/-- slices.IndexFunc[[]cartridge/api.File,cartridge/api.File] -/
theorem ok_slices_IndexFunc_Lapi_File_api_File (s1 : (List File_api)) (g2 : File_api → Option Bool) (r : Int) (hX : X.slices_IndexFunc_Lapi_File_api_File s1 g2 = some r) {g2V : AV} (hg2V : ∃ f m c, g2V = .fn f m c ∧ (∀ i, i < m → (c i).val) ∧ ∀ (a0 : File_api) r, g2 a0 = some r → Fun Try.prog f ([Enc.v a0] ++ (List.range m).map c) (· = Enc.v r)) : Fun Try.prog 50 [Enc.v (s1 : (List File_api)), g2V] (· = Enc.v (r : Int)) := by
  obtain ⟨g2f, g2m, g2c, rfl, hg2v, hg2⟩ := hg2V
  refine Fun.of b50 (Nat.le_of_ble_eq_true rfl) (allVal.mem ⟨(by exact (v_val _)), hg2v, trivial⟩) ?_
  unfold k50
  have nd : Nd [] := Nd_nil
  unfold X.slices_IndexFunc_Lapi_File_api_File at hX
  refine TK.seq_k fun K3 hK3 => ?_
  refine TK.reg ?_
  refine TL.p (C := cx) (gc := true) (p_mv rfl) rfl rfl ?_
  refine TL.nil ?_
  refine hK3 _ _ ?_
  refine TK.seq_k fun K4 hK4 => ?_
  refine TK.seq_k fun K5 hK5 => ?_
  refine TK.reg ?_
  refine TL.p (C := cx) (gc := true) (p_mv rfl) rfl rfl ?_
  refine TL.p (C := cx) (gc := true) (p_lenL (xs := s1) kd31 rfl) rfl rfl ?_
  refine TL.p (C := cx) (gc := true) (p_mv rfl) rfl rfl ?_
  refine TL.nil ?_
  refine hK5 _ _ ?_
  refine TK.block ?_
  obtain ⟨o6, hO6, hA6⟩ := bind_some hX
  have E6 : ∀ (env : Env) (h : Hp), (∃ _u : Unit, keepE [] env = [] ∧ Nd [] ∧ HSub [] h) → X.slices_IndexFunc_Lapi_File_api_File_e6 = some r → K4 env h := by
    intro  env h hE hX
    obtain ⟨_u, henv, nd, hs⟩ := hE
    unfold X.slices_IndexFunc_Lapi_File_api_File_e6 at hX
    refine hK4 _ _ (TK.keep [] ?_)
    rw [henv]
    refine TK.subH hs ?_
    refine TK.seq_k fun K8 hK8 => ?_
    refine TK.reg ?_
    refine TL.p (C := cx) (gc := true) (p_mv rfl) rfl rfl ?_
    refine TL.nil ?_
    refine hK8 _ _ ?_
    refine TK.ret ?_
    try dsimp only [thenQ]
    exact ret1 (v := Enc.v (((-1) : Int) : Int)) rfl (by obtain rfl := some_in hX; rfl) (v_val _)
  refine TK.iter [0, 1, 7, 8] (fun s env h => match s with | x7 => ∃ _u : Unit, env = [(0, true, Enc.v (s1 : (List File_api))), (1, true, .fn g2f g2m g2c), (7, true, Enc.v ((s1.length : Int) : Int)), (8, true, Enc.v (x7 : Int))] ∧ Nd [] ∧ HSub [] h) hO6 ⟨(), rfl, Nd_nil, HSub.refl _⟩ ?_
  rintro x7 env h x6x ⟨_u, rfl, nd, hs⟩ hX hR6
  refine TK.subH hs ?_
  unfold X.slices_IndexFunc_Lapi_File_api_File_s6 at hX
  try dsimp only at hX
  refine TK.seq_k fun K9 hK9 => ?_
  refine TK.reg ?_
  refine TL.p (C := cx) (gc := true) (p_lss rfl rfl) rfl rfl ?_
  refine TL.nil ?_
  refine hK9 _ _ ?_
  refine TK.seq_k fun K10 hK10 => ?_
  refine TK.cond (b := (decide (x7 < (s1.length : Int)))) rfl (fun hc => ?_) (fun hc => ?_)
  · have hX := ite_t hc hX
    refine TK.skip ?_
    refine hK10 _ _ ?_
    refine TK.seq_k fun K11 hK11 => ?_
    refine TK.block ?_
    refine TK.seq_k fun K12 hK12 => ?_
    refine TK.reg ?_
    refine TL.p (C := cx) (gc := true) (p_mv rfl) rfl rfl ?_
    refine TL.p (C := cx) (gc := true) (p_mv rfl) rfl rfl ?_
    refine TL.nil ?_
    refine hK12 _ _ ?_
    refine TK.seq_k fun K13 hK13 => ?_
    refine TK.reg ?_
    refine TL.p (C := cx) (gc := true) (p_mv rfl) rfl rfl ?_
    refine TL.p (C := cx) (gc := true) (p_mv rfl) rfl rfl ?_
    refine TL.p (C := cx) (gc := true) (p_mv rfl) rfl rfl ?_
    obtain ⟨e14, he14, hX⟩ := bind_some hX
    refine TL.p (C := cx) (gc := true) (p_iaL (xs := s1) kd31 ty36 rfl rfl rfl (fun _ => he14)) rfl rfl ?_
    refine TL.p (C := cx) (gc := true) (p_ldE (xs := s1) (a := e14) (e14 : File_api) ty36 rfl rfl (fun _ => he14) rfl rfl rfl) rfl rfl ?_
    obtain ⟨r15, hr15, hX⟩ := bind_some hX
    refine TL.cvX rfl rfl rfl (fun _ => ⟨rfl, ⟨rfl, trivial⟩⟩) (fun e => hg2 e14 _ hr15) ?_
    refine TL.nil ?_
    refine hK13 _ _ ?_
    refine TK.cond (b := r15) rfl (fun hc => ?_) (fun hc => ?_)
    · have hX := ite_t hc hX
      refine TK.seq_k fun K16 hK16 => ?_
      refine TK.reg ?_
      refine TL.p (C := cx) (gc := true) (p_mv rfl) rfl rfl ?_
      refine TL.p (C := cx) (gc := true) (p_mv rfl) rfl rfl ?_
      refine TL.nil ?_
      refine hK16 _ _ ?_
      refine TK.ret ?_
      obtain rfl := hR6 _ (some_in hX).symm
      replace hX := hA6
      try dsimp only [thenQ]
      exact ret1 (v := Enc.v (x7 : Int)) rfl (by obtain rfl := some_in hX; rfl) (v_val _)
    · have hX := ite_f hc hX
      refine TK.skip ?_
      refine hK11 _ _ ?_
      refine TK.reg ?_
      refine TL.p (C := cx) (gc := true) (p_add rfl rfl) rfl rfl ?_
      refine TL.p (C := cx) (gc := true) (p_mv rfl) rfl rfl ?_
      refine TL.nil ?_
      exact ⟨_, (some_in hX).symm, (), rfl, Nd_nil, HSub.refl _⟩
  · have hX := ite_f hc hX
    refine TK.exit ?_
    obtain rfl := hR6 _ (some_in hX).symm
    exact E6 _ _ ⟨(), rfl, Nd_nil, HSub.refl _⟩ hA6

/-- cartridge/listing.Get$1 -/
theorem ok_listing_Get_c1 (f1 : File_api) (c2 : Str) (c3 : Int) (r : Bool) (hX : X.listing_Get_c1 f1 c2 c3 = some r) : Fun Try.prog 51 [Enc.v (f1 : File_api), .vref (ofL [Enc.v (c2 : Str)]) 1 0, .vref (ofL [Enc.v (c3 : Int)]) 1 0] (· = Enc.v (r : Bool)) := by
  refine Fun.of b51 (Nat.le_of_ble_eq_true rfl) (allVal.mem ⟨(by exact (v_val _)), (by exact (vref_val (l := [Enc.v (c2 : Str)]) rfl ⟨(v_val _), trivial⟩)), (by exact (vref_val (l := [Enc.v (c3 : Int)]) rfl ⟨(v_val _), trivial⟩)), trivial⟩) ?_
  unfold k51
  have nd : Nd [] := Nd_nil
  unfold X.listing_Get_c1 at hX
  refine TK.seq_k fun K4 hK4 => ?_
  refine TK.reg ?_
  refine TL.boxV (C := cx) (lu := [Enc.v (f1.Path : Str), Enc.v (f1.Version : Int), Enc.v (f1.Size : Int), Enc.v (f1.Sum : Int), Enc.v (f1.Serial : Int), Enc.v (f1.Gone : Bool), Enc.v (f1.Parts : (List Part_api))]) nd rfl (Cells_v (f1 : File_api)) rfl ?_
  refine TL.p (C := cx) (gc := true) (p_mv rfl) rfl rfl ?_
  refine TL.nil ?_
  refine hK4 _ _ ?_
  refine TK.seq_k fun K5 hK5 => ?_
  refine TK.reg ?_
  refine TL.p (C := cx) (gc := true) (p_faR fs36_0 (by decide) rfl) rfl rfl ?_
  refine TL.p (C := cx) (gc := true) (p_ldR (v := Enc.v (f1.Path : Str)) ty9 rfl rfl rfl rfl rfl rfl) rfl rfl ?_
  refine TL.p (C := cx) (gc := true) (p_ldR (v := Enc.v (c2 : Str)) ty9 rfl rfl rfl rfl rfl rfl) rfl rfl ?_
  refine TL.p (C := cx) (gc := true) (ps_eql (s := f1.Path) (r := c2) rfl rfl) rfl rfl ?_
  refine TL.p (C := cx) (gc := true) (p_mv rfl) rfl rfl ?_
  refine TL.p (C := cx) (gc := ((f1.Path.l == c2.l))) (p_faR fs36_1 (by decide) rfl (hg := fun e => rfl)) (gcT1 rfl) rfl ?_
  refine TL.p (C := cx) (gc := ((f1.Path.l == c2.l))) (p_ldR (v := Enc.v (f1.Version : Int)) ty3 rfl rfl rfl rfl rfl rfl (hg := fun e => e)) (gcT1 rfl) rfl ?_
  refine TL.p (C := cx) (gc := ((f1.Path.l == c2.l))) (p_ldR (v := Enc.v (c3 : Int)) ty3 rfl rfl rfl rfl rfl rfl (hg := fun e => rfl)) (gcT1 rfl) rfl ?_
  refine TL.p (C := cx) (gc := ((f1.Path.l == c2.l))) (p_eql rfl rfl (hg := fun e => ⟨e, e⟩)) (gcT1 rfl) rfl ?_
  refine TL.p (C := cx) (gc := true) (p_and rfl rfl (fun e => ⟨rfl, fun h => h⟩)) rfl rfl ?_
  refine TL.p (C := cx) (gc := true) (p_mv rfl) rfl rfl ?_
  refine TL.nil ?_
  refine hK5 _ _ ?_
  refine TK.ret ?_
  try dsimp only [thenQ]
  exact ret1 (v := Enc.v (((f1.Path.l == c2.l) && (f1.Version == c3)) : Bool)) rfl (by obtain rfl := some_in hX; rfl) (v_val _)

/-- cartridge/listing.Get -/
theorem bc20 : BodyC cx 20 29 [.c 6 36, .t 7] k20 := ⟨Enters.of Try.func20 (by kernel_rfl) (by kernel_rfl), _, _, Try.func20, rfl, by kernel_rfl, rfl, rfl⟩
theorem ok_listing_Get (l1 : (List File_api)) (path2 : Str) (version3 : Int) (r : (File_api × Bool)) (hX : X.listing_Get l1 path2 version3 = some r) : Fun Try.prog 20 [Enc.v (l1 : (List File_api)), Enc.v (path2 : Str), Enc.v (version3 : Int)] (· = .tup 2 (ofL [Enc.v r.1, Enc.v r.2])) := by
  refine Fun.ofC (C := cx) bc20 (Nat.le_of_ble_eq_true rfl) (allVal.mem ⟨(by exact (v_val _)), (by exact (v_val _)), (by exact (v_val _)), trivial⟩) ?_
  unfold k20
  have nd : Nd [] := Nd_nil
  unfold X.listing_Get at hX
  refine TK.seq_k fun K4 hK4 => ?_
  refine TK.reg ?_
  refine TL.boxV (C := cx) (lu := [Enc.v (path2 : Str)]) nd rfl (Cells_v (path2 : Str)) rfl ?_
  refine TL.boxV (C := cx) (lu := [Enc.v (version3 : Int)]) nd rfl (Cells_v (version3 : Int)) rfl ?_
  refine TL.alO (C := cx) (l := [Enc.v ((Str.mk []) : Str), Enc.v ((0 : Int) : Int), Enc.v ((0 : Int) : Int), Enc.v ((0 : Int) : Int), Enc.v ((0 : Int) : Int), Enc.v (false : Bool), .nils]) nd ty36 ti36_z rfl rfl fun b5 nd => ?_
  refine TL.p (C := cx) (gc := true) (p_mv rfl) rfl rfl ?_
  refine TL.nil ?_
  refine hK4 _ _ ?_
  refine TK.cvR nd (j := 0) rfl (l' := [Enc.v ((Str.mk []) : Str), Enc.v ((0 : Int) : Int), Enc.v ((0 : Int) : Int), Enc.v ((0 : Int) : Int), Enc.v ((0 : Int) : Int), Enc.v (false : Bool), Enc.v (([] : (List Part_api)) : (List Part_api))]) ⟨Wk.refl _, Wk.refl _, Wk.refl _, Wk.refl _, Wk.refl _, Wk.refl _, Wk_nil, trivial⟩ fun nd => ?_
  refine TK.seq_k fun K6 hK6 => ?_
  refine TK.seq_k fun K7 hK7 => ?_
  refine TK.reg ?_
  refine TL.p (C := cx) (gc := true) (p_ldR (v := Enc.v (version3 : Int)) ty3 rfl rfl rfl rfl rfl rfl) rfl rfl ?_
  refine TL.p (C := cx) (gc := true) (p_eql rfl rfl) rfl rfl ?_
  refine TL.nil ?_
  refine hK7 _ _ ?_
  refine TK.cond (b := (version3 == (0 : Int))) rfl (fun hc => ?_) (fun hc => ?_)
  · have hX := ite_t hc hX
    refine TK.seq_k fun K8 hK8 => ?_
    refine TK.reg ?_
    refine TL.p (C := cx) (gc := true) (p_mv rfl) rfl rfl ?_
    refine TL.p (C := cx) (gc := true) (p_ldR (v := Enc.v (path2 : Str)) ty9 rfl rfl rfl rfl rfl rfl) rfl rfl ?_
    obtain ⟨r9, hr9, hX⟩ := bind_some hX
    refine TL.cvX rfl rfl rfl (fun _ => ⟨rfl, ⟨rfl, ⟨rfl, trivial⟩⟩⟩) (fun e => ok_listing_Newest l1 path2 _ hr9) ?_
    refine TL.p (C := cx) (gc := true) (p_ex rfl rfl (by decide)) rfl rfl ?_
    refine TL.p (C := cx) (gc := true) (p_ex rfl rfl (by decide)) rfl rfl ?_
    refine TL.stV (C := cx) (lu := Enc.cl (r9.1 : File_api)) nd ty36 rfl (j := 0) rfl rfl rfl (Cells_v (r9.1 : File_api)) rfl rfl [Enc.v (r9.1.Path : Str), Enc.v (r9.1.Version : Int), Enc.v (r9.1.Size : Int), Enc.v (r9.1.Sum : Int), Enc.v (r9.1.Serial : Int), Enc.v (r9.1.Gone : Bool), Enc.v (r9.1.Parts : (List Part_api))] rfl fun nd => ?_
    refine TL.p (C := cx) (gc := true) (p_mv rfl) rfl rfl ?_
    refine TL.nil ?_
    refine hK8 _ _ ?_
    refine TK.ret ?_
    try dsimp only [thenQ]
    exact retC [Enc.v (r9.1 : File_api), Enc.v (r9.2 : Bool)] ⟨p_ldVa (l' := Enc.cl (r9.1 : File_api)) ty36 rfl rfl nd (j := 0) rfl rfl rfl rfl (Nat.le_of_ble_eq_true rfl), p_mv rfl, trivial⟩ (by obtain rfl := some_in hX; rfl) (tup_val (allVal.mem ⟨v_val _, v_val _, trivial⟩))
  · have hX := ite_f hc hX
    refine TK.skip ?_
    refine hK6 _ _ ?_
    refine TK.seq_k fun K10 hK10 => ?_
    refine TK.reg ?_
    refine TL.p (C := cx) (gc := true) (p_mv rfl) rfl rfl ?_
    refine TL.p (C := cx) (gc := true) (p_mf (l := [.vref (ofL [Enc.v (path2 : Str)]) 1 0, .vref (ofL [Enc.v (version3 : Int)]) 1 0]) rfl (fun _ => ⟨rfl, rfl, trivial⟩)) rfl rfl ?_
    obtain ⟨r11, hr11, hX⟩ := bind_some hX
    refine TL.cvX rfl rfl rfl (fun _ => ⟨rfl, ⟨rfl, ⟨rfl, trivial⟩⟩⟩) (fun e => ok_slices_IndexFunc_Lapi_File_api_File l1 (fun a1 => X.listing_Get_c1 a1 path2 version3) _ hr11 ⟨51, 2, ofL [.vref (ofL [Enc.v (path2 : Str)]) 1 0, .vref (ofL [Enc.v (version3 : Int)]) 1 0], rfl, (caps_val rfl ⟨(vref_val (l := [Enc.v (path2 : Str)]) rfl ⟨(v_val _), trivial⟩), (vref_val (l := [Enc.v (version3 : Int)]) rfl ⟨(v_val _), trivial⟩), trivial⟩), fun a1 r hr => ok_listing_Get_c1 a1 path2 version3 r hr⟩) ?_
    refine TL.p (C := cx) (gc := true) (p_mv rfl) rfl rfl ?_
    refine TL.nil ?_
    refine hK10 _ _ ?_
    refine TK.seq_k fun K12 hK12 => ?_
    refine TK.seq_k fun K13 hK13 => ?_
    refine TK.reg ?_
    refine TL.p (C := cx) (gc := true) (p_mv rfl) rfl rfl ?_
    refine TL.p (C := cx) (gc := true) (p_lss rfl rfl) rfl rfl ?_
    refine TL.nil ?_
    refine hK13 _ _ ?_
    refine TK.cond (b := (decide (r11 < (0 : Int)))) rfl (fun hc => ?_) (fun hc => ?_)
    · have hX := ite_t hc hX
      refine TK.seq_k fun K14 hK14 => ?_
      refine TK.reg ?_
      refine TL.p (C := cx) (gc := true) (p_bld (l := [Enc.v ((Str.mk []) : Str), Enc.v ((0 : Int) : Int), Enc.v ((0 : Int) : Int), Enc.v ((0 : Int) : Int), Enc.v ((0 : Int) : Int), Enc.v (false : Bool), .nils]) ty36 rfl all36 rfl (fun _ => trivial)) rfl rfl (TL.wk (v' := Enc.v ((File_api.mk (Str.mk []) (0 : Int) (0 : Int) (0 : Int) (0 : Int) false ([] : (List Part_api))) : File_api)) (Wk_agg ⟨Wk.refl _, Wk.refl _, Wk.refl _, Wk.refl _, Wk.refl _, Wk.refl _, Wk_nil, trivial⟩) ?_)
      refine TL.stV (C := cx) (lu := Enc.cl ((File_api.mk (Str.mk []) (0 : Int) (0 : Int) (0 : Int) (0 : Int) false ([] : (List Part_api))) : File_api)) nd ty36 rfl (j := 0) rfl rfl rfl (Cells_v ((File_api.mk (Str.mk []) (0 : Int) (0 : Int) (0 : Int) (0 : Int) false ([] : (List Part_api))) : File_api)) rfl rfl [Enc.v ((File_api.mk (Str.mk []) (0 : Int) (0 : Int) (0 : Int) (0 : Int) false ([] : (List Part_api))).Path : Str), Enc.v ((File_api.mk (Str.mk []) (0 : Int) (0 : Int) (0 : Int) (0 : Int) false ([] : (List Part_api))).Version : Int), Enc.v ((File_api.mk (Str.mk []) (0 : Int) (0 : Int) (0 : Int) (0 : Int) false ([] : (List Part_api))).Size : Int), Enc.v ((File_api.mk (Str.mk []) (0 : Int) (0 : Int) (0 : Int) (0 : Int) false ([] : (List Part_api))).Sum : Int), Enc.v ((File_api.mk (Str.mk []) (0 : Int) (0 : Int) (0 : Int) (0 : Int) false ([] : (List Part_api))).Serial : Int), Enc.v ((File_api.mk (Str.mk []) (0 : Int) (0 : Int) (0 : Int) (0 : Int) false ([] : (List Part_api))).Gone : Bool), Enc.v ((File_api.mk (Str.mk []) (0 : Int) (0 : Int) (0 : Int) (0 : Int) false ([] : (List Part_api))).Parts : (List Part_api))] rfl fun nd => ?_
      refine TL.p (C := cx) (gc := true) (p_mv rfl) rfl rfl ?_
      refine TL.nil ?_
      refine hK14 _ _ ?_
      refine TK.ret ?_
      try dsimp only [thenQ]
      exact retC [Enc.v ((File_api.mk (Str.mk []) (0 : Int) (0 : Int) (0 : Int) (0 : Int) false ([] : (List Part_api))) : File_api), Enc.v (false : Bool)] ⟨p_ldVa (l' := Enc.cl ((File_api.mk (Str.mk []) (0 : Int) (0 : Int) (0 : Int) (0 : Int) false ([] : (List Part_api))) : File_api)) ty36 rfl rfl nd (j := 0) rfl rfl rfl rfl (Nat.le_of_ble_eq_true rfl), p_mv rfl, trivial⟩ (by obtain rfl := some_in hX; rfl) (tup_val (allVal.mem ⟨v_val _, v_val _, trivial⟩))
    · have hX := ite_f hc hX
      refine TK.skip ?_
      refine hK12 _ _ ?_
      refine TK.seq_k fun K15 hK15 => ?_
      refine TK.reg ?_
      refine TL.p (C := cx) (gc := true) (p_mv rfl) rfl rfl ?_
      refine TL.p (C := cx) (gc := true) (p_mv rfl) rfl rfl ?_
      obtain ⟨e16, he16, hX⟩ := bind_some hX
      refine TL.p (C := cx) (gc := true) (p_iaL (xs := l1) kd31 ty36 rfl rfl rfl (fun _ => he16)) rfl rfl ?_
      refine TL.p (C := cx) (gc := true) (p_ldE (xs := l1) (a := e16) (e16 : File_api) ty36 rfl rfl (fun _ => he16) rfl rfl rfl) rfl rfl ?_
      obtain ⟨r17, hr17, hX⟩ := bind_some hX
      refine TL.cvX rfl rfl rfl (fun _ => ⟨rfl, ⟨rfl, ⟨rfl, trivial⟩⟩⟩) (fun e => ok_listing_there e16 true _ hr17) ?_
      refine TL.p (C := cx) (gc := true) (p_ex rfl rfl (by decide)) rfl rfl ?_
      refine TL.p (C := cx) (gc := true) (p_ex rfl rfl (by decide)) rfl rfl ?_
      refine TL.stV (C := cx) (lu := Enc.cl (r17.1 : File_api)) nd ty36 rfl (j := 0) rfl rfl rfl (Cells_v (r17.1 : File_api)) rfl rfl [Enc.v (r17.1.Path : Str), Enc.v (r17.1.Version : Int), Enc.v (r17.1.Size : Int), Enc.v (r17.1.Sum : Int), Enc.v (r17.1.Serial : Int), Enc.v (r17.1.Gone : Bool), Enc.v (r17.1.Parts : (List Part_api))] rfl fun nd => ?_
      refine TL.p (C := cx) (gc := true) (p_mv rfl) rfl rfl ?_
      refine TL.nil ?_
      refine hK15 _ _ ?_
      refine TK.ret ?_
      try dsimp only [thenQ]
      exact retC [Enc.v (r17.1 : File_api), Enc.v (r17.2 : Bool)] ⟨p_ldVa (l' := Enc.cl (r17.1 : File_api)) ty36 rfl rfl nd (j := 0) rfl rfl rfl rfl (Nat.le_of_ble_eq_true rfl), p_mv rfl, trivial⟩ (by obtain rfl := some_in hX; rfl) (tup_val (allVal.mem ⟨v_val _, v_val _, trivial⟩))

/-- cartridge/cartridgeref10.GetFile -/
theorem bc21 : BodyC cx 21 49 [.c 6 36, .t 7] k21 := ⟨Enters.of Try.func21 (by kernel_rfl) (by kernel_rfl), _, _, Try.func21, rfl, by kernel_rfl, rfl, rfl⟩
theorem ok_cartridgeref10_GetFile (l1 : (List File_api)) (path2 : Str) (version3 : Int) (r : (File_api × Bool)) (hX : X.cartridgeref10_GetFile l1 path2 version3 = some r) : Fun Try.prog 21 [Enc.v (l1 : (List File_api)), Enc.v (path2 : Str), Enc.v (version3 : Int)] (· = .tup 2 (ofL [Enc.v r.1, Enc.v r.2])) := by
  refine Fun.ofC (C := cx) bc21 (Nat.le_of_ble_eq_true rfl) (allVal.mem ⟨(by exact (v_val _)), (by exact (v_val _)), (by exact (v_val _)), trivial⟩) ?_
  unfold k21
  have nd : Nd [] := Nd_nil
  unfold X.cartridgeref10_GetFile at hX
  refine TK.seq_k fun K4 hK4 => ?_
  refine TK.reg ?_
  refine TL.alO (C := cx) (l := [Enc.v ((Str.mk []) : Str), Enc.v ((0 : Int) : Int), Enc.v ((0 : Int) : Int), Enc.v ((0 : Int) : Int), Enc.v ((0 : Int) : Int), Enc.v (false : Bool), .nils]) nd ty36 ti36_z rfl rfl fun b5 nd => ?_
  refine TL.p (C := cx) (gc := true) (p_mv rfl) rfl rfl ?_
  refine TL.nil ?_
  refine hK4 _ _ ?_
  refine TK.cvR nd (j := 0) rfl (l' := [Enc.v ((Str.mk []) : Str), Enc.v ((0 : Int) : Int), Enc.v ((0 : Int) : Int), Enc.v ((0 : Int) : Int), Enc.v ((0 : Int) : Int), Enc.v (false : Bool), Enc.v (([] : (List Part_api)) : (List Part_api))]) ⟨Wk.refl _, Wk.refl _, Wk.refl _, Wk.refl _, Wk.refl _, Wk.refl _, Wk_nil, trivial⟩ fun nd => ?_
  refine TK.seq_k fun K6 hK6 => ?_
  refine TK.seq_k fun K7 hK7 => ?_
  refine TK.reg ?_
  refine TL.p (C := cx) (gc := true) (p_mv rfl) rfl rfl ?_
  refine TL.p (C := cx) (gc := true) (p_eql rfl rfl) rfl rfl ?_
  refine TL.nil ?_
  refine hK7 _ _ ?_
  refine TK.cond (b := (version3 == (0 : Int))) rfl (fun hc => ?_) (fun hc => ?_)
  · have hX := ite_t hc hX
    refine TK.seq_k fun K8 hK8 => ?_
    refine TK.reg ?_
    refine TL.p (C := cx) (gc := true) (p_mv rfl) rfl rfl ?_
    refine TL.p (C := cx) (gc := true) (p_mv rfl) rfl rfl ?_
    obtain ⟨r9, hr9, hX⟩ := bind_some hX
    refine TL.cvX rfl rfl rfl (fun _ => ⟨rfl, ⟨rfl, ⟨rfl, trivial⟩⟩⟩) (fun e => ok_cartridgeref10_Newest l1 path2 _ hr9) ?_
    refine TL.p (C := cx) (gc := true) (p_ex rfl rfl (by decide)) rfl rfl ?_
    refine TL.p (C := cx) (gc := true) (p_ex rfl rfl (by decide)) rfl rfl ?_
    refine TL.stV (C := cx) (lu := Enc.cl (r9.1 : File_api)) nd ty36 rfl (j := 0) rfl rfl rfl (Cells_v (r9.1 : File_api)) rfl rfl [Enc.v (r9.1.Path : Str), Enc.v (r9.1.Version : Int), Enc.v (r9.1.Size : Int), Enc.v (r9.1.Sum : Int), Enc.v (r9.1.Serial : Int), Enc.v (r9.1.Gone : Bool), Enc.v (r9.1.Parts : (List Part_api))] rfl fun nd => ?_
    refine TL.p (C := cx) (gc := true) (p_mv rfl) rfl rfl ?_
    refine TL.nil ?_
    refine hK8 _ _ ?_
    refine TK.ret ?_
    try dsimp only [thenQ]
    exact retC [Enc.v (r9.1 : File_api), Enc.v (r9.2 : Bool)] ⟨p_ldVa (l' := Enc.cl (r9.1 : File_api)) ty36 rfl rfl nd (j := 0) rfl rfl rfl rfl (Nat.le_of_ble_eq_true rfl), p_mv rfl, trivial⟩ (by obtain rfl := some_in hX; rfl) (tup_val (allVal.mem ⟨v_val _, v_val _, trivial⟩))
  · have hX := ite_f hc hX
    refine TK.skip ?_
    refine hK6 _ _ ?_
    refine TK.seq_k fun K10 hK10 => ?_
    refine TK.seq_k fun K11 hK11 => ?_
    refine TK.reg ?_
    refine TL.p (C := cx) (gc := true) (p_mv rfl) rfl rfl ?_
    refine TL.nil ?_
    refine hK11 _ _ ?_
    refine TK.block ?_
    obtain ⟨o12, hO12, hA12⟩ := bind_some hX
    have E12 : ∀ (env : Env) (h : Hp), (∃ b15, keepE [6] env = [(6, true, .ref b15 0 7)] ∧ Nd [(b15, RV 36 [Enc.v ((Str.mk []) : Str), Enc.v ((0 : Int) : Int), Enc.v ((0 : Int) : Int), Enc.v ((0 : Int) : Int), Enc.v ((0 : Int) : Int), Enc.v (false : Bool), Enc.v (([] : (List Part_api)) : (List Part_api))])] ∧ HSub [(b15, RV 36 [Enc.v ((Str.mk []) : Str), Enc.v ((0 : Int) : Int), Enc.v ((0 : Int) : Int), Enc.v ((0 : Int) : Int), Enc.v ((0 : Int) : Int), Enc.v (false : Bool), Enc.v (([] : (List Part_api)) : (List Part_api))])] h) → X.cartridgeref10_GetFile_e12 = some r → K10 env h := by
      intro  env h hE hX
      obtain ⟨b15, henv, nd, hs⟩ := hE
      unfold X.cartridgeref10_GetFile_e12 at hX
      refine hK10 _ _ (TK.keep [6] ?_)
      rw [henv]
      refine TK.subH hs ?_
      refine TK.seq_k fun K16 hK16 => ?_
      refine TK.reg ?_
      refine TL.p (C := cx) (gc := true) (p_bld (l := [Enc.v ((Str.mk []) : Str), Enc.v ((0 : Int) : Int), Enc.v ((0 : Int) : Int), Enc.v ((0 : Int) : Int), Enc.v ((0 : Int) : Int), Enc.v (false : Bool), .nils]) ty36 rfl all36 rfl (fun _ => trivial)) rfl rfl (TL.wk (v' := Enc.v ((File_api.mk (Str.mk []) (0 : Int) (0 : Int) (0 : Int) (0 : Int) false ([] : (List Part_api))) : File_api)) (Wk_agg ⟨Wk.refl _, Wk.refl _, Wk.refl _, Wk.refl _, Wk.refl _, Wk.refl _, Wk_nil, trivial⟩) ?_)
      refine TL.stV (C := cx) (lu := Enc.cl ((File_api.mk (Str.mk []) (0 : Int) (0 : Int) (0 : Int) (0 : Int) false ([] : (List Part_api))) : File_api)) nd ty36 rfl (j := 0) rfl rfl rfl (Cells_v ((File_api.mk (Str.mk []) (0 : Int) (0 : Int) (0 : Int) (0 : Int) false ([] : (List Part_api))) : File_api)) rfl rfl [Enc.v ((File_api.mk (Str.mk []) (0 : Int) (0 : Int) (0 : Int) (0 : Int) false ([] : (List Part_api))).Path : Str), Enc.v ((File_api.mk (Str.mk []) (0 : Int) (0 : Int) (0 : Int) (0 : Int) false ([] : (List Part_api))).Version : Int), Enc.v ((File_api.mk (Str.mk []) (0 : Int) (0 : Int) (0 : Int) (0 : Int) false ([] : (List Part_api))).Size : Int), Enc.v ((File_api.mk (Str.mk []) (0 : Int) (0 : Int) (0 : Int) (0 : Int) false ([] : (List Part_api))).Sum : Int), Enc.v ((File_api.mk (Str.mk []) (0 : Int) (0 : Int) (0 : Int) (0 : Int) false ([] : (List Part_api))).Serial : Int), Enc.v ((File_api.mk (Str.mk []) (0 : Int) (0 : Int) (0 : Int) (0 : Int) false ([] : (List Part_api))).Gone : Bool), Enc.v ((File_api.mk (Str.mk []) (0 : Int) (0 : Int) (0 : Int) (0 : Int) false ([] : (List Part_api))).Parts : (List Part_api))] rfl fun nd => ?_
      refine TL.p (C := cx) (gc := true) (p_mv rfl) rfl rfl ?_
      refine TL.nil ?_
      refine hK16 _ _ ?_
      refine TK.ret ?_
      try dsimp only [thenQ]
      exact retC [Enc.v ((File_api.mk (Str.mk []) (0 : Int) (0 : Int) (0 : Int) (0 : Int) false ([] : (List Part_api))) : File_api), Enc.v (false : Bool)] ⟨p_ldVa (l' := Enc.cl ((File_api.mk (Str.mk []) (0 : Int) (0 : Int) (0 : Int) (0 : Int) false ([] : (List Part_api))) : File_api)) ty36 rfl rfl nd (j := 0) rfl rfl rfl rfl (Nat.le_of_ble_eq_true rfl), p_mv rfl, trivial⟩ (by obtain rfl := some_in hX; rfl) (tup_val (allVal.mem ⟨v_val _, v_val _, trivial⟩))
    refine TK.iter [0, 1, 2, 6, 8] (fun s env h => match s with | i14 => ∃ b13, env = [(0, true, Enc.v (l1 : (List File_api))), (1, true, Enc.v (path2 : Str)), (2, true, Enc.v (version3 : Int)), (6, true, .ref b13 0 7), (8, true, Enc.v (i14 : Int))] ∧ Nd [(b13, RV 36 [Enc.v ((Str.mk []) : Str), Enc.v ((0 : Int) : Int), Enc.v ((0 : Int) : Int), Enc.v ((0 : Int) : Int), Enc.v ((0 : Int) : Int), Enc.v (false : Bool), Enc.v (([] : (List Part_api)) : (List Part_api))])] ∧ HSub [(b13, RV 36 [Enc.v ((Str.mk []) : Str), Enc.v ((0 : Int) : Int), Enc.v ((0 : Int) : Int), Enc.v ((0 : Int) : Int), Enc.v ((0 : Int) : Int), Enc.v (false : Bool), Enc.v (([] : (List Part_api)) : (List Part_api))])] h) hO12 ⟨b5, rfl, (Nd.pick nd (is := [0]) (by decide)), (HSub.pick nd (is := [0]) (by decide))⟩ ?_
    rintro i14 env h x12x ⟨b13, rfl, nd, hs⟩ hX hR12
    refine TK.subH hs ?_
    unfold X.cartridgeref10_GetFile_s12 at hX
    try dsimp only at hX
    refine TK.seq_k fun K17 hK17 => ?_
    refine TK.seq_k fun K18 hK18 => ?_
    refine TK.reg ?_
    refine TL.p (C := cx) (gc := true) (p_mv rfl) rfl rfl ?_
    refine TL.p (C := cx) (gc := true) (p_mv rfl) rfl rfl ?_
    refine TL.p (C := cx) (gc := true) (p_lenL (xs := l1) kd31 rfl) rfl rfl ?_
    refine TL.p (C := cx) (gc := true) (p_lss rfl rfl) rfl rfl ?_
    refine TL.nil ?_
    refine hK18 _ _ ?_
    refine TK.cond (b := (decide (i14 < (l1.length : Int)))) rfl (fun hc => ?_) (fun hc => ?_)
    · have hX := ite_t hc hX
      refine TK.skip ?_
      refine hK17 _ _ ?_
      refine TK.seq_k fun K19 hK19 => ?_
      refine TK.block ?_
      refine TK.seq_k fun K20 hK20 => ?_
      refine TK.reg ?_
      refine TL.p (C := cx) (gc := true) (p_mv rfl) rfl rfl ?_
      refine TL.p (C := cx) (gc := true) (p_mv rfl) rfl rfl ?_
      obtain ⟨e21, he21, hX⟩ := bind_some hX
      refine TL.p (C := cx) (gc := true) (p_iaL (xs := l1) kd31 ty36 rfl rfl rfl (fun _ => he21)) rfl rfl ?_
      refine TL.p (C := cx) (gc := true) (p_faE fs36_0 (by decide) rfl) rfl rfl ?_
      refine TL.p (C := cx) (gc := true) (p_ldE (xs := l1) (a := e21) (e21.Path : Str) ty9 rfl rfl (fun _ => he21) rfl rfl rfl) rfl rfl ?_
      refine TL.p (C := cx) (gc := true) (p_mv rfl) rfl rfl ?_
      refine TL.p (C := cx) (gc := true) (ps_eql (s := e21.Path) (r := path2) rfl rfl) rfl rfl ?_
      refine TL.p (C := cx) (gc := true) (p_mv rfl) rfl rfl ?_
      refine TL.p (C := cx) (gc := ((e21.Path.l == path2.l))) (p_mv rfl (hg := fun e => rfl)) (gcT1 rfl) rfl ?_
      refine TL.p (C := cx) (gc := ((e21.Path.l == path2.l))) (p_mv rfl (hg := fun e => rfl)) (gcT1 rfl) rfl ?_
      obtain ⟨e22, he22, hX⟩ := bind_some hX
      refine TL.p (C := cx) (gc := ((e21.Path.l == path2.l))) (p_iaL (xs := l1) kd31 ty36 rfl rfl rfl (fun e => optG_t he22 e) (hg := fun e => ⟨e, e⟩)) (gcT1 rfl) rfl ?_
      refine TL.p (C := cx) (gc := ((e21.Path.l == path2.l))) (p_faE fs36_1 (by decide) rfl (hg := fun e => e)) (gcT1 rfl) rfl ?_
      refine TL.p (C := cx) (gc := ((e21.Path.l == path2.l))) (p_ldE (xs := l1) (a := e22) (e22.Version : Int) ty3 rfl rfl (fun e => optG_t he22 e) rfl rfl rfl (hg := fun e => e)) (gcT1 rfl) rfl ?_
      refine TL.p (C := cx) (gc := ((e21.Path.l == path2.l))) (p_mv rfl (hg := fun e => rfl)) (gcT1 rfl) rfl ?_
      refine TL.p (C := cx) (gc := ((e21.Path.l == path2.l))) (p_eql rfl rfl (hg := fun e => ⟨e, e⟩)) (gcT1 rfl) rfl ?_
      refine TL.p (C := cx) (gc := true) (p_and rfl rfl (fun e => ⟨rfl, fun h => h⟩)) rfl rfl ?_
      refine TL.nil ?_
      refine hK20 _ _ ?_
      refine TK.cond (b := ((e21.Path.l == path2.l) && (e22.Version == version3))) rfl (fun hc => ?_) (fun hc => ?_)
      · have hX := ite_t hc hX
        refine TK.seq_k fun K23 hK23 => ?_
        refine TK.seq_k fun K24 hK24 => ?_
        refine TK.reg ?_
        refine TL.p (C := cx) (gc := true) (p_mv rfl) rfl rfl ?_
        refine TL.p (C := cx) (gc := true) (p_mv rfl) rfl rfl ?_
        obtain ⟨e25, he25, hX⟩ := bind_some hX
        refine TL.p (C := cx) (gc := true) (p_iaL (xs := l1) kd31 ty36 rfl rfl rfl (fun _ => he25)) rfl rfl ?_
        refine TL.p (C := cx) (gc := true) (p_faE fs36_5 (by decide) rfl) rfl rfl ?_
        refine TL.p (C := cx) (gc := true) (p_ldE (xs := l1) (a := e25) (e25.Gone : Bool) ty4 rfl rfl (fun _ => he25) rfl rfl rfl) rfl rfl ?_
        refine TL.nil ?_
        refine hK24 _ _ ?_
        refine TK.cond (b := e25.Gone) rfl (fun hc => ?_) (fun hc => ?_)
        · have hX := ite_t hc hX
          refine TK.seq_k fun K26 hK26 => ?_
          refine TK.reg ?_
          refine TL.p (C := cx) (gc := true) (p_bld (l := [Enc.v ((Str.mk []) : Str), Enc.v ((0 : Int) : Int), Enc.v ((0 : Int) : Int), Enc.v ((0 : Int) : Int), Enc.v ((0 : Int) : Int), Enc.v (false : Bool), .nils]) ty36 rfl all36 rfl (fun _ => trivial)) rfl rfl (TL.wk (v' := Enc.v ((File_api.mk (Str.mk []) (0 : Int) (0 : Int) (0 : Int) (0 : Int) false ([] : (List Part_api))) : File_api)) (Wk_agg ⟨Wk.refl _, Wk.refl _, Wk.refl _, Wk.refl _, Wk.refl _, Wk.refl _, Wk_nil, trivial⟩) ?_)
          refine TL.stV (C := cx) (lu := Enc.cl ((File_api.mk (Str.mk []) (0 : Int) (0 : Int) (0 : Int) (0 : Int) false ([] : (List Part_api))) : File_api)) nd ty36 rfl (j := 0) rfl rfl rfl (Cells_v ((File_api.mk (Str.mk []) (0 : Int) (0 : Int) (0 : Int) (0 : Int) false ([] : (List Part_api))) : File_api)) rfl rfl [Enc.v ((File_api.mk (Str.mk []) (0 : Int) (0 : Int) (0 : Int) (0 : Int) false ([] : (List Part_api))).Path : Str), Enc.v ((File_api.mk (Str.mk []) (0 : Int) (0 : Int) (0 : Int) (0 : Int) false ([] : (List Part_api))).Version : Int), Enc.v ((File_api.mk (Str.mk []) (0 : Int) (0 : Int) (0 : Int) (0 : Int) false ([] : (List Part_api))).Size : Int), Enc.v ((File_api.mk (Str.mk []) (0 : Int) (0 : Int) (0 : Int) (0 : Int) false ([] : (List Part_api))).Sum : Int), Enc.v ((File_api.mk (Str.mk []) (0 : Int) (0 : Int) (0 : Int) (0 : Int) false ([] : (List Part_api))).Serial : Int), Enc.v ((File_api.mk (Str.mk []) (0 : Int) (0 : Int) (0 : Int) (0 : Int) false ([] : (List Part_api))).Gone : Bool), Enc.v ((File_api.mk (Str.mk []) (0 : Int) (0 : Int) (0 : Int) (0 : Int) false ([] : (List Part_api))).Parts : (List Part_api))] rfl fun nd => ?_
          refine TL.p (C := cx) (gc := true) (p_mv rfl) rfl rfl ?_
          refine TL.nil ?_
          refine hK26 _ _ ?_
          refine TK.ret ?_
          obtain rfl := hR12 _ (some_in hX).symm
          replace hX := hA12
          try dsimp only [thenQ]
          exact retC [Enc.v ((File_api.mk (Str.mk []) (0 : Int) (0 : Int) (0 : Int) (0 : Int) false ([] : (List Part_api))) : File_api), Enc.v (false : Bool)] ⟨p_ldVa (l' := Enc.cl ((File_api.mk (Str.mk []) (0 : Int) (0 : Int) (0 : Int) (0 : Int) false ([] : (List Part_api))) : File_api)) ty36 rfl rfl nd (j := 0) rfl rfl rfl rfl (Nat.le_of_ble_eq_true rfl), p_mv rfl, trivial⟩ (by obtain rfl := some_in hX; rfl) (tup_val (allVal.mem ⟨v_val _, v_val _, trivial⟩))
        · have hX := ite_f hc hX
          refine TK.skip ?_
          refine hK23 _ _ ?_
          refine TK.seq_k fun K27 hK27 => ?_
          refine TK.reg ?_
          refine TL.p (C := cx) (gc := true) (p_mv rfl) rfl rfl ?_
          refine TL.p (C := cx) (gc := true) (p_mv rfl) rfl rfl ?_
          obtain ⟨e28, he28, hX⟩ := bind_some hX
          refine TL.p (C := cx) (gc := true) (p_iaL (xs := l1) kd31 ty36 rfl rfl rfl (fun _ => he28)) rfl rfl ?_
          refine TL.p (C := cx) (gc := true) (p_ldE (xs := l1) (a := e28) (e28 : File_api) ty36 rfl rfl (fun _ => he28) rfl rfl rfl) rfl rfl ?_
          refine TL.stV (C := cx) (lu := Enc.cl (e28 : File_api)) nd ty36 rfl (j := 0) rfl rfl rfl (Cells_v (e28 : File_api)) rfl rfl [Enc.v (e28.Path : Str), Enc.v (e28.Version : Int), Enc.v (e28.Size : Int), Enc.v (e28.Sum : Int), Enc.v (e28.Serial : Int), Enc.v (e28.Gone : Bool), Enc.v (e28.Parts : (List Part_api))] rfl fun nd => ?_
          refine TL.p (C := cx) (gc := true) (p_mv rfl) rfl rfl ?_
          refine TL.nil ?_
          refine hK27 _ _ ?_
          refine TK.ret ?_
          obtain rfl := hR12 _ (some_in hX).symm
          replace hX := hA12
          try dsimp only [thenQ]
          exact retC [Enc.v (e28 : File_api), Enc.v (true : Bool)] ⟨p_ldVa (l' := Enc.cl (e28 : File_api)) ty36 rfl rfl nd (j := 0) rfl rfl rfl rfl (Nat.le_of_ble_eq_true rfl), p_mv rfl, trivial⟩ (by obtain rfl := some_in hX; rfl) (tup_val (allVal.mem ⟨v_val _, v_val _, trivial⟩))
      · have hX := ite_f hc hX
        refine TK.skip ?_
        refine hK19 _ _ ?_
        refine TK.reg ?_
        refine TL.p (C := cx) (gc := true) (p_mv rfl) rfl rfl ?_
        refine TL.p (C := cx) (gc := true) (p_add rfl rfl) rfl rfl ?_
        refine TL.p (C := cx) (gc := true) (p_mv rfl) rfl rfl ?_
        refine TL.nil ?_
        exact ⟨_, (some_in hX).symm, b13, rfl, (Nd.pick nd (is := [0]) (by decide)), (HSub.pick nd (is := [0]) (by decide))⟩
    · have hX := ite_f hc hX
      refine TK.exit ?_
      obtain rfl := hR12 _ (some_in hX).symm
      exact E12 _ _ ⟨b13, rfl, (Nd.pick nd (is := [0]) (by decide)), (HSub.pick nd (is := [0]) (by decide))⟩ hA12

/-- cartridge/cartridgeref10.SameFile -/
theorem ok_cartridgeref10_SameFile (a1 : File_api) (b2 : File_api) (r : Bool) (hX : X.cartridgeref10_SameFile a1 b2 = some r) : Fun Try.prog 22 [Enc.v (a1 : File_api), Enc.v (b2 : File_api)] (· = Enc.v (r : Bool)) := by
  refine Fun.of b22 (Nat.le_of_ble_eq_true rfl) (allVal.mem ⟨(by exact (v_val _)), (by exact (v_val _)), trivial⟩) ?_
  unfold k22
  have nd : Nd [] := Nd_nil
  unfold X.cartridgeref10_SameFile at hX
  refine TK.seq_k fun K3 hK3 => ?_
  refine TK.reg ?_
  refine TL.boxV (C := cx) (lu := [Enc.v (a1.Path : Str), Enc.v (a1.Version : Int), Enc.v (a1.Size : Int), Enc.v (a1.Sum : Int), Enc.v (a1.Serial : Int), Enc.v (a1.Gone : Bool), Enc.v (a1.Parts : (List Part_api))]) nd rfl (Cells_v (a1 : File_api)) rfl ?_
  refine TL.boxV (C := cx) (lu := [Enc.v (b2.Path : Str), Enc.v (b2.Version : Int), Enc.v (b2.Size : Int), Enc.v (b2.Sum : Int), Enc.v (b2.Serial : Int), Enc.v (b2.Gone : Bool), Enc.v (b2.Parts : (List Part_api))]) nd rfl (Cells_v (b2 : File_api)) rfl ?_
  refine TL.p (C := cx) (gc := true) (p_mv rfl) rfl rfl ?_
  refine TL.nil ?_
  refine hK3 _ _ ?_
  refine TK.seq_k fun K4 hK4 => ?_
  refine TK.seq_k fun K5 hK5 => ?_
  refine TK.reg ?_
  refine TL.p (C := cx) (gc := true) (p_faR fs36_0 (by decide) rfl) rfl rfl ?_
  refine TL.p (C := cx) (gc := true) (p_ldR (v := Enc.v (a1.Path : Str)) ty9 rfl rfl rfl rfl rfl rfl) rfl rfl ?_
  refine TL.p (C := cx) (gc := true) (p_faR fs36_0 (by decide) rfl) rfl rfl ?_
  refine TL.p (C := cx) (gc := true) (p_ldR (v := Enc.v (b2.Path : Str)) ty9 rfl rfl rfl rfl rfl rfl) rfl rfl ?_
  refine TL.p (C := cx) (gc := true) (ps_neq (s := a1.Path) (r := b2.Path) rfl rfl) rfl rfl ?_
  refine TL.p (C := cx) (gc := true) (p_mv rfl) rfl rfl ?_
  refine TL.p (C := cx) (gc := (!((!(a1.Path.l == b2.Path.l))))) (p_faR fs36_1 (by decide) rfl (hg := fun e => rfl)) (gcF1 rfl) rfl ?_
  refine TL.p (C := cx) (gc := (!((!(a1.Path.l == b2.Path.l))))) (p_ldR (v := Enc.v (a1.Version : Int)) ty3 rfl rfl rfl rfl rfl rfl (hg := fun e => e)) (gcF1 rfl) rfl ?_
  refine TL.p (C := cx) (gc := (!((!(a1.Path.l == b2.Path.l))))) (p_faR fs36_1 (by decide) rfl (hg := fun e => rfl)) (gcF1 rfl) rfl ?_
  refine TL.p (C := cx) (gc := (!((!(a1.Path.l == b2.Path.l))))) (p_ldR (v := Enc.v (b2.Version : Int)) ty3 rfl rfl rfl rfl rfl rfl (hg := fun e => e)) (gcF1 rfl) rfl ?_
  refine TL.p (C := cx) (gc := (!((!(a1.Path.l == b2.Path.l))))) (p_neq rfl rfl (hg := fun e => ⟨e, e⟩)) (gcF1 rfl) rfl ?_
  refine TL.p (C := cx) (gc := true) (p_or rfl rfl (fun e => ⟨rfl, fun h => (not_t h)⟩)) rfl rfl ?_
  refine TL.p (C := cx) (gc := true) (p_mv rfl) rfl rfl ?_
  refine TL.p (C := cx) (gc := (!(((!(a1.Path.l == b2.Path.l)) || (a1.Version != b2.Version))))) (p_faR fs36_2 (by decide) rfl (hg := fun e => rfl)) (gcF1 rfl) rfl ?_
  refine TL.p (C := cx) (gc := (!(((!(a1.Path.l == b2.Path.l)) || (a1.Version != b2.Version))))) (p_ldR (v := Enc.v (a1.Size : Int)) ty3 rfl rfl rfl rfl rfl rfl (hg := fun e => e)) (gcF1 rfl) rfl ?_
  refine TL.p (C := cx) (gc := (!(((!(a1.Path.l == b2.Path.l)) || (a1.Version != b2.Version))))) (p_faR fs36_2 (by decide) rfl (hg := fun e => rfl)) (gcF1 rfl) rfl ?_
  refine TL.p (C := cx) (gc := (!(((!(a1.Path.l == b2.Path.l)) || (a1.Version != b2.Version))))) (p_ldR (v := Enc.v (b2.Size : Int)) ty3 rfl rfl rfl rfl rfl rfl (hg := fun e => e)) (gcF1 rfl) rfl ?_
  refine TL.p (C := cx) (gc := (!(((!(a1.Path.l == b2.Path.l)) || (a1.Version != b2.Version))))) (p_neq rfl rfl (hg := fun e => ⟨e, e⟩)) (gcF1 rfl) rfl ?_
  refine TL.p (C := cx) (gc := true) (p_or rfl rfl (fun e => ⟨rfl, fun h => (not_t h)⟩)) rfl rfl ?_
  refine TL.p (C := cx) (gc := true) (p_mv rfl) rfl rfl ?_
  refine TL.p (C := cx) (gc := (!((((!(a1.Path.l == b2.Path.l)) || (a1.Version != b2.Version)) || (a1.Size != b2.Size))))) (p_faR fs36_3 (by decide) rfl (hg := fun e => rfl)) (gcF1 rfl) rfl ?_
  refine TL.p (C := cx) (gc := (!((((!(a1.Path.l == b2.Path.l)) || (a1.Version != b2.Version)) || (a1.Size != b2.Size))))) (p_ldR (v := Enc.v (a1.Sum : Int)) ty3 rfl rfl rfl rfl rfl rfl (hg := fun e => e)) (gcF1 rfl) rfl ?_
  refine TL.p (C := cx) (gc := (!((((!(a1.Path.l == b2.Path.l)) || (a1.Version != b2.Version)) || (a1.Size != b2.Size))))) (p_faR fs36_3 (by decide) rfl (hg := fun e => rfl)) (gcF1 rfl) rfl ?_
  refine TL.p (C := cx) (gc := (!((((!(a1.Path.l == b2.Path.l)) || (a1.Version != b2.Version)) || (a1.Size != b2.Size))))) (p_ldR (v := Enc.v (b2.Sum : Int)) ty3 rfl rfl rfl rfl rfl rfl (hg := fun e => e)) (gcF1 rfl) rfl ?_
  refine TL.p (C := cx) (gc := (!((((!(a1.Path.l == b2.Path.l)) || (a1.Version != b2.Version)) || (a1.Size != b2.Size))))) (p_neq rfl rfl (hg := fun e => ⟨e, e⟩)) (gcF1 rfl) rfl ?_
  refine TL.p (C := cx) (gc := true) (p_or rfl rfl (fun e => ⟨rfl, fun h => (not_t h)⟩)) rfl rfl ?_
  refine TL.p (C := cx) (gc := true) (p_mv rfl) rfl rfl ?_
  refine TL.p (C := cx) (gc := (!(((((!(a1.Path.l == b2.Path.l)) || (a1.Version != b2.Version)) || (a1.Size != b2.Size)) || (a1.Sum != b2.Sum))))) (p_faR fs36_4 (by decide) rfl (hg := fun e => rfl)) (gcF1 rfl) rfl ?_
  refine TL.p (C := cx) (gc := (!(((((!(a1.Path.l == b2.Path.l)) || (a1.Version != b2.Version)) || (a1.Size != b2.Size)) || (a1.Sum != b2.Sum))))) (p_ldR (v := Enc.v (a1.Serial : Int)) ty3 rfl rfl rfl rfl rfl rfl (hg := fun e => e)) (gcF1 rfl) rfl ?_
  refine TL.p (C := cx) (gc := (!(((((!(a1.Path.l == b2.Path.l)) || (a1.Version != b2.Version)) || (a1.Size != b2.Size)) || (a1.Sum != b2.Sum))))) (p_faR fs36_4 (by decide) rfl (hg := fun e => rfl)) (gcF1 rfl) rfl ?_
  refine TL.p (C := cx) (gc := (!(((((!(a1.Path.l == b2.Path.l)) || (a1.Version != b2.Version)) || (a1.Size != b2.Size)) || (a1.Sum != b2.Sum))))) (p_ldR (v := Enc.v (b2.Serial : Int)) ty3 rfl rfl rfl rfl rfl rfl (hg := fun e => e)) (gcF1 rfl) rfl ?_
  refine TL.p (C := cx) (gc := (!(((((!(a1.Path.l == b2.Path.l)) || (a1.Version != b2.Version)) || (a1.Size != b2.Size)) || (a1.Sum != b2.Sum))))) (p_neq rfl rfl (hg := fun e => ⟨e, e⟩)) (gcF1 rfl) rfl ?_
  refine TL.p (C := cx) (gc := true) (p_or rfl rfl (fun e => ⟨rfl, fun h => (not_t h)⟩)) rfl rfl ?_
  refine TL.p (C := cx) (gc := true) (p_mv rfl) rfl rfl ?_
  refine TL.p (C := cx) (gc := (!((((((!(a1.Path.l == b2.Path.l)) || (a1.Version != b2.Version)) || (a1.Size != b2.Size)) || (a1.Sum != b2.Sum)) || (a1.Serial != b2.Serial))))) (p_faR fs36_5 (by decide) rfl (hg := fun e => rfl)) (gcF1 rfl) rfl ?_
  refine TL.p (C := cx) (gc := (!((((((!(a1.Path.l == b2.Path.l)) || (a1.Version != b2.Version)) || (a1.Size != b2.Size)) || (a1.Sum != b2.Sum)) || (a1.Serial != b2.Serial))))) (p_ldR (v := Enc.v (a1.Gone : Bool)) ty4 rfl rfl rfl rfl rfl rfl (hg := fun e => e)) (gcF1 rfl) rfl ?_
  refine TL.p (C := cx) (gc := (!((((((!(a1.Path.l == b2.Path.l)) || (a1.Version != b2.Version)) || (a1.Size != b2.Size)) || (a1.Sum != b2.Sum)) || (a1.Serial != b2.Serial))))) (p_faR fs36_5 (by decide) rfl (hg := fun e => rfl)) (gcF1 rfl) rfl ?_
  refine TL.p (C := cx) (gc := (!((((((!(a1.Path.l == b2.Path.l)) || (a1.Version != b2.Version)) || (a1.Size != b2.Size)) || (a1.Sum != b2.Sum)) || (a1.Serial != b2.Serial))))) (p_ldR (v := Enc.v (b2.Gone : Bool)) ty4 rfl rfl rfl rfl rfl rfl (hg := fun e => e)) (gcF1 rfl) rfl ?_
  refine TL.p (C := cx) (gc := (!((((((!(a1.Path.l == b2.Path.l)) || (a1.Version != b2.Version)) || (a1.Size != b2.Size)) || (a1.Sum != b2.Sum)) || (a1.Serial != b2.Serial))))) (p_neB kd4 rfl rfl (hg := fun e => ⟨e, e⟩)) (gcF1 rfl) rfl ?_
  refine TL.p (C := cx) (gc := true) (p_or rfl rfl (fun e => ⟨rfl, fun h => (not_t h)⟩)) rfl rfl ?_
  refine TL.p (C := cx) (gc := true) (p_mv rfl) rfl rfl ?_
  refine TL.p (C := cx) (gc := (!(((((((!(a1.Path.l == b2.Path.l)) || (a1.Version != b2.Version)) || (a1.Size != b2.Size)) || (a1.Sum != b2.Sum)) || (a1.Serial != b2.Serial)) || (a1.Gone != b2.Gone))))) (p_faR fs36_6 (by decide) rfl (hg := fun e => rfl)) (gcF1 rfl) rfl ?_
  refine TL.p (C := cx) (gc := (!(((((((!(a1.Path.l == b2.Path.l)) || (a1.Version != b2.Version)) || (a1.Size != b2.Size)) || (a1.Sum != b2.Sum)) || (a1.Serial != b2.Serial)) || (a1.Gone != b2.Gone))))) (p_ldR (v := Enc.v (a1.Parts : (List Part_api))) ty34 rfl rfl rfl rfl rfl rfl (hg := fun e => e)) (gcF1 rfl) rfl ?_
  refine TL.p (C := cx) (gc := (!(((((((!(a1.Path.l == b2.Path.l)) || (a1.Version != b2.Version)) || (a1.Size != b2.Size)) || (a1.Sum != b2.Sum)) || (a1.Serial != b2.Serial)) || (a1.Gone != b2.Gone))))) (p_lenL (xs := a1.Parts) kd34 rfl (hg := fun e => e)) (gcF1 rfl) rfl ?_
  refine TL.p (C := cx) (gc := (!(((((((!(a1.Path.l == b2.Path.l)) || (a1.Version != b2.Version)) || (a1.Size != b2.Size)) || (a1.Sum != b2.Sum)) || (a1.Serial != b2.Serial)) || (a1.Gone != b2.Gone))))) (p_faR fs36_6 (by decide) rfl (hg := fun e => rfl)) (gcF1 rfl) rfl ?_
  refine TL.p (C := cx) (gc := (!(((((((!(a1.Path.l == b2.Path.l)) || (a1.Version != b2.Version)) || (a1.Size != b2.Size)) || (a1.Sum != b2.Sum)) || (a1.Serial != b2.Serial)) || (a1.Gone != b2.Gone))))) (p_ldR (v := Enc.v (b2.Parts : (List Part_api))) ty34 rfl rfl rfl rfl rfl rfl (hg := fun e => e)) (gcF1 rfl) rfl ?_
  refine TL.p (C := cx) (gc := (!(((((((!(a1.Path.l == b2.Path.l)) || (a1.Version != b2.Version)) || (a1.Size != b2.Size)) || (a1.Sum != b2.Sum)) || (a1.Serial != b2.Serial)) || (a1.Gone != b2.Gone))))) (p_lenL (xs := b2.Parts) kd34 rfl (hg := fun e => e)) (gcF1 rfl) rfl ?_
  refine TL.p (C := cx) (gc := (!(((((((!(a1.Path.l == b2.Path.l)) || (a1.Version != b2.Version)) || (a1.Size != b2.Size)) || (a1.Sum != b2.Sum)) || (a1.Serial != b2.Serial)) || (a1.Gone != b2.Gone))))) (p_neq rfl rfl (hg := fun e => ⟨e, e⟩)) (gcF1 rfl) rfl ?_
  refine TL.p (C := cx) (gc := true) (p_or rfl rfl (fun e => ⟨rfl, fun h => (not_t h)⟩)) rfl rfl ?_
  refine TL.nil ?_
  refine hK5 _ _ ?_
  refine TK.cond (b := (((((((!(a1.Path.l == b2.Path.l)) || (a1.Version != b2.Version)) || (a1.Size != b2.Size)) || (a1.Sum != b2.Sum)) || (a1.Serial != b2.Serial)) || (a1.Gone != b2.Gone)) || ((a1.Parts.length : Int) != (b2.Parts.length : Int)))) rfl (fun hc => ?_) (fun hc => ?_)
  · have hX := ite_t hc hX
    refine TK.seq_k fun K6 hK6 => ?_
    refine TK.reg ?_
    refine TL.p (C := cx) (gc := true) (p_mv rfl) rfl rfl ?_
    refine TL.nil ?_
    refine hK6 _ _ ?_
    refine TK.ret ?_
    try dsimp only [thenQ]
    exact ret1 (v := Enc.v (false : Bool)) rfl (by obtain rfl := some_in hX; rfl) (v_val _)
  · have hX := ite_f hc hX
    refine TK.skip ?_
    refine hK4 _ _ ?_
    refine TK.seq_k fun K7 hK7 => ?_
    refine TK.seq_k fun K8 hK8 => ?_
    refine TK.reg ?_
    refine TL.p (C := cx) (gc := true) (p_mv rfl) rfl rfl ?_
    refine TL.nil ?_
    refine hK8 _ _ ?_
    refine TK.block ?_
    obtain ⟨o9, hO9, hA9⟩ := bind_some hX
    have E9 : ∀ (env : Env) (h : Hp), (∃ _u : Unit, keepE [] env = [] ∧ Nd [] ∧ HSub [] h) → X.cartridgeref10_SameFile_e9 = some r → K7 env h := by
      intro  env h hE hX
      obtain ⟨_u, henv, nd, hs⟩ := hE
      unfold X.cartridgeref10_SameFile_e9 at hX
      refine hK7 _ _ (TK.keep [] ?_)
      rw [henv]
      refine TK.subH hs ?_
      refine TK.seq_k fun K11 hK11 => ?_
      refine TK.reg ?_
      refine TL.p (C := cx) (gc := true) (p_mv rfl) rfl rfl ?_
      refine TL.nil ?_
      refine hK11 _ _ ?_
      refine TK.ret ?_
      try dsimp only [thenQ]
      exact ret1 (v := Enc.v (true : Bool)) rfl (by obtain rfl := some_in hX; rfl) (v_val _)
    refine TK.iter [2, 3, 5] (fun s env h => match s with | i10 => ∃ _u : Unit, env = [(2, true, .vref (ofL [Enc.v (a1.Path : Str), Enc.v (a1.Version : Int), Enc.v (a1.Size : Int), Enc.v (a1.Sum : Int), Enc.v (a1.Serial : Int), Enc.v (a1.Gone : Bool), Enc.v (a1.Parts : (List Part_api))]) 7 0), (3, true, .vref (ofL [Enc.v (b2.Path : Str), Enc.v (b2.Version : Int), Enc.v (b2.Size : Int), Enc.v (b2.Sum : Int), Enc.v (b2.Serial : Int), Enc.v (b2.Gone : Bool), Enc.v (b2.Parts : (List Part_api))]) 7 0), (5, true, Enc.v (i10 : Int))] ∧ Nd [] ∧ HSub [] h) hO9 ⟨(), rfl, Nd_nil, HSub.refl _⟩ ?_
    rintro i10 env h x9x ⟨_u, rfl, nd, hs⟩ hX hR9
    refine TK.subH hs ?_
    unfold X.cartridgeref10_SameFile_s9 at hX
    try dsimp only at hX
    refine TK.seq_k fun K12 hK12 => ?_
    refine TK.seq_k fun K13 hK13 => ?_
    refine TK.reg ?_
    refine TL.p (C := cx) (gc := true) (p_mv rfl) rfl rfl ?_
    refine TL.p (C := cx) (gc := true) (p_faR fs36_6 (by decide) rfl) rfl rfl ?_
    refine TL.p (C := cx) (gc := true) (p_ldR (v := Enc.v (a1.Parts : (List Part_api))) ty34 rfl rfl rfl rfl rfl rfl) rfl rfl ?_
    refine TL.p (C := cx) (gc := true) (p_lenL (xs := a1.Parts) kd34 rfl) rfl rfl ?_
    refine TL.p (C := cx) (gc := true) (p_lss rfl rfl) rfl rfl ?_
    refine TL.nil ?_
    refine hK13 _ _ ?_
    refine TK.cond (b := (decide (i10 < (a1.Parts.length : Int)))) rfl (fun hc => ?_) (fun hc => ?_)
    · have hX := ite_t hc hX
      refine TK.skip ?_
      refine hK12 _ _ ?_
      refine TK.seq_k fun K14 hK14 => ?_
      refine TK.block ?_
      refine TK.seq_k fun K15 hK15 => ?_
      have ndS : Nd [] := Nd.pick nd (is := []) (by decide)
      refine TK.drwX (h := []) (hS := []) [(0, 0), (0, 1), (0, 2), (0, 3), (0, 4), (0, 5), (0, 6), (0, 7), (0, 8), (0, 9), (0, 10)] mixed (by kernel_rfl) (HSub_app nd) ?_
      refine DR0 (gc := true) rfl (vok_p (C := cx) (p_faR fs36_6 (by decide) rfl)) rfl rfl ?_
      refine DR0 (gc := true) rfl (vok_p (C := cx) (p_ldR (v := Enc.v (a1.Parts : (List Part_api))) ty34 rfl rfl rfl rfl rfl rfl)) rfl rfl ?_
      refine DR0 (gc := true) rfl (vok_p (C := cx) (p_mv rfl)) rfl rfl ?_
      obtain ⟨e16, he16, hX⟩ := bind_some hX
      refine DR0 (gc := true) rfl (vok_p (C := cx) (p_iaL (xs := a1.Parts) kd34 ty87 rfl rfl rfl (fun _ => he16))) rfl rfl ?_
      refine DR0 (gc := true) rfl (vok_p (C := cx) (p_ldE (xs := a1.Parts) (a := e16) (e16 : Part_api) ty87 rfl rfl (fun _ => he16) rfl rfl rfl)) rfl rfl ?_
      refine DR0 (gc := true) rfl (vok_p (C := cx) (p_faR fs36_6 (by decide) rfl)) rfl rfl ?_
      refine DR0 (gc := true) rfl (vok_p (C := cx) (p_ldR (v := Enc.v (b2.Parts : (List Part_api))) ty34 rfl rfl rfl rfl rfl rfl)) rfl rfl ?_
      refine DR0 (gc := true) rfl (vok_p (C := cx) (p_mv rfl)) rfl rfl ?_
      obtain ⟨e17, he17, hX⟩ := bind_some hX
      refine DR0 (gc := true) rfl (vok_p (C := cx) (p_iaL (xs := b2.Parts) kd34 ty87 rfl rfl rfl (fun _ => he17))) rfl rfl ?_
      refine DR0 (gc := true) rfl (vok_p (C := cx) (p_ldE (xs := b2.Parts) (a := e17) (e17 : Part_api) ty87 rfl rfl (fun _ => he17) rfl rfl rfl)) rfl rfl ?_
      refine DR0 (gc := true) rfl (vok_eqG (C := cx) (gc := true) (op := .neq) (.inr rfl) kd87 rfl rfl (eqN87 e16 e17)) rfl rfl ?_
      refine DRend ?_
      refine hK15 _ _ ?_
      refine TK.cond (b := (!(e16 == e17))) rfl (fun hc => ?_) (fun hc => ?_)
      · have hX := ite_t hc hX
        refine TK.seq_k fun K18 hK18 => ?_
        refine TK.reg ?_
        refine TL.p (C := cx) (gc := true) (p_mv rfl) rfl rfl ?_
        refine TL.nil ?_
        refine hK18 _ _ ?_
        refine TK.ret ?_
        obtain rfl := hR9 _ (some_in hX).symm
        replace hX := hA9
        try dsimp only [thenQ]
        exact ret1 (v := Enc.v (false : Bool)) rfl (by obtain rfl := some_in hX; rfl) (v_val _)
      · have hX := ite_f hc hX
        refine TK.skip ?_
        refine hK14 _ _ ?_
        refine TK.reg ?_
        refine TL.p (C := cx) (gc := true) (p_mv rfl) rfl rfl ?_
        refine TL.p (C := cx) (gc := true) (p_add rfl rfl) rfl rfl ?_
        refine TL.p (C := cx) (gc := true) (p_mv rfl) rfl rfl ?_
        refine TL.nil ?_
        exact ⟨_, (some_in hX).symm, (), rfl, Nd_nil, HSub.refl _⟩
    · have hX := ite_f hc hX
      refine TK.exit ?_
      obtain rfl := hR9 _ (some_in hX).symm
      exact E9 _ _ ⟨(), rfl, Nd_nil, HSub.refl _⟩ hA9

/-- cartridge/cartridgeref10.Next -/
theorem ok_cartridgeref10_Next (l1 : (List File_api)) (path2 : Str) (r : Int) (hX : X.cartridgeref10_Next l1 path2 = some r) : Fun Try.prog 24 [Enc.v (l1 : (List File_api)), Enc.v (path2 : Str)] (· = Enc.v (r : Int)) := by
  refine Fun.of b24 (Nat.le_of_ble_eq_true rfl) (allVal.mem ⟨(by exact (v_val _)), (by exact (v_val _)), trivial⟩) ?_
  unfold k24
  have nd : Nd [] := Nd_nil
  unfold X.cartridgeref10_Next at hX
  refine TK.seq_k fun K3 hK3 => ?_
  refine TK.reg ?_
  refine TL.p (C := cx) (gc := true) (p_mv rfl) rfl rfl ?_
  refine TL.nil ?_
  refine hK3 _ _ ?_
  refine TK.seq_k fun K4 hK4 => ?_
  refine TK.reg ?_
  refine TL.p (C := cx) (gc := true) (p_mv rfl) rfl rfl ?_
  refine TL.nil ?_
  refine hK4 _ _ ?_
  refine TK.seq_k fun K5 hK5 => ?_
  refine TK.seq_k fun K6 hK6 => ?_
  refine TK.reg ?_
  refine TL.p (C := cx) (gc := true) (p_mv rfl) rfl rfl ?_
  refine TL.nil ?_
  refine hK6 _ _ ?_
  refine TK.block ?_
  obtain ⟨o7, hO7, hA7⟩ := bind_some hX
  have E7 : ∀ (at10 : Int) (env : Env) (h : Hp), (∃ _u : Unit, keepE [0, 5] env = [(0, true, Enc.v (l1 : (List File_api))), (5, true, Enc.v (at10 : Int))] ∧ Nd [] ∧ HSub [] h) → X.cartridgeref10_Next_e7 l1 at10 = some r → K5 env h := by
    intro at10 env h hE hX
    obtain ⟨_u, henv, nd, hs⟩ := hE
    unfold X.cartridgeref10_Next_e7 at hX
    refine hK5 _ _ (TK.keep [0, 5] ?_)
    rw [henv]
    refine TK.subH hs ?_
    refine TK.seq_k fun K11 hK11 => ?_
    refine TK.seq_k fun K12 hK12 => ?_
    refine TK.reg ?_
    refine TL.p (C := cx) (gc := true) (p_mv rfl) rfl rfl ?_
    refine TL.p (C := cx) (gc := true) (p_lss rfl rfl) rfl rfl ?_
    refine TL.nil ?_
    refine hK12 _ _ ?_
    refine TK.cond (b := (decide (at10 < (0 : Int)))) rfl (fun hc => ?_) (fun hc => ?_)
    · have hX := ite_t hc hX
      refine TK.seq_k fun K13 hK13 => ?_
      refine TK.reg ?_
      refine TL.p (C := cx) (gc := true) (p_mv rfl) rfl rfl ?_
      refine TL.nil ?_
      refine hK13 _ _ ?_
      refine TK.ret ?_
      try dsimp only [thenQ]
      exact ret1 (v := Enc.v ((1 : Int) : Int)) rfl (by obtain rfl := some_in hX; rfl) (v_val _)
    · have hX := ite_f hc hX
      refine TK.skip ?_
      refine hK11 _ _ ?_
      refine TK.seq_k fun K14 hK14 => ?_
      refine TK.reg ?_
      refine TL.p (C := cx) (gc := true) (p_mv rfl) rfl rfl ?_
      refine TL.p (C := cx) (gc := true) (p_mv rfl) rfl rfl ?_
      obtain ⟨e15, he15, hX⟩ := bind_some hX
      refine TL.p (C := cx) (gc := true) (p_iaL (xs := l1) kd31 ty36 rfl rfl rfl (fun _ => he15)) rfl rfl ?_
      refine TL.p (C := cx) (gc := true) (p_faE fs36_1 (by decide) rfl) rfl rfl ?_
      refine TL.p (C := cx) (gc := true) (p_ldE (xs := l1) (a := e15) (e15.Version : Int) ty3 rfl rfl (fun _ => he15) rfl rfl rfl) rfl rfl ?_
      refine TL.p (C := cx) (gc := true) (p_add rfl rfl) rfl rfl ?_
      refine TL.p (C := cx) (gc := true) (p_mv rfl) rfl rfl ?_
      refine TL.nil ?_
      refine hK14 _ _ ?_
      refine TK.ret ?_
      try dsimp only [thenQ]
      exact ret1 (v := Enc.v ((wr (e15.Version + (1 : Int))) : Int)) rfl (by obtain rfl := some_in hX; rfl) (v_val _)
  refine TK.iter [0, 1, 5, 6] (fun s env h => match s with | (at8, i9) => ∃ _u : Unit, env = [(0, true, Enc.v (l1 : (List File_api))), (1, true, Enc.v (path2 : Str)), (5, true, Enc.v (at8 : Int)), (6, true, Enc.v (i9 : Int))] ∧ Nd [] ∧ HSub [] h) hO7 ⟨(), rfl, Nd_nil, HSub.refl _⟩ ?_
  rintro ⟨at8, i9⟩ env h x7x ⟨_u, rfl, nd, hs⟩ hX hR7
  refine TK.subH hs ?_
  unfold X.cartridgeref10_Next_s7 at hX
  try dsimp only at hX
  refine TK.seq_k fun K16 hK16 => ?_
  refine TK.seq_k fun K17 hK17 => ?_
  refine TK.reg ?_
  refine TL.p (C := cx) (gc := true) (p_mv rfl) rfl rfl ?_
  refine TL.p (C := cx) (gc := true) (p_mv rfl) rfl rfl ?_
  refine TL.p (C := cx) (gc := true) (p_lenL (xs := l1) kd31 rfl) rfl rfl ?_
  refine TL.p (C := cx) (gc := true) (p_lss rfl rfl) rfl rfl ?_
  refine TL.nil ?_
  refine hK17 _ _ ?_
  refine TK.cond (b := (decide (i9 < (l1.length : Int)))) rfl (fun hc => ?_) (fun hc => ?_)
  · have hX := ite_t hc hX
    refine TK.skip ?_
    refine hK16 _ _ ?_
    refine TK.seq_k fun K18 hK18 => ?_
    have J18 : ∀ (at19 : Int) (env : Env) (h : Hp), (∃ _u : Unit, keepE [0, 1, 5, 6] env = [(0, true, Enc.v (l1 : (List File_api))), (1, true, Enc.v (path2 : Str)), (5, true, Enc.v (at19 : Int)), (6, true, Enc.v (i9 : Int))] ∧ Nd [] ∧ HSub [] h) → X.cartridgeref10_Next_j18 i9 at19 = some x7x → K18 env h := by
      intro at19 env h hE hX
      obtain ⟨_u, henv, nd, hs⟩ := hE
      unfold X.cartridgeref10_Next_j18 at hX
      refine hK18 _ _ (TK.keep [0, 1, 5, 6] ?_)
      rw [henv]
      refine TK.subH hs ?_
      refine TK.reg ?_
      refine TL.p (C := cx) (gc := true) (p_mv rfl) rfl rfl ?_
      refine TL.p (C := cx) (gc := true) (p_add rfl rfl) rfl rfl ?_
      refine TL.p (C := cx) (gc := true) (p_mv rfl) rfl rfl ?_
      refine TL.nil ?_
      exact ⟨_, (some_in hX).symm, (), rfl, Nd_nil, HSub.refl _⟩
    refine TK.block ?_
    refine TK.seq_k fun K20 hK20 => ?_
    have ndS : Nd [] := Nd.pick nd (is := []) (by decide)
    refine TK.drwX (h := []) (hS := []) [(0, 0), (0, 1), (0, 2), (0, 3), (0, 4), (0, 5), (0, 6), (0, 7), (0, 8), (0, 9), (0, 10), (0, 11), (0, 12), (0, 13), (0, 14), (0, 15), (0, 16), (0, 17), (0, 18), (0, 19), (0, 20), (0, 21), (0, 22), (0, 23)] mixed (by kernel_rfl) (HSub_app nd) ?_
    refine DR0 (gc := true) rfl (vok_p (C := cx) (p_mv rfl)) rfl rfl ?_
    refine DR0 (gc := true) rfl (vok_p (C := cx) (p_mv rfl)) rfl rfl ?_
    obtain ⟨e21, he21, hX⟩ := bind_some hX
    refine DR0 (gc := true) rfl (vok_p (C := cx) (p_iaL (xs := l1) kd31 ty36 rfl rfl rfl (fun _ => he21))) rfl rfl ?_
    refine DR0 (gc := true) rfl (vok_p (C := cx) (p_faE fs36_0 (by decide) rfl)) rfl rfl ?_
    refine DR0 (gc := true) rfl (vok_p (C := cx) (p_ldE (xs := l1) (a := e21) (e21.Path : Str) ty9 rfl rfl (fun _ => he21) rfl rfl rfl)) rfl rfl ?_
    refine DR0 (gc := true) rfl (vok_p (C := cx) (p_mv rfl)) rfl rfl ?_
    refine DR0 (gc := true) rfl (vok_p (C := cx) (ps_eql (s := e21.Path) (r := path2) rfl rfl)) rfl rfl ?_
    refine DR0 (gc := true) rfl (vok_p (C := cx) (p_mv rfl)) rfl rfl ?_
    refine DR0 (gc := ((e21.Path.l == path2.l))) rfl (vok_p (C := cx) (p_mv rfl (hg := fun e => rfl))) (gcT1 rfl) rfl ?_
    refine DR0 (gc := ((e21.Path.l == path2.l))) rfl (vok_p (C := cx) (p_lss rfl rfl (hg := fun e => ⟨e, rfl⟩))) (gcT1 rfl) rfl ?_
    refine DR0 (gc := ((e21.Path.l == path2.l))) rfl (vok_p (C := cx) (p_mv rfl (hg := fun e => e))) (gcT1 rfl) rfl ?_
    refine DR0 (gc := (((e21.Path.l == path2.l)) && (!((decide (at8 < (0 : Int))))))) rfl (vok_p (C := cx) (p_mv rfl (hg := fun e => rfl))) (gcF rfl) rfl ?_
    refine DR0 (gc := (((e21.Path.l == path2.l)) && (!((decide (at8 < (0 : Int))))))) rfl (vok_p (C := cx) (p_mv rfl (hg := fun e => rfl))) (gcF rfl) rfl ?_
    obtain ⟨e22, he22, hX⟩ := bind_some hX
    refine DR0 (gc := (((e21.Path.l == path2.l)) && (!((decide (at8 < (0 : Int))))))) rfl (vok_p (C := cx) (p_iaL (xs := l1) kd31 ty36 rfl rfl rfl (fun e => optG_t he22 e) (hg := fun e => ⟨e, e⟩))) (gcF rfl) rfl ?_
    refine DR0 (gc := (((e21.Path.l == path2.l)) && (!((decide (at8 < (0 : Int))))))) rfl (vok_p (C := cx) (p_faE fs36_1 (by decide) rfl (hg := fun e => e))) (gcF rfl) rfl ?_
    refine DR0 (gc := (((e21.Path.l == path2.l)) && (!((decide (at8 < (0 : Int))))))) rfl (vok_p (C := cx) (p_ldE (xs := l1) (a := e22) (e22.Version : Int) ty3 rfl rfl (fun e => optG_t he22 e) rfl rfl rfl (hg := fun e => e))) (gcF rfl) rfl ?_
    refine DR0 (gc := (((e21.Path.l == path2.l)) && (!((decide (at8 < (0 : Int))))))) rfl (vok_p (C := cx) (p_mv rfl (hg := fun e => rfl))) (gcF rfl) rfl ?_
    refine DR0 (gc := (((e21.Path.l == path2.l)) && (!((decide (at8 < (0 : Int))))))) rfl (vok_p (C := cx) (p_mv rfl (hg := fun e => rfl))) (gcF rfl) rfl ?_
    obtain ⟨e23, he23, hX⟩ := bind_some hX
    refine DR0 (gc := (((e21.Path.l == path2.l)) && (!((decide (at8 < (0 : Int))))))) rfl (vok_p (C := cx) (p_iaL (xs := l1) kd31 ty36 rfl rfl rfl (fun e => optG_t he23 e) (hg := fun e => ⟨e, e⟩))) (gcF rfl) rfl ?_
    refine DR0 (gc := (((e21.Path.l == path2.l)) && (!((decide (at8 < (0 : Int))))))) rfl (vok_p (C := cx) (p_faE fs36_1 (by decide) rfl (hg := fun e => e))) (gcF rfl) rfl ?_
    refine DR0 (gc := (((e21.Path.l == path2.l)) && (!((decide (at8 < (0 : Int))))))) rfl (vok_p (C := cx) (p_ldE (xs := l1) (a := e23) (e23.Version : Int) ty3 rfl rfl (fun e => optG_t he23 e) rfl rfl rfl (hg := fun e => e))) (gcF rfl) rfl ?_
    refine DR0 (gc := (((e21.Path.l == path2.l)) && (!((decide (at8 < (0 : Int))))))) rfl (vok_p (C := cx) (p_gtr rfl rfl (hg := fun e => ⟨e, e⟩))) (gcF rfl) rfl ?_
    refine DR0 (gc := ((e21.Path.l == path2.l))) rfl (vok_p (C := cx) (p_or rfl rfl (fun e => ⟨e, fun h => (and_i e (not_t h))⟩))) (gcT1 rfl) rfl ?_
    refine DR0 (gc := true) rfl (vok_p (C := cx) (p_and rfl rfl (fun e => ⟨rfl, fun h => h⟩))) rfl rfl ?_
    refine DRend ?_
    refine hK20 _ _ ?_
    refine TK.cond (b := ((e21.Path.l == path2.l) && ((decide (at8 < (0 : Int))) || (decide (e22.Version > e23.Version))))) rfl (fun hc => ?_) (fun hc => ?_)
    · have hX := ite_t hc hX
      refine TK.reg ?_
      refine TL.p (C := cx) (gc := true) (p_mv rfl) rfl rfl ?_
      refine TL.p (C := cx) (gc := true) (p_mv rfl) rfl rfl ?_
      refine TL.nil ?_
      exact J18 i9 _ _ ⟨(), rfl, Nd_nil, HSub.refl _⟩ hX
    · have hX := ite_f hc hX
      refine TK.skip ?_
      exact J18 at8 _ _ ⟨(), rfl, Nd_nil, HSub.refl _⟩ hX
  · have hX := ite_f hc hX
    refine TK.exit ?_
    obtain rfl := hR7 _ (some_in hX).symm
    exact E7 at8 _ _ ⟨(), rfl, Nd_nil, HSub.refl _⟩ hA7

/-- cartridge/cartridgeref10.Serial -/
theorem ok_cartridgeref10_Serial (l1 : (List File_api)) (r : Int) (hX : X.cartridgeref10_Serial l1 = some r) : Fun Try.prog 26 [Enc.v (l1 : (List File_api))] (· = Enc.v (r : Int)) := by
  refine Fun.of b26 (Nat.le_of_ble_eq_true rfl) (allVal.mem ⟨(by exact (v_val _)), trivial⟩) ?_
  unfold k26
  have nd : Nd [] := Nd_nil
  unfold X.cartridgeref10_Serial at hX
  refine TK.seq_k fun K2 hK2 => ?_
  refine TK.reg ?_
  refine TL.p (C := cx) (gc := true) (p_mv rfl) rfl rfl ?_
  refine TL.nil ?_
  refine hK2 _ _ ?_
  refine TK.seq_k fun K3 hK3 => ?_
  refine TK.reg ?_
  refine TL.p (C := cx) (gc := true) (p_mv rfl) rfl rfl ?_
  refine TL.nil ?_
  refine hK3 _ _ ?_
  refine TK.seq_k fun K4 hK4 => ?_
  refine TK.seq_k fun K5 hK5 => ?_
  refine TK.reg ?_
  refine TL.p (C := cx) (gc := true) (p_mv rfl) rfl rfl ?_
  refine TL.nil ?_
  refine hK5 _ _ ?_
  refine TK.block ?_
  obtain ⟨o6, hO6, hA6⟩ := bind_some hX
  have E6 : ∀ (at9 : Int) (env : Env) (h : Hp), (∃ _u : Unit, keepE [0, 3] env = [(0, true, Enc.v (l1 : (List File_api))), (3, true, Enc.v (at9 : Int))] ∧ Nd [] ∧ HSub [] h) → X.cartridgeref10_Serial_e6 l1 at9 = some r → K4 env h := by
    intro at9 env h hE hX
    obtain ⟨_u, henv, nd, hs⟩ := hE
    unfold X.cartridgeref10_Serial_e6 at hX
    refine hK4 _ _ (TK.keep [0, 3] ?_)
    rw [henv]
    refine TK.subH hs ?_
    refine TK.seq_k fun K10 hK10 => ?_
    refine TK.seq_k fun K11 hK11 => ?_
    refine TK.reg ?_
    refine TL.p (C := cx) (gc := true) (p_mv rfl) rfl rfl ?_
    refine TL.p (C := cx) (gc := true) (p_lss rfl rfl) rfl rfl ?_
    refine TL.nil ?_
    refine hK11 _ _ ?_
    refine TK.cond (b := (decide (at9 < (0 : Int)))) rfl (fun hc => ?_) (fun hc => ?_)
    · have hX := ite_t hc hX
      refine TK.seq_k fun K12 hK12 => ?_
      refine TK.reg ?_
      refine TL.p (C := cx) (gc := true) (p_mv rfl) rfl rfl ?_
      refine TL.nil ?_
      refine hK12 _ _ ?_
      refine TK.ret ?_
      try dsimp only [thenQ]
      exact ret1 (v := Enc.v ((1 : Int) : Int)) rfl (by obtain rfl := some_in hX; rfl) (v_val _)
    · have hX := ite_f hc hX
      refine TK.skip ?_
      refine hK10 _ _ ?_
      refine TK.seq_k fun K13 hK13 => ?_
      refine TK.reg ?_
      refine TL.p (C := cx) (gc := true) (p_mv rfl) rfl rfl ?_
      refine TL.p (C := cx) (gc := true) (p_mv rfl) rfl rfl ?_
      obtain ⟨e14, he14, hX⟩ := bind_some hX
      refine TL.p (C := cx) (gc := true) (p_iaL (xs := l1) kd31 ty36 rfl rfl rfl (fun _ => he14)) rfl rfl ?_
      refine TL.p (C := cx) (gc := true) (p_faE fs36_4 (by decide) rfl) rfl rfl ?_
      refine TL.p (C := cx) (gc := true) (p_ldE (xs := l1) (a := e14) (e14.Serial : Int) ty3 rfl rfl (fun _ => he14) rfl rfl rfl) rfl rfl ?_
      refine TL.p (C := cx) (gc := true) (p_add rfl rfl) rfl rfl ?_
      refine TL.p (C := cx) (gc := true) (p_mv rfl) rfl rfl ?_
      refine TL.nil ?_
      refine hK13 _ _ ?_
      refine TK.ret ?_
      try dsimp only [thenQ]
      exact ret1 (v := Enc.v ((wr (e14.Serial + (1 : Int))) : Int)) rfl (by obtain rfl := some_in hX; rfl) (v_val _)
  refine TK.iter [0, 3, 4] (fun s env h => match s with | (at7, i8) => ∃ _u : Unit, env = [(0, true, Enc.v (l1 : (List File_api))), (3, true, Enc.v (at7 : Int)), (4, true, Enc.v (i8 : Int))] ∧ Nd [] ∧ HSub [] h) hO6 ⟨(), rfl, Nd_nil, HSub.refl _⟩ ?_
  rintro ⟨at7, i8⟩ env h x6x ⟨_u, rfl, nd, hs⟩ hX hR6
  refine TK.subH hs ?_
  unfold X.cartridgeref10_Serial_s6 at hX
  try dsimp only at hX
  refine TK.seq_k fun K15 hK15 => ?_
  refine TK.seq_k fun K16 hK16 => ?_
  refine TK.reg ?_
  refine TL.p (C := cx) (gc := true) (p_mv rfl) rfl rfl ?_
  refine TL.p (C := cx) (gc := true) (p_mv rfl) rfl rfl ?_
  refine TL.p (C := cx) (gc := true) (p_lenL (xs := l1) kd31 rfl) rfl rfl ?_
  refine TL.p (C := cx) (gc := true) (p_lss rfl rfl) rfl rfl ?_
  refine TL.nil ?_
  refine hK16 _ _ ?_
  refine TK.cond (b := (decide (i8 < (l1.length : Int)))) rfl (fun hc => ?_) (fun hc => ?_)
  · have hX := ite_t hc hX
    refine TK.skip ?_
    refine hK15 _ _ ?_
    refine TK.seq_k fun K17 hK17 => ?_
    have J17 : ∀ (at18 : Int) (env : Env) (h : Hp), (∃ _u : Unit, keepE [0, 3, 4] env = [(0, true, Enc.v (l1 : (List File_api))), (3, true, Enc.v (at18 : Int)), (4, true, Enc.v (i8 : Int))] ∧ Nd [] ∧ HSub [] h) → X.cartridgeref10_Serial_j17 i8 at18 = some x6x → K17 env h := by
      intro at18 env h hE hX
      obtain ⟨_u, henv, nd, hs⟩ := hE
      unfold X.cartridgeref10_Serial_j17 at hX
      refine hK17 _ _ (TK.keep [0, 3, 4] ?_)
      rw [henv]
      refine TK.subH hs ?_
      refine TK.reg ?_
      refine TL.p (C := cx) (gc := true) (p_mv rfl) rfl rfl ?_
      refine TL.p (C := cx) (gc := true) (p_add rfl rfl) rfl rfl ?_
      refine TL.p (C := cx) (gc := true) (p_mv rfl) rfl rfl ?_
      refine TL.nil ?_
      exact ⟨_, (some_in hX).symm, (), rfl, Nd_nil, HSub.refl _⟩
    refine TK.block ?_
    refine TK.seq_k fun K19 hK19 => ?_
    have ndS : Nd [] := Nd.pick nd (is := []) (by decide)
    refine TK.drwX (h := []) (hS := []) [(0, 0), (0, 1), (0, 2), (0, 3), (0, 4), (0, 5), (0, 6), (0, 7), (0, 8), (0, 9), (0, 10), (0, 11), (0, 12), (0, 13), (0, 14)] mixed (by kernel_rfl) (HSub_app nd) ?_
    refine DR0 (gc := true) rfl (vok_p (C := cx) (p_mv rfl)) rfl rfl ?_
    refine DR0 (gc := true) rfl (vok_p (C := cx) (p_lss rfl rfl)) rfl rfl ?_
    refine DR0 (gc := true) rfl (vok_p (C := cx) (p_mv rfl)) rfl rfl ?_
    refine DR0 (gc := (!((decide (at7 < (0 : Int)))))) rfl (vok_p (C := cx) (p_mv rfl (hg := fun e => rfl))) (gcF1 rfl) rfl ?_
    refine DR0 (gc := (!((decide (at7 < (0 : Int)))))) rfl (vok_p (C := cx) (p_mv rfl (hg := fun e => rfl))) (gcF1 rfl) rfl ?_
    obtain ⟨e20, he20, hX⟩ := bind_some hX
    refine DR0 (gc := (!((decide (at7 < (0 : Int)))))) rfl (vok_p (C := cx) (p_iaL (xs := l1) kd31 ty36 rfl rfl rfl (fun e => optG_t he20 e) (hg := fun e => ⟨e, e⟩))) (gcF1 rfl) rfl ?_
    refine DR0 (gc := (!((decide (at7 < (0 : Int)))))) rfl (vok_p (C := cx) (p_faE fs36_4 (by decide) rfl (hg := fun e => e))) (gcF1 rfl) rfl ?_
    refine DR0 (gc := (!((decide (at7 < (0 : Int)))))) rfl (vok_p (C := cx) (p_ldE (xs := l1) (a := e20) (e20.Serial : Int) ty3 rfl rfl (fun e => optG_t he20 e) rfl rfl rfl (hg := fun e => e))) (gcF1 rfl) rfl ?_
    refine DR0 (gc := (!((decide (at7 < (0 : Int)))))) rfl (vok_p (C := cx) (p_mv rfl (hg := fun e => rfl))) (gcF1 rfl) rfl ?_
    refine DR0 (gc := (!((decide (at7 < (0 : Int)))))) rfl (vok_p (C := cx) (p_mv rfl (hg := fun e => rfl))) (gcF1 rfl) rfl ?_
    obtain ⟨e21, he21, hX⟩ := bind_some hX
    refine DR0 (gc := (!((decide (at7 < (0 : Int)))))) rfl (vok_p (C := cx) (p_iaL (xs := l1) kd31 ty36 rfl rfl rfl (fun e => optG_t he21 e) (hg := fun e => ⟨e, e⟩))) (gcF1 rfl) rfl ?_
    refine DR0 (gc := (!((decide (at7 < (0 : Int)))))) rfl (vok_p (C := cx) (p_faE fs36_4 (by decide) rfl (hg := fun e => e))) (gcF1 rfl) rfl ?_
    refine DR0 (gc := (!((decide (at7 < (0 : Int)))))) rfl (vok_p (C := cx) (p_ldE (xs := l1) (a := e21) (e21.Serial : Int) ty3 rfl rfl (fun e => optG_t he21 e) rfl rfl rfl (hg := fun e => e))) (gcF1 rfl) rfl ?_
    refine DR0 (gc := (!((decide (at7 < (0 : Int)))))) rfl (vok_p (C := cx) (p_gtr rfl rfl (hg := fun e => ⟨e, e⟩))) (gcF1 rfl) rfl ?_
    refine DR0 (gc := true) rfl (vok_p (C := cx) (p_or rfl rfl (fun e => ⟨rfl, fun h => (not_t h)⟩))) rfl rfl ?_
    refine DRend ?_
    refine hK19 _ _ ?_
    refine TK.cond (b := ((decide (at7 < (0 : Int))) || (decide (e20.Serial > e21.Serial)))) rfl (fun hc => ?_) (fun hc => ?_)
    · have hX := ite_t hc hX
      refine TK.reg ?_
      refine TL.p (C := cx) (gc := true) (p_mv rfl) rfl rfl ?_
      refine TL.p (C := cx) (gc := true) (p_mv rfl) rfl rfl ?_
      refine TL.nil ?_
      exact J17 i8 _ _ ⟨(), rfl, Nd_nil, HSub.refl _⟩ hX
    · have hX := ite_f hc hX
      refine TK.skip ?_
      exact J17 at7 _ _ ⟨(), rfl, Nd_nil, HSub.refl _⟩ hX
  · have hX := ite_f hc hX
    refine TK.exit ?_
    obtain rfl := hR6 _ (some_in hX).symm
    exact E6 at7 _ _ ⟨(), rfl, Nd_nil, HSub.refl _⟩ hA6

/-- cartridge/cartridgeref10.Names -/
theorem ok_cartridgeref10_Names (l1 : (List File_api)) (r : (List Str)) (hX : X.cartridgeref10_Names l1 = some r) : Fun Try.prog 28 [Enc.v (l1 : (List File_api))] (· = Enc.v (r : (List Str))) := by
  refine Fun.of b28 (Nat.le_of_ble_eq_true rfl) (allVal.mem ⟨(by exact (v_val _)), trivial⟩) ?_
  unfold k28
  have nd : Nd [] := Nd_nil
  unfold X.cartridgeref10_Names at hX
  refine TK.seq_k fun K2 hK2 => ?_
  refine TK.reg ?_
  refine TL.p (C := cx) (gc := true) (p_mv rfl) rfl rfl ?_
  refine TL.nil ?_
  refine hK2 _ _ ?_
  refine TK.seq_k fun K3 hK3 => ?_
  refine TK.reg ?_
  refine TL.p (C := cx) (gc := true) (p_mv rfl) rfl rfl ?_
  refine TL.nil ?_
  refine hK3 _ _ ?_
  refine TK.seq_k fun K4 hK4 => ?_
  refine TK.seq_k fun K5 hK5 => ?_
  refine TK.reg ?_
  refine TL.p (C := cx) (gc := true) (p_mv rfl) rfl rfl ?_
  refine TL.nil ?_
  refine hK5 _ _ ?_
  refine TK.block ?_
  refine TK.wk 3 (L ([] : List Str)) rfl Wk_nil ?_
  obtain ⟨o6, hO6, hA6⟩ := bind_some hX
  have E6 : ∀ (out9 : (List Str)) (env : Env) (h : Hp), (∃ _u : Unit, keepE [3] env = [(3, true, Enc.v (out9 : (List Str)))] ∧ Nd [] ∧ HSub [] h) → X.cartridgeref10_Names_e6 out9 = some r → K4 env h := by
    intro out9 env h hE hX
    obtain ⟨_u, henv, nd, hs⟩ := hE
    unfold X.cartridgeref10_Names_e6 at hX
    refine hK4 _ _ (TK.keep [3] ?_)
    rw [henv]
    refine TK.subH hs ?_
    refine TK.seq_k fun K10 hK10 => ?_
    refine TK.reg ?_
    refine TL.p (C := cx) (gc := true) (p_mv rfl) rfl rfl ?_
    refine TL.p (C := cx) (gc := true) (p_mv rfl) rfl rfl ?_
    refine TL.nil ?_
    refine hK10 _ _ ?_
    refine TK.ret ?_
    try dsimp only [thenQ]
    exact ret1 (v := Enc.v (out9 : (List Str))) rfl (by obtain rfl := some_in hX; rfl) (v_val _)
  refine TK.iter [0, 3, 4] (fun s env h => match s with | (out7, i8) => ∃ _u : Unit, env = [(0, true, Enc.v (l1 : (List File_api))), (3, true, Enc.v (out7 : (List Str))), (4, true, Enc.v (i8 : Int))] ∧ Nd [] ∧ HSub [] h) hO6 ⟨(), rfl, Nd_nil, HSub.refl _⟩ ?_
  rintro ⟨out7, i8⟩ env h x6x ⟨_u, rfl, nd, hs⟩ hX hR6
  refine TK.subH hs ?_
  unfold X.cartridgeref10_Names_s6 at hX
  try dsimp only at hX
  refine TK.seq_k fun K11 hK11 => ?_
  refine TK.seq_k fun K12 hK12 => ?_
  refine TK.reg ?_
  refine TL.p (C := cx) (gc := true) (p_mv rfl) rfl rfl ?_
  refine TL.p (C := cx) (gc := true) (p_mv rfl) rfl rfl ?_
  refine TL.p (C := cx) (gc := true) (p_lenL (xs := l1) kd31 rfl) rfl rfl ?_
  refine TL.p (C := cx) (gc := true) (p_lss rfl rfl) rfl rfl ?_
  refine TL.nil ?_
  refine hK12 _ _ ?_
  refine TK.cond (b := (decide (i8 < (l1.length : Int)))) rfl (fun hc => ?_) (fun hc => ?_)
  · have hX := ite_t hc hX
    refine TK.skip ?_
    refine hK11 _ _ ?_
    refine TK.seq_k fun K13 hK13 => ?_
    have J13 : ∀ (out14 : (List Str)) (env : Env) (h : Hp), (∃ _u : Unit, keepE [0, 3, 4] env = [(0, true, Enc.v (l1 : (List File_api))), (3, true, Enc.v (out14 : (List Str))), (4, true, Enc.v (i8 : Int))] ∧ Nd [] ∧ HSub [] h) → X.cartridgeref10_Names_j13 i8 out14 = some x6x → K13 env h := by
      intro out14 env h hE hX
      obtain ⟨_u, henv, nd, hs⟩ := hE
      unfold X.cartridgeref10_Names_j13 at hX
      refine hK13 _ _ (TK.keep [0, 3, 4] ?_)
      rw [henv]
      refine TK.subH hs ?_
      refine TK.reg ?_
      refine TL.p (C := cx) (gc := true) (p_mv rfl) rfl rfl ?_
      refine TL.p (C := cx) (gc := true) (p_add rfl rfl) rfl rfl ?_
      refine TL.p (C := cx) (gc := true) (p_mv rfl) rfl rfl ?_
      refine TL.nil ?_
      exact ⟨_, (some_in hX).symm, (), rfl, Nd_nil, HSub.refl _⟩
    refine TK.block ?_
    refine TK.seq_k fun K15 hK15 => ?_
    refine TK.reg ?_
    refine TL.p (C := cx) (gc := true) (p_mv rfl) rfl rfl ?_
    refine TL.p (C := cx) (gc := true) (p_mv rfl) rfl rfl ?_
    refine TL.p (C := cx) (gc := true) (p_mv rfl) rfl rfl ?_
    obtain ⟨e16, he16, hX⟩ := bind_some hX
    refine TL.p (C := cx) (gc := true) (p_iaL (xs := l1) kd31 ty36 rfl rfl rfl (fun _ => he16)) rfl rfl ?_
    refine TL.p (C := cx) (gc := true) (p_faE fs36_0 (by decide) rfl) rfl rfl ?_
    refine TL.p (C := cx) (gc := true) (p_ldE (xs := l1) (a := e16) (e16.Path : Str) ty9 rfl rfl (fun _ => he16) rfl rfl rfl) rfl rfl ?_
    obtain ⟨r17, hr17, hX⟩ := bind_some hX
    refine TL.cvX rfl rfl rfl (fun _ => ⟨rfl, ⟨rfl, ⟨rfl, trivial⟩⟩⟩) (fun e => ok_cartridgeref10_Newest l1 e16.Path _ hr17) ?_
    refine TL.p (C := cx) (gc := true) (p_mv rfl) rfl rfl ?_
    refine TL.p (C := cx) (gc := true) (p_ex rfl rfl (by decide)) rfl rfl ?_
    refine TL.p (C := cx) (gc := true) (p_ex rfl rfl (by decide)) rfl rfl ?_
    refine TL.alO (C := cx) (l := [Enc.v ((Str.mk []) : Str), Enc.v ((0 : Int) : Int), Enc.v ((0 : Int) : Int), Enc.v ((0 : Int) : Int), Enc.v ((0 : Int) : Int), Enc.v (false : Bool), .nils]) nd ty36 ti36_z rfl rfl fun b18 nd => ?_
    refine TL.stV (C := cx) (lu := Enc.cl (r17.1 : File_api)) nd ty36 rfl (j := 0) rfl rfl rfl (Cells_v (r17.1 : File_api)) rfl rfl [Enc.v (r17.1.Path : Str), Enc.v (r17.1.Version : Int), Enc.v (r17.1.Size : Int), Enc.v (r17.1.Sum : Int), Enc.v (r17.1.Serial : Int), Enc.v (r17.1.Gone : Bool), Enc.v (r17.1.Parts : (List Part_api))] rfl fun nd => ?_
    refine TL.p (C := cx) (gc := true) (p_mv rfl) rfl rfl ?_
    refine TL.nil ?_
    refine hK15 _ _ ?_
    refine TK.seq_k fun K19 hK19 => ?_
    refine TK.reg ?_
    refine TL.p (C := cx) (gc := true) (p_mv rfl) rfl rfl ?_
    refine TL.nil ?_
    refine hK19 _ _ ?_
    refine TK.seq_k fun K20 hK20 => ?_
    refine TK.block ?_
    obtain ⟨o21, hO21, hA21⟩ := bind_some hX
    have E21 : ∀ (k23 : Int) (env : Env) (h : Hp), (∃ _u : Unit, keepE [0, 3, 4, 6, 7] env = [(0, true, Enc.v (l1 : (List File_api))), (3, true, Enc.v (out7 : (List Str))), (4, true, Enc.v (i8 : Int)), (6, true, Enc.v (r17.2 : Bool)), (7, true, Enc.v (k23 : Int))] ∧ Nd [] ∧ HSub [] h) → X.cartridgeref10_Names_e21 r17 out7 l1 i8 k23 = some x6x → K20 env h := by
      intro k23 env h hE hX
      obtain ⟨_u, henv, nd, hs⟩ := hE
      unfold X.cartridgeref10_Names_e21 at hX
      refine hK20 _ _ (TK.keep [0, 3, 4, 6, 7] ?_)
      rw [henv]
      refine TK.subH hs ?_
      refine TK.seq_k fun K24 hK24 => ?_
      refine TK.seq_k fun K25 hK25 => ?_
      have ndS : Nd [] := Nd.pick nd (is := []) (by decide)
      refine TK.drwX (h := []) (hS := []) [(0, 0), (0, 1), (0, 2), (0, 3), (0, 4), (0, 5), (0, 6), (0, 7), (0, 8), (0, 9), (0, 10), (0, 11), (0, 12), (0, 13), (0, 14), (0, 15), (0, 16), (0, 17), (0, 18), (0, 19)] mixed (by kernel_rfl) (HSub_app nd) ?_
      refine DR0 (gc := true) rfl (vok_p (C := cx) (p_mv rfl)) rfl rfl ?_
      refine DR0 (gc := true) rfl (vok_p (C := cx) (p_not rfl)) rfl rfl ?_
      refine DR0 (gc := true) rfl (vok_p (C := cx) (p_mv rfl)) rfl rfl ?_
      refine DR0 (gc := (!((!r17.2)))) rfl (vok_p (C := cx) (p_mv rfl (hg := fun e => rfl))) (gcF1 rfl) rfl ?_
      refine DR0 (gc := (!((!r17.2)))) rfl (vok_p (C := cx) (p_mv rfl (hg := fun e => rfl))) (gcF1 rfl) rfl ?_
      refine DR0 (gc := (!((!r17.2)))) rfl (vok_p (C := cx) (p_lenL (xs := out7) kd32 rfl (hg := fun e => e))) (gcF1 rfl) rfl ?_
      refine DR0 (gc := (!((!r17.2)))) rfl (vok_p (C := cx) (p_lss rfl rfl (hg := fun e => ⟨e, e⟩))) (gcF1 rfl) rfl ?_
      refine DR0 (gc := (!((!r17.2)))) rfl (vok_p (C := cx) (p_mv rfl (hg := fun e => e))) (gcF1 rfl) rfl ?_
      refine DR0 (gc := ((!((!r17.2))) && ((decide (k23 < (out7.length : Int)))))) rfl (vok_p (C := cx) (p_mv rfl (hg := fun e => rfl))) (gcT rfl) rfl ?_
      refine DR0 (gc := ((!((!r17.2))) && ((decide (k23 < (out7.length : Int)))))) rfl (vok_p (C := cx) (p_mv rfl (hg := fun e => rfl))) (gcT rfl) rfl ?_
      obtain ⟨e26, he26, hX⟩ := bind_some hX
      refine DR0 (gc := ((!((!r17.2))) && ((decide (k23 < (out7.length : Int)))))) rfl (vok_p (C := cx) (p_iaL (xs := out7) kd32 ty9 rfl rfl rfl (fun e => optG_t he26 e) (hg := fun e => ⟨e, e⟩))) (gcT rfl) rfl ?_
      refine DR0 (gc := ((!((!r17.2))) && ((decide (k23 < (out7.length : Int)))))) rfl (vok_p (C := cx) (p_ldE (xs := out7) (a := e26) (e26 : Str) ty9 rfl rfl (fun e => optG_t he26 e) rfl rfl rfl (hg := fun e => e))) (gcT rfl) rfl ?_
      refine DR0 (gc := ((!((!r17.2))) && ((decide (k23 < (out7.length : Int)))))) rfl (vok_p (C := cx) (p_mv rfl (hg := fun e => rfl))) (gcT rfl) rfl ?_
      refine DR0 (gc := ((!((!r17.2))) && ((decide (k23 < (out7.length : Int)))))) rfl (vok_p (C := cx) (p_mv rfl (hg := fun e => rfl))) (gcT rfl) rfl ?_
      obtain ⟨e27, he27, hX⟩ := bind_some hX
      refine DR0 (gc := ((!((!r17.2))) && ((decide (k23 < (out7.length : Int)))))) rfl (vok_p (C := cx) (p_iaL (xs := l1) kd31 ty36 rfl rfl rfl (fun e => optG_t he27 e) (hg := fun e => ⟨e, e⟩))) (gcT rfl) rfl ?_
      refine DR0 (gc := ((!((!r17.2))) && ((decide (k23 < (out7.length : Int)))))) rfl (vok_p (C := cx) (p_faE fs36_0 (by decide) rfl (hg := fun e => e))) (gcT rfl) rfl ?_
      refine DR0 (gc := ((!((!r17.2))) && ((decide (k23 < (out7.length : Int)))))) rfl (vok_p (C := cx) (p_ldE (xs := l1) (a := e27) (e27.Path : Str) ty9 rfl rfl (fun e => optG_t he27 e) rfl rfl rfl (hg := fun e => e))) (gcT rfl) rfl ?_
      refine DR0 (gc := ((!((!r17.2))) && ((decide (k23 < (out7.length : Int)))))) rfl (vok_p (C := cx) (ps_eql (s := e26) (r := e27.Path) rfl rfl (hg := fun e => ⟨e, e⟩))) (gcT rfl) rfl ?_
      refine DR0 (gc := (!((!r17.2)))) rfl (vok_p (C := cx) (p_and rfl rfl (fun e => ⟨e, fun h => (and_i e h)⟩))) (gcF1 rfl) rfl ?_
      refine DR0 (gc := true) rfl (vok_p (C := cx) (p_or rfl rfl (fun e => ⟨rfl, fun h => (not_t h)⟩))) rfl rfl ?_
      refine DRend ?_
      refine hK25 _ _ ?_
      refine TK.cond (b := ((!r17.2) || ((decide (k23 < (out7.length : Int))) && (e26.l == e27.Path.l)))) rfl (fun hc => ?_) (fun hc => ?_)
      · have hX := ite_t hc hX
        refine TK.exit ?_
        exact J13 out7 _ _ ⟨(), rfl, Nd_nil, HSub.refl _⟩ hX
      · have hX := ite_f hc hX
        refine TK.skip ?_
        refine hK24 _ _ ?_
        have ndS : Nd [] := Nd.pick nd (is := []) (by decide)
        refine TK.endK fun KD hKD => ?_
        refine TK.drwX (h := []) (hS := []) [(0, 0), (0, 1), (0, 2), (0, 4), (0, 5), (0, 6), (0, 7), (0, 8), (0, 9), (0, 11), (0, 12), (0, 13), (2, 3), (2, 10), (2, 14), (0, 15)] mixed (by kernel_rfl) (HSub_app nd) ?_
        refine DR0 (gc := true) rfl (vok_p (C := cx) (p_mv rfl)) rfl rfl ?_
        refine DR0 (gc := true) rfl (vok_p (C := cx) (p_mv rfl)) rfl rfl ?_
        obtain ⟨u28, hu28, hX⟩ := bind_some hX
        refine DR0 (gc := true) rfl (vok_p (C := cx) (p_sliL (xs := out7) (l := (0 : Int)) (k := k23) kd32 ty9 rfl rfl rfl rfl (fun e => need_t hu28))) rfl rfl ?_
        refine DR0 (gc := true) rfl (vok_p (C := cx) (p_mv rfl)) rfl rfl ?_
        refine DR0 (gc := true) rfl (vok_p (C := cx) (p_mv rfl)) rfl rfl ?_
        obtain ⟨e29, he29, hX⟩ := bind_some hX
        refine DR0 (gc := true) rfl (vok_p (C := cx) (p_iaL (xs := l1) kd31 ty36 rfl rfl rfl (fun _ => he29))) rfl rfl ?_
        refine DR0 (gc := true) rfl (vok_p (C := cx) (p_faE fs36_0 (by decide) rfl)) rfl rfl ?_
        refine DR0 (gc := true) rfl (vok_p (C := cx) (p_ldE (xs := l1) (a := e29) (e29.Path : Str) ty9 rfl rfl (fun _ => he29) rfl rfl rfl)) rfl rfl ?_
        refine DR0 (gc := true) rfl (vok_lit (C := cx) ([e29.Path] : List Str) kd32 ty9 rfl ⟨⟨rfl, rfl⟩, trivial⟩ rfl rfl) rfl rfl ?_
        refine DR0 (gc := true) rfl (vok_p (C := cx) (p_mv rfl)) rfl rfl ?_
        refine DR0 (gc := true) rfl (vok_p (C := cx) (p_mv rfl)) rfl rfl ?_
        obtain ⟨u30, hu30, hX⟩ := bind_some hX
        refine DR0 (gc := true) rfl (vok_p (C := cx) (p_sliL (xs := out7) (l := k23) (k := (out7.length : Int)) kd32 ty9 rfl rfl rfl rfl (fun e => need_t hu30))) rfl rfl ?_
        obtain ⟨u31, hu31, hX⟩ := bind_some hX
        refine DR2 rfl rfl ?_
        refine TL.appN (C := cx) nd kd32 bo32 ty9 rfl rfl (.inl rfl) rfl (Src_L _) (by decide) (need_t hu31) rfl fun b32 nd => ?_
        refine TL.nil ⟨_, [(b32, RL (α := Str) 9 (slc out7 (0 : Int) k23))], rfl, rfl, HSub_app nd, ?_⟩
        obtain ⟨u33, hu33, hX⟩ := bind_some hX
        refine DR2 rfl rfl ?_
        refine TL.appO (C := cx) nd kd32 bo32 ty9 rfl rfl (j := 0) rfl rfl (Src_L _) (by decide) (need_t hu33) rfl fun nd => ?_
        refine TL.nil ⟨_, [(b32, RL (α := Str) 9 ((slc out7 (0 : Int) k23) ++ ([e29.Path] : List Str)))], rfl, rfl, HSub_app nd, ?_⟩
        obtain ⟨u34, hu34, hX⟩ := bind_some hX
        refine DR2 rfl rfl ?_
        refine TL.appO (C := cx) nd kd32 bo32 ty9 rfl rfl (j := 0) rfl rfl (Src_L _) (by decide) (need_t hu34) rfl fun nd => ?_
        refine TL.nil ⟨_, [(b32, RL (α := Str) 9 (((slc out7 (0 : Int) k23) ++ ([e29.Path] : List Str)) ++ (slc out7 k23 (out7.length : Int))))], rfl, rfl, HSub_app nd, ?_⟩
        refine DR0 (gc := true) rfl (vok_p (C := cx) (p_mv rfl)) rfl rfl ?_
        refine DRend ?_
        refine hKD _ _ ?_
        refine TL.lay [(3, L (((slc out7 (0 : Int) k23) ++ ([e29.Path] : List Str)) ++ (slc out7 k23 (out7.length : Int)))), (76, L (((slc out7 (0 : Int) k23) ++ ([e29.Path] : List Str)) ++ (slc out7 k23 (out7.length : Int))))] nd (j := 0) rfl ⟨⟨_, rfl, fix_OL nd (j := 0) rfl, rfl⟩, ⟨⟨_, rfl, fix_OL nd (j := 0) rfl, rfl⟩, trivial⟩⟩ fun nd => ?_
        refine TL.nil ?_
        exact J13 (((slc out7 (0 : Int) k23) ++ ([e29.Path] : List Str)) ++ (slc out7 k23 (out7.length : Int))) _ _ ⟨(), rfl, Nd_nil, HSub.refl _⟩ hX
    refine TK.iter [0, 3, 4, 6, 7] (fun s env h => match s with | k22 => ∃ _u : Unit, env = [(0, true, Enc.v (l1 : (List File_api))), (3, true, Enc.v (out7 : (List Str))), (4, true, Enc.v (i8 : Int)), (6, true, Enc.v (r17.2 : Bool)), (7, true, Enc.v (k22 : Int))] ∧ Nd [] ∧ HSub [] h) hO21 ⟨(), rfl, (Nd.pick nd (is := []) (by decide)), (HSub.pick nd (is := []) (by decide))⟩ ?_
    rintro k22 env h x21x ⟨_u, rfl, nd, hs⟩ hX hR21
    refine TK.subH hs ?_
    unfold X.cartridgeref10_Names_s21 at hX
    try dsimp only at hX
    refine TK.seq_k fun K35 hK35 => ?_
    refine TK.seq_k fun K36 hK36 => ?_
    have ndS : Nd [] := Nd.pick nd (is := []) (by decide)
    refine TK.drwX (h := []) (hS := []) [(0, 0), (0, 1), (0, 2), (0, 3), (0, 4), (0, 5), (0, 6), (0, 7), (0, 8), (0, 9), (0, 10), (0, 11), (0, 12), (0, 13), (0, 14), (0, 15)] mixed (by kernel_rfl) (HSub_app nd) ?_
    refine DR0 (gc := true) rfl (vok_p (C := cx) (p_mv rfl)) rfl rfl ?_
    refine DR0 (gc := true) rfl (vok_p (C := cx) (p_mv rfl)) rfl rfl ?_
    refine DR0 (gc := true) rfl (vok_p (C := cx) (p_lenL (xs := out7) kd32 rfl)) rfl rfl ?_
    refine DR0 (gc := true) rfl (vok_p (C := cx) (p_lss rfl rfl)) rfl rfl ?_
    refine DR0 (gc := true) rfl (vok_p (C := cx) (p_mv rfl)) rfl rfl ?_
    refine DR0 (gc := ((decide (k22 < (out7.length : Int))))) rfl (vok_p (C := cx) (p_mv rfl (hg := fun e => rfl))) (gcT1 rfl) rfl ?_
    refine DR0 (gc := ((decide (k22 < (out7.length : Int))))) rfl (vok_p (C := cx) (p_mv rfl (hg := fun e => rfl))) (gcT1 rfl) rfl ?_
    obtain ⟨e37, he37, hX⟩ := bind_some hX
    refine DR0 (gc := ((decide (k22 < (out7.length : Int))))) rfl (vok_p (C := cx) (p_iaL (xs := out7) kd32 ty9 rfl rfl rfl (fun e => optG_t he37 e) (hg := fun e => ⟨e, e⟩))) (gcT1 rfl) rfl ?_
    refine DR0 (gc := ((decide (k22 < (out7.length : Int))))) rfl (vok_p (C := cx) (p_ldE (xs := out7) (a := e37) (e37 : Str) ty9 rfl rfl (fun e => optG_t he37 e) rfl rfl rfl (hg := fun e => e))) (gcT1 rfl) rfl ?_
    refine DR0 (gc := ((decide (k22 < (out7.length : Int))))) rfl (vok_p (C := cx) (p_mv rfl (hg := fun e => rfl))) (gcT1 rfl) rfl ?_
    refine DR0 (gc := ((decide (k22 < (out7.length : Int))))) rfl (vok_p (C := cx) (p_mv rfl (hg := fun e => rfl))) (gcT1 rfl) rfl ?_
    obtain ⟨e38, he38, hX⟩ := bind_some hX
    refine DR0 (gc := ((decide (k22 < (out7.length : Int))))) rfl (vok_p (C := cx) (p_iaL (xs := l1) kd31 ty36 rfl rfl rfl (fun e => optG_t he38 e) (hg := fun e => ⟨e, e⟩))) (gcT1 rfl) rfl ?_
    refine DR0 (gc := ((decide (k22 < (out7.length : Int))))) rfl (vok_p (C := cx) (p_faE fs36_0 (by decide) rfl (hg := fun e => e))) (gcT1 rfl) rfl ?_
    refine DR0 (gc := ((decide (k22 < (out7.length : Int))))) rfl (vok_p (C := cx) (p_ldE (xs := l1) (a := e38) (e38.Path : Str) ty9 rfl rfl (fun e => optG_t he38 e) rfl rfl rfl (hg := fun e => e))) (gcT1 rfl) rfl ?_
    refine DR0 (gc := ((decide (k22 < (out7.length : Int))))) rfl (vok_p (C := cx) (ps_lss (s := e37) (r := e38.Path) rfl rfl (hg := fun e => ⟨e, e⟩))) (gcT1 rfl) rfl ?_
    refine DR0 (gc := true) rfl (vok_p (C := cx) (p_and rfl rfl (fun e => ⟨rfl, fun h => h⟩))) rfl rfl ?_
    refine DRend ?_
    refine hK36 _ _ ?_
    refine TK.cond (b := ((decide (k22 < (out7.length : Int))) && (Op.bytesLess e37.l e38.Path.l))) rfl (fun hc => ?_) (fun hc => ?_)
    · have hX := ite_t hc hX
      refine TK.skip ?_
      refine hK35 _ _ ?_
      refine TK.block ?_
      refine TK.reg ?_
      refine TL.p (C := cx) (gc := true) (p_mv rfl) rfl rfl ?_
      refine TL.p (C := cx) (gc := true) (p_add rfl rfl) rfl rfl ?_
      refine TL.p (C := cx) (gc := true) (p_mv rfl) rfl rfl ?_
      refine TL.nil ?_
      exact ⟨_, (some_in hX).symm, (), rfl, Nd_nil, HSub.refl _⟩
    · have hX := ite_f hc hX
      refine TK.exit ?_
      obtain rfl := hR21 _ (some_in hX).symm
      exact E21 k22 _ _ ⟨(), rfl, Nd_nil, HSub.refl _⟩ hA21
  · have hX := ite_f hc hX
    refine TK.exit ?_
    obtain rfl := hR6 _ (some_in hX).symm
    exact E6 out7 _ _ ⟨(), rfl, Nd_nil, HSub.refl _⟩ hA6

/-- cartridge/cartridgeref1.SameTexts -/
theorem ok_cartridgeref1_SameTexts (a1 : (List Str)) (b2 : (List Str)) (r : Bool) (hX : X.cartridgeref1_SameTexts a1 b2 = some r) : Fun Try.prog 27 [Enc.v (a1 : (List Str)), Enc.v (b2 : (List Str))] (· = Enc.v (r : Bool)) := by
  refine Fun.of b27 (Nat.le_of_ble_eq_true rfl) (allVal.mem ⟨(by exact (v_val _)), (by exact (v_val _)), trivial⟩) ?_
  unfold k27
  have nd : Nd [] := Nd_nil
  unfold X.cartridgeref1_SameTexts at hX
  refine TK.seq_k fun K3 hK3 => ?_
  refine TK.reg ?_
  refine TL.p (C := cx) (gc := true) (p_mv rfl) rfl rfl ?_
  refine TL.nil ?_
  refine hK3 _ _ ?_
  refine TK.seq_k fun K4 hK4 => ?_
  refine TK.seq_k fun K5 hK5 => ?_
  refine TK.reg ?_
  refine TL.p (C := cx) (gc := true) (p_mv rfl) rfl rfl ?_
  refine TL.p (C := cx) (gc := true) (p_lenL (xs := a1) kd32 rfl) rfl rfl ?_
  refine TL.p (C := cx) (gc := true) (p_mv rfl) rfl rfl ?_
  refine TL.p (C := cx) (gc := true) (p_lenL (xs := b2) kd32 rfl) rfl rfl ?_
  refine TL.p (C := cx) (gc := true) (p_neq rfl rfl) rfl rfl ?_
  refine TL.nil ?_
  refine hK5 _ _ ?_
  refine TK.cond (b := ((a1.length : Int) != (b2.length : Int))) rfl (fun hc => ?_) (fun hc => ?_)
  · have hX := ite_t hc hX
    refine TK.seq_k fun K6 hK6 => ?_
    refine TK.reg ?_
    refine TL.p (C := cx) (gc := true) (p_mv rfl) rfl rfl ?_
    refine TL.nil ?_
    refine hK6 _ _ ?_
    refine TK.ret ?_
    try dsimp only [thenQ]
    exact ret1 (v := Enc.v (false : Bool)) rfl (by obtain rfl := some_in hX; rfl) (v_val _)
  · have hX := ite_f hc hX
    refine TK.skip ?_
    refine hK4 _ _ ?_
    refine TK.seq_k fun K7 hK7 => ?_
    refine TK.seq_k fun K8 hK8 => ?_
    refine TK.reg ?_
    refine TL.p (C := cx) (gc := true) (p_mv rfl) rfl rfl ?_
    refine TL.nil ?_
    refine hK8 _ _ ?_
    refine TK.block ?_
    obtain ⟨o9, hO9, hA9⟩ := bind_some hX
    have E9 : ∀ (env : Env) (h : Hp), (∃ _u : Unit, keepE [] env = [] ∧ Nd [] ∧ HSub [] h) → X.cartridgeref1_SameTexts_e9 = some r → K7 env h := by
      intro  env h hE hX
      obtain ⟨_u, henv, nd, hs⟩ := hE
      unfold X.cartridgeref1_SameTexts_e9 at hX
      refine hK7 _ _ (TK.keep [] ?_)
      rw [henv]
      refine TK.subH hs ?_
      refine TK.seq_k fun K11 hK11 => ?_
      refine TK.reg ?_
      refine TL.p (C := cx) (gc := true) (p_mv rfl) rfl rfl ?_
      refine TL.nil ?_
      refine hK11 _ _ ?_
      refine TK.ret ?_
      try dsimp only [thenQ]
      exact ret1 (v := Enc.v (true : Bool)) rfl (by obtain rfl := some_in hX; rfl) (v_val _)
    refine TK.iter [0, 1, 5] (fun s env h => match s with | i10 => ∃ _u : Unit, env = [(0, true, Enc.v (a1 : (List Str))), (1, true, Enc.v (b2 : (List Str))), (5, true, Enc.v (i10 : Int))] ∧ Nd [] ∧ HSub [] h) hO9 ⟨(), rfl, Nd_nil, HSub.refl _⟩ ?_
    rintro i10 env h x9x ⟨_u, rfl, nd, hs⟩ hX hR9
    refine TK.subH hs ?_
    unfold X.cartridgeref1_SameTexts_s9 at hX
    try dsimp only at hX
    refine TK.seq_k fun K12 hK12 => ?_
    refine TK.seq_k fun K13 hK13 => ?_
    refine TK.reg ?_
    refine TL.p (C := cx) (gc := true) (p_mv rfl) rfl rfl ?_
    refine TL.p (C := cx) (gc := true) (p_mv rfl) rfl rfl ?_
    refine TL.p (C := cx) (gc := true) (p_lenL (xs := a1) kd32 rfl) rfl rfl ?_
    refine TL.p (C := cx) (gc := true) (p_lss rfl rfl) rfl rfl ?_
    refine TL.nil ?_
    refine hK13 _ _ ?_
    refine TK.cond (b := (decide (i10 < (a1.length : Int)))) rfl (fun hc => ?_) (fun hc => ?_)
    · have hX := ite_t hc hX
      refine TK.skip ?_
      refine hK12 _ _ ?_
      refine TK.seq_k fun K14 hK14 => ?_
      refine TK.block ?_
      refine TK.seq_k fun K15 hK15 => ?_
      have ndS : Nd [] := Nd.pick nd (is := []) (by decide)
      refine TK.drwX (h := []) (hS := []) [(0, 0), (0, 1), (0, 2), (0, 3), (0, 4), (0, 5), (0, 6), (0, 7), (0, 8)] mixed (by kernel_rfl) (HSub_app nd) ?_
      refine DR0 (gc := true) rfl (vok_p (C := cx) (p_mv rfl)) rfl rfl ?_
      refine DR0 (gc := true) rfl (vok_p (C := cx) (p_mv rfl)) rfl rfl ?_
      obtain ⟨e16, he16, hX⟩ := bind_some hX
      refine DR0 (gc := true) rfl (vok_p (C := cx) (p_iaL (xs := a1) kd32 ty9 rfl rfl rfl (fun _ => he16))) rfl rfl ?_
      refine DR0 (gc := true) rfl (vok_p (C := cx) (p_ldE (xs := a1) (a := e16) (e16 : Str) ty9 rfl rfl (fun _ => he16) rfl rfl rfl)) rfl rfl ?_
      refine DR0 (gc := true) rfl (vok_p (C := cx) (p_mv rfl)) rfl rfl ?_
      refine DR0 (gc := true) rfl (vok_p (C := cx) (p_mv rfl)) rfl rfl ?_
      obtain ⟨e17, he17, hX⟩ := bind_some hX
      refine DR0 (gc := true) rfl (vok_p (C := cx) (p_iaL (xs := b2) kd32 ty9 rfl rfl rfl (fun _ => he17))) rfl rfl ?_
      refine DR0 (gc := true) rfl (vok_p (C := cx) (p_ldE (xs := b2) (a := e17) (e17 : Str) ty9 rfl rfl (fun _ => he17) rfl rfl rfl)) rfl rfl ?_
      refine DR0 (gc := true) rfl (vok_p (C := cx) (ps_neq (s := e16) (r := e17) rfl rfl)) rfl rfl ?_
      refine DRend ?_
      refine hK15 _ _ ?_
      refine TK.cond (b := (!(e16.l == e17.l))) rfl (fun hc => ?_) (fun hc => ?_)
      · have hX := ite_t hc hX
        refine TK.seq_k fun K18 hK18 => ?_
        refine TK.reg ?_
        refine TL.p (C := cx) (gc := true) (p_mv rfl) rfl rfl ?_
        refine TL.nil ?_
        refine hK18 _ _ ?_
        refine TK.ret ?_
        obtain rfl := hR9 _ (some_in hX).symm
        replace hX := hA9
        try dsimp only [thenQ]
        exact ret1 (v := Enc.v (false : Bool)) rfl (by obtain rfl := some_in hX; rfl) (v_val _)
      · have hX := ite_f hc hX
        refine TK.skip ?_
        refine hK14 _ _ ?_
        refine TK.reg ?_
        refine TL.p (C := cx) (gc := true) (p_mv rfl) rfl rfl ?_
        refine TL.p (C := cx) (gc := true) (p_add rfl rfl) rfl rfl ?_
        refine TL.p (C := cx) (gc := true) (p_mv rfl) rfl rfl ?_
        refine TL.nil ?_
        exact ⟨_, (some_in hX).symm, (), rfl, Nd_nil, HSub.refl _⟩
    · have hX := ite_f hc hX
      refine TK.exit ?_
      obtain rfl := hR9 _ (some_in hX).symm
      exact E9 _ _ ⟨(), rfl, Nd_nil, HSub.refl _⟩ hA9

/-- cartridge/cartridgelaw18.ListingTells -/
theorem ok_cartridgelaw18_ListingTells (l1 : (List File_api)) (path2 : Str) (version3 : Int) (r : Bool) (hX : X.cartridgelaw18_ListingTells l1 path2 version3 = some r) : Fun Try.prog 5 [Enc.v (l1 : (List File_api)), Enc.v (path2 : Str), Enc.v (version3 : Int)] (· = Enc.v (r : Bool)) := by
  refine Fun.of b5 (Nat.le_of_ble_eq_true rfl) (allVal.mem ⟨(by exact (v_val _)), (by exact (v_val _)), (by exact (v_val _)), trivial⟩) ?_
  unfold k5
  have nd : Nd [] := Nd_nil
  unfold X.cartridgelaw18_ListingTells at hX
  refine TK.seq_k fun K4 hK4 => ?_
  refine TK.reg ?_
  refine TL.p (C := cx) (gc := true) (p_mv rfl) rfl rfl ?_
  refine TL.nil ?_
  refine hK4 _ _ ?_
  refine TK.seq_k fun K5 hK5 => ?_
  refine TK.reg ?_
  obtain ⟨r6, hr6, hX⟩ := bind_some hX
  refine TL.cvX rfl rfl rfl (fun _ => ⟨rfl, trivial⟩) (fun e => ok_cartridgelaw18_alive  _ hr6) ?_
  refine TL.p (C := cx) (gc := true) (p_mv rfl) rfl rfl ?_
  refine TL.nil ?_
  refine hK5 _ _ ?_
  refine TK.seq_k fun K7 hK7 => ?_
  refine TK.seq_k fun K8 hK8 => ?_
  refine TK.reg ?_
  refine TL.p (C := cx) (gc := true) (p_mv rfl) rfl rfl ?_
  refine TL.p (C := cx) (gc := true) (p_not rfl) rfl rfl ?_
  refine TL.p (C := cx) (gc := true) (p_mv rfl) rfl rfl ?_
  refine TL.p (C := cx) (gc := (!((!r6)))) (p_mv rfl (hg := fun e => rfl)) (gcF1 rfl) rfl ?_
  refine TL.p (C := cx) (gc := (!((!r6)))) (p_lenL (xs := l1) kd31 rfl (hg := fun e => e)) (gcF1 rfl) rfl ?_
  refine TL.p (C := cx) (gc := (!((!r6)))) (p_gtr rfl rfl (hg := fun e => ⟨e, rfl⟩)) (gcF1 rfl) rfl ?_
  refine TL.p (C := cx) (gc := true) (p_or rfl rfl (fun e => ⟨rfl, fun h => (not_t h)⟩)) rfl rfl ?_
  refine TL.nil ?_
  refine hK8 _ _ ?_
  refine TK.cond (b := ((!r6) || (decide ((l1.length : Int) > (40 : Int))))) rfl (fun hc => ?_) (fun hc => ?_)
  · have hX := ite_t hc hX
    refine TK.seq_k fun K9 hK9 => ?_
    refine TK.reg ?_
    refine TL.p (C := cx) (gc := true) (p_mv rfl) rfl rfl ?_
    refine TL.p (C := cx) (gc := true) (p_mv rfl) rfl rfl ?_
    refine TL.nil ?_
    refine hK9 _ _ ?_
    refine TK.ret ?_
    try dsimp only [thenQ]
    exact ret1 (v := Enc.v (r6 : Bool)) rfl (by obtain rfl := some_in hX; rfl) (v_val _)
  · have hX := ite_f hc hX
    refine TK.skip ?_
    refine hK7 _ _ ?_
    refine TK.seq_k fun K10 hK10 => ?_
    refine TK.seq_k fun K11 hK11 => ?_
    refine TK.reg ?_
    refine TL.p (C := cx) (gc := true) (p_mv rfl) rfl rfl ?_
    refine TL.nil ?_
    refine hK11 _ _ ?_
    refine TK.block ?_
    obtain ⟨o12, hO12, hA12⟩ := bind_some hX
    have E12 : ∀ (env : Env) (h : Hp), (∃ _u : Unit, keepE [0, 1, 2] env = [(0, true, Enc.v (l1 : (List File_api))), (1, true, Enc.v (path2 : Str)), (2, true, Enc.v (version3 : Int))] ∧ Nd [] ∧ HSub [] h) → X.cartridgelaw18_ListingTells_e12 l1 path2 version3 = some r → K10 env h := by
      intro  env h hE hX
      obtain ⟨_u, henv, nd, hs⟩ := hE
      unfold X.cartridgelaw18_ListingTells_e12 at hX
      refine hK10 _ _ (TK.keep [0, 1, 2] ?_)
      rw [henv]
      refine TK.subH hs ?_
      refine TK.seq_k fun K14 hK14 => ?_
      refine TK.reg ?_
      refine TL.p (C := cx) (gc := true) (p_mv rfl) rfl rfl ?_
      refine TL.p (C := cx) (gc := true) (p_mv rfl) rfl rfl ?_
      obtain ⟨r15, hr15, hX⟩ := bind_some hX
      refine TL.cvX rfl rfl rfl (fun _ => ⟨rfl, ⟨rfl, ⟨rfl, trivial⟩⟩⟩) (fun e => ok_listing_Newest l1 path2 _ hr15) ?_
      refine TL.p (C := cx) (gc := true) (p_mv rfl) rfl rfl ?_
      refine TL.p (C := cx) (gc := true) (p_ex rfl rfl (by decide)) rfl rfl ?_
      refine TL.p (C := cx) (gc := true) (p_ex rfl rfl (by decide)) rfl rfl ?_
      refine TL.alO (C := cx) (l := [Enc.v ((Str.mk []) : Str), Enc.v ((0 : Int) : Int), Enc.v ((0 : Int) : Int), Enc.v ((0 : Int) : Int), Enc.v ((0 : Int) : Int), Enc.v (false : Bool), .nils]) nd ty36 ti36_z rfl rfl fun b16 nd => ?_
      refine TL.stV (C := cx) (lu := Enc.cl (r15.1 : File_api)) nd ty36 rfl (j := 0) rfl rfl rfl (Cells_v (r15.1 : File_api)) rfl rfl [Enc.v (r15.1.Path : Str), Enc.v (r15.1.Version : Int), Enc.v (r15.1.Size : Int), Enc.v (r15.1.Sum : Int), Enc.v (r15.1.Serial : Int), Enc.v (r15.1.Gone : Bool), Enc.v (r15.1.Parts : (List Part_api))] rfl fun nd => ?_
      refine TL.p (C := cx) (gc := true) (p_mv rfl) rfl rfl ?_
      refine TL.nil ?_
      refine hK14 _ _ ?_
      refine TK.seq_k fun K17 hK17 => ?_
      refine TK.reg ?_
      refine TL.p (C := cx) (gc := true) (p_mv rfl) rfl rfl ?_
      refine TL.p (C := cx) (gc := true) (p_mv rfl) rfl rfl ?_
      obtain ⟨r18, hr18, hX⟩ := bind_some hX
      refine TL.cvX rfl rfl rfl (fun _ => ⟨rfl, ⟨rfl, ⟨rfl, trivial⟩⟩⟩) (fun e => ok_cartridgeref10_Newest l1 path2 _ hr18) ?_
      refine TL.p (C := cx) (gc := true) (p_mv rfl) rfl rfl ?_
      refine TL.p (C := cx) (gc := true) (p_ex rfl rfl (by decide)) rfl rfl ?_
      refine TL.p (C := cx) (gc := true) (p_ex rfl rfl (by decide)) rfl rfl ?_
      refine TL.alO (C := cx) (l := [Enc.v ((Str.mk []) : Str), Enc.v ((0 : Int) : Int), Enc.v ((0 : Int) : Int), Enc.v ((0 : Int) : Int), Enc.v ((0 : Int) : Int), Enc.v (false : Bool), .nils]) nd ty36 ti36_z rfl rfl fun b19 nd => ?_
      refine TL.stV (C := cx) (lu := Enc.cl (r18.1 : File_api)) nd ty36 rfl (j := 0) rfl rfl rfl (Cells_v (r18.1 : File_api)) rfl rfl [Enc.v (r18.1.Path : Str), Enc.v (r18.1.Version : Int), Enc.v (r18.1.Size : Int), Enc.v (r18.1.Sum : Int), Enc.v (r18.1.Serial : Int), Enc.v (r18.1.Gone : Bool), Enc.v (r18.1.Parts : (List Part_api))] rfl fun nd => ?_
      refine TL.p (C := cx) (gc := true) (p_mv rfl) rfl rfl ?_
      refine TL.nil ?_
      refine hK17 _ _ ?_
      refine TK.seq_k fun K20 hK20 => ?_
      refine TK.reg ?_
      refine TL.p (C := cx) (gc := true) (p_mv rfl) rfl rfl ?_
      refine TL.p (C := cx) (gc := true) (p_mv rfl) rfl rfl ?_
      refine TL.p (C := cx) (gc := true) (p_mv rfl) rfl rfl ?_
      obtain ⟨r21, hr21, hX⟩ := bind_some hX
      refine TL.cvX rfl rfl rfl (fun _ => ⟨rfl, ⟨rfl, ⟨rfl, ⟨rfl, trivial⟩⟩⟩⟩) (fun e => ok_listing_Get l1 path2 version3 _ hr21) ?_
      refine TL.p (C := cx) (gc := true) (p_mv rfl) rfl rfl ?_
      refine TL.p (C := cx) (gc := true) (p_ex rfl rfl (by decide)) rfl rfl ?_
      refine TL.p (C := cx) (gc := true) (p_ex rfl rfl (by decide)) rfl rfl ?_
      refine TL.alO (C := cx) (l := [Enc.v ((Str.mk []) : Str), Enc.v ((0 : Int) : Int), Enc.v ((0 : Int) : Int), Enc.v ((0 : Int) : Int), Enc.v ((0 : Int) : Int), Enc.v (false : Bool), .nils]) nd ty36 ti36_z rfl rfl fun b22 nd => ?_
      refine TL.stV (C := cx) (lu := Enc.cl (r21.1 : File_api)) nd ty36 rfl (j := 0) rfl rfl rfl (Cells_v (r21.1 : File_api)) rfl rfl [Enc.v (r21.1.Path : Str), Enc.v (r21.1.Version : Int), Enc.v (r21.1.Size : Int), Enc.v (r21.1.Sum : Int), Enc.v (r21.1.Serial : Int), Enc.v (r21.1.Gone : Bool), Enc.v (r21.1.Parts : (List Part_api))] rfl fun nd => ?_
      refine TL.p (C := cx) (gc := true) (p_mv rfl) rfl rfl ?_
      refine TL.nil ?_
      refine hK20 _ _ ?_
      refine TK.seq_k fun K23 hK23 => ?_
      refine TK.reg ?_
      refine TL.p (C := cx) (gc := true) (p_mv rfl) rfl rfl ?_
      refine TL.p (C := cx) (gc := true) (p_mv rfl) rfl rfl ?_
      refine TL.p (C := cx) (gc := true) (p_mv rfl) rfl rfl ?_
      obtain ⟨r24, hr24, hX⟩ := bind_some hX
      refine TL.cvX rfl rfl rfl (fun _ => ⟨rfl, ⟨rfl, ⟨rfl, ⟨rfl, trivial⟩⟩⟩⟩) (fun e => ok_cartridgeref10_GetFile l1 path2 version3 _ hr24) ?_
      refine TL.p (C := cx) (gc := true) (p_mv rfl) rfl rfl ?_
      refine TL.p (C := cx) (gc := true) (p_ex rfl rfl (by decide)) rfl rfl ?_
      refine TL.p (C := cx) (gc := true) (p_ex rfl rfl (by decide)) rfl rfl ?_
      refine TL.alO (C := cx) (l := [Enc.v ((Str.mk []) : Str), Enc.v ((0 : Int) : Int), Enc.v ((0 : Int) : Int), Enc.v ((0 : Int) : Int), Enc.v ((0 : Int) : Int), Enc.v (false : Bool), .nils]) nd ty36 ti36_z rfl rfl fun b25 nd => ?_
      refine TL.stV (C := cx) (lu := Enc.cl (r24.1 : File_api)) nd ty36 rfl (j := 0) rfl rfl rfl (Cells_v (r24.1 : File_api)) rfl rfl [Enc.v (r24.1.Path : Str), Enc.v (r24.1.Version : Int), Enc.v (r24.1.Size : Int), Enc.v (r24.1.Sum : Int), Enc.v (r24.1.Serial : Int), Enc.v (r24.1.Gone : Bool), Enc.v (r24.1.Parts : (List Part_api))] rfl fun nd => ?_
      refine TL.p (C := cx) (gc := true) (p_mv rfl) rfl rfl ?_
      refine TL.nil ?_
      refine hK23 _ _ ?_
      refine TK.seq_k fun K26 hK26 => ?_
      refine TK.reg ?_
      refine TL.p (C := cx) (gc := true) (p_ldVa (l' := Enc.cl (r15.1 : File_api)) ty36 rfl rfl nd (j := 3) rfl rfl rfl rfl (Nat.le_of_ble_eq_true rfl)) rfl rfl ?_
      refine TL.p (C := cx) (gc := true) (p_ldVa (l' := Enc.cl (r18.1 : File_api)) ty36 rfl rfl nd (j := 2) rfl rfl rfl rfl (Nat.le_of_ble_eq_true rfl)) rfl rfl ?_
      obtain ⟨r27, hr27, hX⟩ := bind_some hX
      refine TL.cvX rfl rfl rfl (fun _ => ⟨rfl, ⟨rfl, ⟨rfl, trivial⟩⟩⟩) (fun e => ok_cartridgeref10_SameFile r15.1 r18.1 _ hr27) ?_
      refine TL.p (C := cx) (gc := true) (p_mv rfl) rfl rfl ?_
      refine TL.p (C := cx) (gc := r27) (p_mv rfl (hg := fun e => rfl)) (gcT1 rfl) rfl ?_
      refine TL.p (C := cx) (gc := r27) (p_mv rfl (hg := fun e => rfl)) (gcT1 rfl) rfl ?_
      refine TL.p (C := cx) (gc := r27) (p_eqB kd4 rfl rfl (hg := fun e => ⟨e, e⟩)) (gcT1 rfl) rfl ?_
      refine TL.p (C := cx) (gc := true) (p_and rfl rfl (fun e => ⟨rfl, fun h => h⟩)) rfl rfl ?_
      refine TL.p (C := cx) (gc := true) (p_mv rfl) rfl rfl ?_
      refine TL.p (C := cx) (gc := ((r27 && (r15.2 == r18.2)))) (p_ldVa (l' := Enc.cl (r21.1 : File_api)) ty36 rfl rfl nd (j := 1) rfl rfl rfl rfl (Nat.le_of_ble_eq_true rfl) (hg := fun e => rfl)) (gcT1 rfl) rfl ?_
      refine TL.p (C := cx) (gc := ((r27 && (r15.2 == r18.2)))) (p_ldVa (l' := Enc.cl (r24.1 : File_api)) ty36 rfl rfl nd (j := 0) rfl rfl rfl rfl (Nat.le_of_ble_eq_true rfl) (hg := fun e => rfl)) (gcT1 rfl) rfl ?_
      obtain ⟨r28, hr28, hX⟩ := bind_some hX
      refine TL.cvX (gcT1 rfl) rfl rfl (fun e => ⟨rfl, ⟨e, ⟨e, trivial⟩⟩⟩) (fun e => ok_cartridgeref10_SameFile r21.1 r24.1 _ (optG_t hr28 e)) ?_
      refine TL.p (C := cx) (gc := true) (p_and rfl rfl (fun e => ⟨rfl, fun h => h⟩)) rfl rfl ?_
      refine TL.p (C := cx) (gc := true) (p_mv rfl) rfl rfl ?_
      refine TL.p (C := cx) (gc := (((r27 && (r15.2 == r18.2)) && r28))) (p_mv rfl (hg := fun e => rfl)) (gcT1 rfl) rfl ?_
      refine TL.p (C := cx) (gc := (((r27 && (r15.2 == r18.2)) && r28))) (p_mv rfl (hg := fun e => rfl)) (gcT1 rfl) rfl ?_
      refine TL.p (C := cx) (gc := (((r27 && (r15.2 == r18.2)) && r28))) (p_eqB kd4 rfl rfl (hg := fun e => ⟨e, e⟩)) (gcT1 rfl) rfl ?_
      refine TL.p (C := cx) (gc := true) (p_and rfl rfl (fun e => ⟨rfl, fun h => h⟩)) rfl rfl ?_
      refine TL.p (C := cx) (gc := true) (p_mv rfl) rfl rfl ?_
      refine TL.p (C := cx) (gc := ((((r27 && (r15.2 == r18.2)) && r28) && (r21.2 == r24.2)))) (p_mv rfl (hg := fun e => rfl)) (gcT1 rfl) rfl ?_
      refine TL.p (C := cx) (gc := ((((r27 && (r15.2 == r18.2)) && r28) && (r21.2 == r24.2)))) (p_mv rfl (hg := fun e => rfl)) (gcT1 rfl) rfl ?_
      obtain ⟨r29, hr29, hX⟩ := bind_some hX
      refine TL.cvX (gcT1 rfl) rfl rfl (fun e => ⟨rfl, ⟨e, ⟨e, trivial⟩⟩⟩) (fun e => ok_listing_Next l1 path2 _ (optG_t hr29 e)) ?_
      refine TL.p (C := cx) (gc := ((((r27 && (r15.2 == r18.2)) && r28) && (r21.2 == r24.2)))) (p_mv rfl (hg := fun e => rfl)) (gcT1 rfl) rfl ?_
      refine TL.p (C := cx) (gc := ((((r27 && (r15.2 == r18.2)) && r28) && (r21.2 == r24.2)))) (p_mv rfl (hg := fun e => rfl)) (gcT1 rfl) rfl ?_
      obtain ⟨r30, hr30, hX⟩ := bind_some hX
      refine TL.cvX (gcT1 rfl) rfl rfl (fun e => ⟨rfl, ⟨e, ⟨e, trivial⟩⟩⟩) (fun e => ok_cartridgeref10_Next l1 path2 _ (optG_t hr30 e)) ?_
      refine TL.p (C := cx) (gc := ((((r27 && (r15.2 == r18.2)) && r28) && (r21.2 == r24.2)))) (p_eql rfl rfl (hg := fun e => ⟨e, e⟩)) (gcT1 rfl) rfl ?_
      refine TL.p (C := cx) (gc := true) (p_and rfl rfl (fun e => ⟨rfl, fun h => h⟩)) rfl rfl ?_
      refine TL.p (C := cx) (gc := true) (p_mv rfl) rfl rfl ?_
      refine TL.p (C := cx) (gc := (((((r27 && (r15.2 == r18.2)) && r28) && (r21.2 == r24.2)) && (r29 == r30)))) (p_mv rfl (hg := fun e => rfl)) (gcT1 rfl) rfl ?_
      obtain ⟨r31, hr31, hX⟩ := bind_some hX
      refine TL.cvX (gcT1 rfl) rfl rfl (fun e => ⟨rfl, ⟨e, trivial⟩⟩) (fun e => ok_listing_Serial l1 _ (optG_t hr31 e)) ?_
      refine TL.p (C := cx) (gc := (((((r27 && (r15.2 == r18.2)) && r28) && (r21.2 == r24.2)) && (r29 == r30)))) (p_mv rfl (hg := fun e => rfl)) (gcT1 rfl) rfl ?_
      obtain ⟨r32, hr32, hX⟩ := bind_some hX
      refine TL.cvX (gcT1 rfl) rfl rfl (fun e => ⟨rfl, ⟨e, trivial⟩⟩) (fun e => ok_cartridgeref10_Serial l1 _ (optG_t hr32 e)) ?_
      refine TL.p (C := cx) (gc := (((((r27 && (r15.2 == r18.2)) && r28) && (r21.2 == r24.2)) && (r29 == r30)))) (p_eql rfl rfl (hg := fun e => ⟨e, e⟩)) (gcT1 rfl) rfl ?_
      refine TL.p (C := cx) (gc := true) (p_and rfl rfl (fun e => ⟨rfl, fun h => h⟩)) rfl rfl ?_
      refine TL.p (C := cx) (gc := true) (p_mv rfl) rfl rfl ?_
      refine TL.p (C := cx) (gc := ((((((r27 && (r15.2 == r18.2)) && r28) && (r21.2 == r24.2)) && (r29 == r30)) && (r31 == r32)))) (p_mv rfl (hg := fun e => rfl)) (gcT1 rfl) rfl ?_
      obtain ⟨r33, hr33, hX⟩ := bind_some hX
      refine TL.cvX (gcT1 rfl) rfl rfl (fun e => ⟨rfl, ⟨e, trivial⟩⟩) (fun e => ok_listing_Names l1 _ (optG_t hr33 e)) ?_
      refine TL.p (C := cx) (gc := ((((((r27 && (r15.2 == r18.2)) && r28) && (r21.2 == r24.2)) && (r29 == r30)) && (r31 == r32)))) (p_mv rfl (hg := fun e => rfl)) (gcT1 rfl) rfl ?_
      obtain ⟨r34, hr34, hX⟩ := bind_some hX
      refine TL.cvX (gcT1 rfl) rfl rfl (fun e => ⟨rfl, ⟨e, trivial⟩⟩) (fun e => ok_cartridgeref10_Names l1 _ (optG_t hr34 e)) ?_
      obtain ⟨r35, hr35, hX⟩ := bind_some hX
      refine TL.cvX (gcT1 rfl) rfl rfl (fun e => ⟨rfl, ⟨e, ⟨e, trivial⟩⟩⟩) (fun e => ok_cartridgeref1_SameTexts r33 r34 _ (optG_t hr35 e)) ?_
      refine TL.p (C := cx) (gc := true) (p_and rfl rfl (fun e => ⟨rfl, fun h => h⟩)) rfl rfl ?_
      refine TL.p (C := cx) (gc := true) (p_mv rfl) rfl rfl ?_
      refine TL.nil ?_
      refine hK26 _ _ ?_
      refine TK.ret ?_
      try dsimp only [thenQ]
      exact ret1 (v := Enc.v (((((((r27 && (r15.2 == r18.2)) && r28) && (r21.2 == r24.2)) && (r29 == r30)) && (r31 == r32)) && r35) : Bool)) rfl (by obtain rfl := some_in hX; rfl) (v_val _)
    refine TK.iter [0, 1, 2, 8] (fun s env h => match s with | i13 => ∃ _u : Unit, env = [(0, true, Enc.v (l1 : (List File_api))), (1, true, Enc.v (path2 : Str)), (2, true, Enc.v (version3 : Int)), (8, true, Enc.v (i13 : Int))] ∧ Nd [] ∧ HSub [] h) hO12 ⟨(), rfl, Nd_nil, HSub.refl _⟩ ?_
    rintro i13 env h x12x ⟨_u, rfl, nd, hs⟩ hX hR12
    refine TK.subH hs ?_
    unfold X.cartridgelaw18_ListingTells_s12 at hX
    try dsimp only at hX
    refine TK.seq_k fun K36 hK36 => ?_
    refine TK.seq_k fun K37 hK37 => ?_
    refine TK.reg ?_
    refine TL.p (C := cx) (gc := true) (p_mv rfl) rfl rfl ?_
    refine TL.p (C := cx) (gc := true) (p_mv rfl) rfl rfl ?_
    refine TL.p (C := cx) (gc := true) (p_lenL (xs := l1) kd31 rfl) rfl rfl ?_
    refine TL.p (C := cx) (gc := true) (p_lss rfl rfl) rfl rfl ?_
    refine TL.nil ?_
    refine hK37 _ _ ?_
    refine TK.cond (b := (decide (i13 < (l1.length : Int)))) rfl (fun hc => ?_) (fun hc => ?_)
    · have hX := ite_t hc hX
      refine TK.skip ?_
      refine hK36 _ _ ?_
      refine TK.seq_k fun K38 hK38 => ?_
      refine TK.block ?_
      refine TK.seq_k fun K39 hK39 => ?_
      refine TK.reg ?_
      refine TL.p (C := cx) (gc := true) (p_mv rfl) rfl rfl ?_
      refine TL.p (C := cx) (gc := true) (p_mv rfl) rfl rfl ?_
      obtain ⟨e40, he40, hX⟩ := bind_some hX
      refine TL.p (C := cx) (gc := true) (p_iaL (xs := l1) kd31 ty36 rfl rfl rfl (fun _ => he40)) rfl rfl ?_
      refine TL.p (C := cx) (gc := true) (p_faE fs36_6 (by decide) rfl) rfl rfl ?_
      refine TL.p (C := cx) (gc := true) (p_ldE (xs := l1) (a := e40) (e40.Parts : (List Part_api)) ty34 rfl rfl (fun _ => he40) rfl rfl rfl) rfl rfl ?_
      refine TL.p (C := cx) (gc := true) (p_lenL (xs := e40.Parts) kd34 rfl) rfl rfl ?_
      refine TL.p (C := cx) (gc := true) (p_gtr rfl rfl) rfl rfl ?_
      refine TL.p (C := cx) (gc := true) (p_mv rfl) rfl rfl ?_
      refine TL.p (C := cx) (gc := (!((decide ((e40.Parts.length : Int) > (20 : Int)))))) (p_mv rfl (hg := fun e => rfl)) (gcF1 rfl) rfl ?_
      refine TL.p (C := cx) (gc := (!((decide ((e40.Parts.length : Int) > (20 : Int)))))) (p_mv rfl (hg := fun e => rfl)) (gcF1 rfl) rfl ?_
      obtain ⟨e41, he41, hX⟩ := bind_some hX
      refine TL.p (C := cx) (gc := (!((decide ((e40.Parts.length : Int) > (20 : Int)))))) (p_iaL (xs := l1) kd31 ty36 rfl rfl rfl (fun e => optG_t he41 e) (hg := fun e => ⟨e, e⟩)) (gcF1 rfl) rfl ?_
      refine TL.p (C := cx) (gc := (!((decide ((e40.Parts.length : Int) > (20 : Int)))))) (p_faE fs36_1 (by decide) rfl (hg := fun e => e)) (gcF1 rfl) rfl ?_
      refine TL.p (C := cx) (gc := (!((decide ((e40.Parts.length : Int) > (20 : Int)))))) (p_ldE (xs := l1) (a := e41) (e41.Version : Int) ty3 rfl rfl (fun e => optG_t he41 e) rfl rfl rfl (hg := fun e => e)) (gcF1 rfl) rfl ?_
      refine TL.p (C := cx) (gc := (!((decide ((e40.Parts.length : Int) > (20 : Int)))))) (p_gtr rfl rfl (hg := fun e => ⟨e, rfl⟩)) (gcF1 rfl) rfl ?_
      refine TL.p (C := cx) (gc := true) (p_or rfl rfl (fun e => ⟨rfl, fun h => (not_t h)⟩)) rfl rfl ?_
      refine TL.p (C := cx) (gc := true) (p_mv rfl) rfl rfl ?_
      refine TL.p (C := cx) (gc := (!(((decide ((e40.Parts.length : Int) > (20 : Int))) || (decide (e41.Version > (1099511627776 : Int))))))) (p_mv rfl (hg := fun e => rfl)) (gcF1 rfl) rfl ?_
      refine TL.p (C := cx) (gc := (!(((decide ((e40.Parts.length : Int) > (20 : Int))) || (decide (e41.Version > (1099511627776 : Int))))))) (p_mv rfl (hg := fun e => rfl)) (gcF1 rfl) rfl ?_
      obtain ⟨e42, he42, hX⟩ := bind_some hX
      refine TL.p (C := cx) (gc := (!(((decide ((e40.Parts.length : Int) > (20 : Int))) || (decide (e41.Version > (1099511627776 : Int))))))) (p_iaL (xs := l1) kd31 ty36 rfl rfl rfl (fun e => optG_t he42 e) (hg := fun e => ⟨e, e⟩)) (gcF1 rfl) rfl ?_
      refine TL.p (C := cx) (gc := (!(((decide ((e40.Parts.length : Int) > (20 : Int))) || (decide (e41.Version > (1099511627776 : Int))))))) (p_faE fs36_4 (by decide) rfl (hg := fun e => e)) (gcF1 rfl) rfl ?_
      refine TL.p (C := cx) (gc := (!(((decide ((e40.Parts.length : Int) > (20 : Int))) || (decide (e41.Version > (1099511627776 : Int))))))) (p_ldE (xs := l1) (a := e42) (e42.Serial : Int) ty3 rfl rfl (fun e => optG_t he42 e) rfl rfl rfl (hg := fun e => e)) (gcF1 rfl) rfl ?_
      refine TL.p (C := cx) (gc := (!(((decide ((e40.Parts.length : Int) > (20 : Int))) || (decide (e41.Version > (1099511627776 : Int))))))) (p_gtr rfl rfl (hg := fun e => ⟨e, rfl⟩)) (gcF1 rfl) rfl ?_
      refine TL.p (C := cx) (gc := true) (p_or rfl rfl (fun e => ⟨rfl, fun h => (not_t h)⟩)) rfl rfl ?_
      refine TL.nil ?_
      refine hK39 _ _ ?_
      refine TK.cond (b := (((decide ((e40.Parts.length : Int) > (20 : Int))) || (decide (e41.Version > (1099511627776 : Int)))) || (decide (e42.Serial > (1099511627776 : Int))))) rfl (fun hc => ?_) (fun hc => ?_)
      · have hX := ite_t hc hX
        refine TK.seq_k fun K43 hK43 => ?_
        refine TK.reg ?_
        refine TL.p (C := cx) (gc := true) (p_mv rfl) rfl rfl ?_
        refine TL.nil ?_
        refine hK43 _ _ ?_
        refine TK.ret ?_
        obtain rfl := hR12 _ (some_in hX).symm
        replace hX := hA12
        try dsimp only [thenQ]
        exact ret1 (v := Enc.v (true : Bool)) rfl (by obtain rfl := some_in hX; rfl) (v_val _)
      · have hX := ite_f hc hX
        refine TK.skip ?_
        refine hK38 _ _ ?_
        refine TK.reg ?_
        refine TL.p (C := cx) (gc := true) (p_mv rfl) rfl rfl ?_
        refine TL.p (C := cx) (gc := true) (p_add rfl rfl) rfl rfl ?_
        refine TL.p (C := cx) (gc := true) (p_mv rfl) rfl rfl ?_
        refine TL.nil ?_
        exact ⟨_, (some_in hX).symm, (), rfl, Nd_nil, HSub.refl _⟩
    · have hX := ite_f hc hX
      refine TK.exit ?_
      obtain rfl := hR12 _ (some_in hX).symm
      exact E12 _ _ ⟨(), rfl, Nd_nil, HSub.refl _⟩ hA12

end Go.Proofs.Ytndjbcnpgggddaa
