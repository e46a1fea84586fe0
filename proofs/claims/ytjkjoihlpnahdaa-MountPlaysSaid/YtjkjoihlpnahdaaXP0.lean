import Derived.Test.YtjkjoihlpnahdaaXFn
import Derived.Test.YtjkjoihlpnahdaaXS
import Derived.Test.YtjkjoihlpnahdaaAmK0
import Derived.Test.YtjkjoihlpnahdaaAmK1
/- That they do. -/
namespace Go.Proofs.Ytjkjoihlpnahdaa
open Go.AM Go.AX
set_option linter.unusedVariables false
set_option maxRecDepth 20000

/-- (*cartridge/mount.Line).Len -/
theorem ok_mount_Line_Len (l1 : (List Int)) (r : Int) (hX : X.mount_Line_Len l1 = some r) : Fun Try.prog 19 [.vref (ofL [Enc.v (l1 : (List Int))]) 1 0] (· = Enc.v (r : Int)) := by
  refine Fun.of b19 (Nat.le_of_ble_eq_true rfl) (allVal.mem ⟨(by exact (vref_val (l := [Enc.v (l1 : (List Int))]) rfl ⟨(v_val _), trivial⟩)), trivial⟩) ?_
  unfold k19
  have nd : Nd [] := Nd_nil
  unfold X.mount_Line_Len at hX
  refine TK.seq_k fun K2 hK2 => ?_
  refine TK.reg ?_
  refine TL.p (C := cx) (gc := true) (p_mv rfl) rfl rfl ?_
  refine TL.nil ?_
  refine hK2 _ _ ?_
  refine TK.seq_k fun K3 hK3 => ?_
  refine TK.seq_k fun K4 hK4 => ?_
  refine TK.reg ?_
  refine TL.p (C := cx) (gc := true) (p_mv rfl) rfl rfl ?_
  refine TL.p (C := cx) (gc := true) (p_eqV kd35 rfl rfl) rfl rfl ?_
  refine TL.nil ?_
  refine hK4 _ _ ?_
  refine TK.cond (b := false) rfl (fun hc => by simp at hc) (fun _ => ?_)
  refine TK.skip ?_
  refine hK3 _ _ ?_
  refine TK.seq_k fun K5 hK5 => ?_
  refine TK.reg ?_
  refine TL.p (C := cx) (gc := true) (p_mv rfl) rfl rfl ?_
  refine TL.p (C := cx) (gc := true) (p_ncV rfl) rfl rfl ?_
  refine TL.p (C := cx) (gc := true) (p_faR fs37_0 (by decide) rfl) rfl rfl ?_
  refine TL.p (C := cx) (gc := true) (p_ldR (v := Enc.v (l1 : (List Int))) ty22 rfl rfl rfl rfl rfl rfl) rfl rfl ?_
  refine TL.p (C := cx) (gc := true) (p_lenL (xs := l1) kd22 rfl) rfl rfl ?_
  refine TL.p (C := cx) (gc := true) (p_mv rfl) rfl rfl ?_
  refine TL.nil ?_
  refine hK5 _ _ ?_
  refine TK.ret ?_
  try dsimp only [thenQ]
  exact ret1 (v := Enc.v ((l1.length : Int) : Int)) rfl (by obtain rfl := some_in hX; rfl) (v_val _)

/-- (*cartridge/mount.Line).Add -/
theorem ok_mount_Line_Add (label4 : Int) (l1 : (List Int)) (b2 : Nat) (b3 : Nat) (nd : Nd [(b2, RV 37 [OL (α := Int) b3 l1]), (b3, RL (α := Int) 3 l1)]) (r : (List Int)) (hX : X.mount_Line_Add label4 l1 = some r) : TCX Try.prog 16 [.ref b2 0 1, Enc.v (label4 : Int)] [(b2, RV 37 [OL (α := Int) b3 l1]), (b3, RL (α := Int) 3 l1)] (fun rv h' => ∃ b8, rv = .tup 0 (ofL []) ∧ h' = [(b2, RV 37 [OL (α := Int) b8 r]), (b8, RL (α := Int) 3 r)]) := by
  refine TCX.of b16 (Nat.le_of_ble_eq_true rfl) ?_
  unfold k16
  unfold X.mount_Line_Add at hX
  refine TK.endK fun KE hKE => ?_
  refine TK.seq_k fun K5 hK5 => ?_
  refine TK.reg ?_
  refine TL.p (C := cx) (gc := true) (p_mv rfl) rfl rfl ?_
  refine TL.p (C := cx) (gc := true) (p_neP kd35 rfl rfl (fun _ => refOK_of nd (j := 0) rfl rfl)) rfl rfl ?_
  refine TL.nil ?_
  refine hK5 _ _ ?_
  refine TK.cond (b := true) rfl (fun _ => ?_) (fun hc => by simp at hc)
  refine TK.reg ?_
  refine TL.p (C := cx) (gc := true) (p_mv rfl) rfl rfl ?_
  refine TL.p (C := cx) (gc := true) (p_mv rfl) rfl rfl ?_
  refine TL.p (C := cx) (gc := true) (p_ncR rfl (fun _ => refOK_of nd (j := 0) rfl rfl)) rfl rfl ?_
  refine TL.p (C := cx) (gc := true) (p_faV fs37_0 (by decide) rfl nd (j := 0) rfl rfl) rfl rfl ?_
  refine TL.p (C := cx) (gc := true) (p_ldV (v := OL (α := Int) b3 l1) ty22 rfl rfl nd (j := 0) rfl rfl rfl rfl rfl) rfl rfl ?_
  refine TL.p (C := cx) (gc := true) (p_mv rfl) rfl rfl ?_
  refine TL.lit (C := cx) ([label4] : List Int) kd22 ty3 rfl ⟨⟨rfl, rfl⟩, trivial⟩ rfl rfl rfl ?_
  obtain ⟨u6, hu6, hX⟩ := bind_some hX
  refine TL.appO (C := cx) nd kd22 bo22 ty3 rfl rfl (j := 1) rfl rfl (Src_L _) (by decide) (need_t hu6) rfl fun nd => ?_
  refine TL.p (C := cx) (gc := true) (p_ncR rfl (fun _ => refOK_of nd (j := 0) rfl rfl)) rfl rfl ?_
  refine TL.p (C := cx) (gc := true) (p_faV fs37_0 (by decide) rfl nd (j := 0) rfl rfl) rfl rfl ?_
  refine TL.stV (C := cx) (lu := [OL (α := Int) b3 (l1 ++ ([label4] : List Int))]) nd ty22 rfl (j := 0) rfl rfl rfl (Cells_rs (refOK_of nd (j := 1) rfl rfl)) rfl rfl [OL (α := Int) b3 (l1 ++ ([label4] : List Int))] rfl fun nd => ?_
  refine TL.nil ?_
  refine hKE _ _ ?_
  refine TL.nil ?_
  try dsimp only [thenQ]
  refine RetQ_end ?_
  exact retX (v := .tup 0 (ofL [])) res0 (by obtain rfl := some_in hX; exact ⟨b3, rfl, rfl⟩) nd (inH_tup (l := []) trivial) ⟨rowIn_RV ⟨inH_rs nd (j := 1) rfl, trivial⟩, rowIn_RL, trivial⟩

/-- (*cartridge/mount.Line).First -/
theorem ok_mount_Line_First (l1 : (List Int)) (r : (Int × Bool)) (hX : X.mount_Line_First l1 = some r) : Fun Try.prog 18 [.vref (ofL [Enc.v (l1 : (List Int))]) 1 0] (· = .tup 2 (ofL [Enc.v r.1, Enc.v r.2])) := by
  refine Fun.of b18 (Nat.le_of_ble_eq_true rfl) (allVal.mem ⟨(by exact (vref_val (l := [Enc.v (l1 : (List Int))]) rfl ⟨(v_val _), trivial⟩)), trivial⟩) ?_
  unfold k18
  have nd : Nd [] := Nd_nil
  unfold X.mount_Line_First at hX
  refine TK.seq_k fun K2 hK2 => ?_
  refine TK.reg ?_
  refine TL.p (C := cx) (gc := true) (p_mv rfl) rfl rfl ?_
  refine TL.p (C := cx) (gc := true) (p_mv rfl) rfl rfl ?_
  refine TL.nil ?_
  refine hK2 _ _ ?_
  refine TK.seq_k fun K3 hK3 => ?_
  refine TK.seq_k fun K4 hK4 => ?_
  refine TK.reg ?_
  refine TL.p (C := cx) (gc := true) (p_mv rfl) rfl rfl ?_
  obtain ⟨r5, hr5, hX⟩ := bind_some hX
  refine TL.cvX rfl rfl rfl (fun _ => ⟨rfl, ⟨rfl, trivial⟩⟩) (fun e => ok_mount_Line_Len l1 _ hr5) ?_
  refine TL.p (C := cx) (gc := true) (p_eql rfl rfl) rfl rfl ?_
  refine TL.nil ?_
  refine hK4 _ _ ?_
  refine TK.cond (b := (r5 == (0 : Int))) rfl (fun hc => ?_) (fun hc => ?_)
  · have hX := ite_t hc hX
    refine TK.seq_k fun K6 hK6 => ?_
    refine TK.reg ?_
    refine TL.p (C := cx) (gc := true) (p_mv rfl) rfl rfl ?_
    refine TL.p (C := cx) (gc := true) (p_mv rfl) rfl rfl ?_
    refine TL.nil ?_
    refine hK6 _ _ ?_
    refine TK.ret ?_
    try dsimp only [thenQ]
    exact retN (vs := [Enc.v ((0 : Int) : Int), Enc.v (false : Bool)]) ⟨rfl, rfl, trivial⟩ (by obtain rfl := some_in hX; rfl) (allVal.mem ⟨v_val _, v_val _, trivial⟩)
  · have hX := ite_f hc hX
    refine TK.skip ?_
    refine hK3 _ _ ?_
    refine TK.seq_k fun K7 hK7 => ?_
    refine TK.reg ?_
    refine TL.p (C := cx) (gc := true) (p_mv rfl) rfl rfl ?_
    refine TL.p (C := cx) (gc := true) (p_ncV rfl) rfl rfl ?_
    refine TL.p (C := cx) (gc := true) (p_faR fs37_0 (by decide) rfl) rfl rfl ?_
    refine TL.p (C := cx) (gc := true) (p_ldR (v := Enc.v (l1 : (List Int))) ty22 rfl rfl rfl rfl rfl rfl) rfl rfl ?_
    obtain ⟨e8, he8, hX⟩ := bind_some hX
    refine TL.p (C := cx) (gc := true) (p_iaL (xs := l1) kd22 ty3 rfl rfl rfl (fun _ => he8)) rfl rfl ?_
    refine TL.p (C := cx) (gc := true) (p_ldE (xs := l1) (a := e8) (e8 : Int) ty3 rfl rfl (fun _ => he8) rfl rfl rfl) rfl rfl ?_
    refine TL.p (C := cx) (gc := true) (p_mv rfl) rfl rfl ?_
    refine TL.p (C := cx) (gc := true) (p_mv rfl) rfl rfl ?_
    refine TL.nil ?_
    refine hK7 _ _ ?_
    refine TK.ret ?_
    try dsimp only [thenQ]
    exact retN (vs := [Enc.v (e8 : Int), Enc.v (true : Bool)]) ⟨rfl, rfl, trivial⟩ (by obtain rfl := some_in hX; rfl) (allVal.mem ⟨v_val _, v_val _, trivial⟩)

/-- slices.Index[[]int,int] -/
theorem ok_slices_Index_Lint_int (s1 : (List Int)) (v2 : Int) (r : Int) (hX : X.slices_Index_Lint_int s1 v2 = some r) : Fun Try.prog 43 [Enc.v (s1 : (List Int)), Enc.v (v2 : Int)] (· = Enc.v (r : Int)) := by
  refine Fun.of b43 (Nat.le_of_ble_eq_true rfl) (allVal.mem ⟨(by exact (v_val _)), (by exact (v_val _)), trivial⟩) ?_
  unfold k43
  have nd : Nd [] := Nd_nil
  unfold X.slices_Index_Lint_int at hX
  refine TK.seq_k fun K3 hK3 => ?_
  refine TK.reg ?_
  refine TL.p (C := cx) (gc := true) (p_mv rfl) rfl rfl ?_
  refine TL.nil ?_
  refine hK3 _ _ ?_
  refine TK.seq_k fun K4 hK4 => ?_
  refine TK.seq_k fun K5 hK5 => ?_
  refine TK.reg ?_
  refine TL.p (C := cx) (gc := true) (p_mv rfl) rfl rfl ?_
  refine TL.p (C := cx) (gc := true) (p_lenL (xs := s1) kd22 rfl) rfl rfl ?_
  refine TL.p (C := cx) (gc := true) (p_mv rfl) rfl rfl ?_
  refine TL.nil ?_
  refine hK5 _ _ ?_
  refine TK.block ?_
  obtain ⟨o6, hO6, hA6⟩ := bind_some hX
  have E6 : ∀ (env : Env) (h : Hp), (∃ _u : Unit, keepE [] env = [] ∧ Nd [] ∧ HSub [] h) → X.slices_Index_Lint_int_e6 = some r → K4 env h := by
    intro  env h hE hX
    obtain ⟨_u, henv, nd, hs⟩ := hE
    unfold X.slices_Index_Lint_int_e6 at hX
    refine hK4 _ _ (TK.keep [] ?_)
    rw [henv]
    refine TK.subH hs ?_
    refine TK.seq_k fun K8 hK8 => ?_
    refine TK.reg ?_
    refine TL.p (C := cx) (gc := true) (p_mv rfl) rfl rfl ?_
    refine TL.nil ?_
    refine hK8 _ _ ?_
    refine TK.ret ?_
    try dsimp only [thenQ]
    exact ret1 (v := Enc.v (((-1) : Int) : Int)) rfl (by obtain rfl := some_in hX; rfl) (v_val _)
  refine TK.iter [0, 1, 7, 8] (fun s env h => match s with | x7 => ∃ _u : Unit, env = [(0, true, Enc.v (s1 : (List Int))), (1, true, Enc.v (v2 : Int)), (7, true, Enc.v ((s1.length : Int) : Int)), (8, true, Enc.v (x7 : Int))] ∧ Nd [] ∧ HSub [] h) hO6 ⟨(), rfl, Nd_nil, HSub.refl _⟩ ?_
  rintro x7 env h x6x ⟨_u, rfl, nd, hs⟩ hX hR6
  refine TK.subH hs ?_
  unfold X.slices_Index_Lint_int_s6 at hX
  try dsimp only at hX
  refine TK.seq_k fun K9 hK9 => ?_
  refine TK.reg ?_
  refine TL.p (C := cx) (gc := true) (p_lss rfl rfl) rfl rfl ?_
  refine TL.nil ?_
  refine hK9 _ _ ?_
  refine TK.seq_k fun K10 hK10 => ?_
  refine TK.cond (b := (decide (x7 < (s1.length : Int)))) rfl (fun hc => ?_) (fun hc => ?_)
  · have hX := ite_t hc hX
    refine TK.skip ?_
    refine hK10 _ _ ?_
    refine TK.seq_k fun K11 hK11 => ?_
    refine TK.block ?_
    refine TK.seq_k fun K12 hK12 => ?_
    refine TK.reg ?_
    refine TL.p (C := cx) (gc := true) (p_mv rfl) rfl rfl ?_
    refine TL.p (C := cx) (gc := true) (p_mv rfl) rfl rfl ?_
    refine TL.nil ?_
    refine hK12 _ _ ?_
    refine TK.seq_k fun K13 hK13 => ?_
    refine TK.reg ?_
    refine TL.p (C := cx) (gc := true) (p_mv rfl) rfl rfl ?_
    refine TL.p (C := cx) (gc := true) (p_mv rfl) rfl rfl ?_
    refine TL.p (C := cx) (gc := true) (p_mv rfl) rfl rfl ?_
    obtain ⟨e14, he14, hX⟩ := bind_some hX
    refine TL.p (C := cx) (gc := true) (p_iaL (xs := s1) kd22 ty3 rfl rfl rfl (fun _ => he14)) rfl rfl ?_
    refine TL.p (C := cx) (gc := true) (p_ldE (xs := s1) (a := e14) (e14 : Int) ty3 rfl rfl (fun _ => he14) rfl rfl rfl) rfl rfl ?_
    refine TL.p (C := cx) (gc := true) (p_eql rfl rfl) rfl rfl ?_
    refine TL.nil ?_
    refine hK13 _ _ ?_
    refine TK.cond (b := (v2 == e14)) rfl (fun hc => ?_) (fun hc => ?_)
    · have hX := ite_t hc hX
      refine TK.seq_k fun K15 hK15 => ?_
      refine TK.reg ?_
      refine TL.p (C := cx) (gc := true) (p_mv rfl) rfl rfl ?_
      refine TL.p (C := cx) (gc := true) (p_mv rfl) rfl rfl ?_
      refine TL.nil ?_
      refine hK15 _ _ ?_
      refine TK.ret ?_
      obtain rfl := hR6 _ (some_in hX).symm
      replace hX := hA6
      try dsimp only [thenQ]
      exact ret1 (v := Enc.v (x7 : Int)) rfl (by obtain rfl := some_in hX; rfl) (v_val _)
    · have hX := ite_f hc hX
      refine TK.skip ?_
      refine hK11 _ _ ?_
      refine TK.reg ?_
      refine TL.p (C := cx) (gc := true) (p_add rfl rfl) rfl rfl ?_
      refine TL.p (C := cx) (gc := true) (p_mv rfl) rfl rfl ?_
      refine TL.nil ?_
      exact ⟨_, (some_in hX).symm, (), rfl, Nd_nil, HSub.refl _⟩
  · have hX := ite_f hc hX
    refine TK.exit ?_
    obtain rfl := hR6 _ (some_in hX).symm
    exact E6 _ _ ⟨(), rfl, Nd_nil, HSub.refl _⟩ hA6

/-- slices.Contains[[]int,int] -/
theorem ok_slices_Contains_Lint_int (s1 : (List Int)) (v2 : Int) (r : Bool) (hX : X.slices_Contains_Lint_int s1 v2 = some r) : Fun Try.prog 38 [Enc.v (s1 : (List Int)), Enc.v (v2 : Int)] (· = Enc.v (r : Bool)) := by
  refine Fun.of b38 (Nat.le_of_ble_eq_true rfl) (allVal.mem ⟨(by exact (v_val _)), (by exact (v_val _)), trivial⟩) ?_
  unfold k38
  have nd : Nd [] := Nd_nil
  unfold X.slices_Contains_Lint_int at hX
  refine TK.seq_k fun K3 hK3 => ?_
  refine TK.reg ?_
  refine TL.p (C := cx) (gc := true) (p_mv rfl) rfl rfl ?_
  refine TL.nil ?_
  refine hK3 _ _ ?_
  refine TK.seq_k fun K4 hK4 => ?_
  refine TK.reg ?_
  refine TL.p (C := cx) (gc := true) (p_mv rfl) rfl rfl ?_
  refine TL.p (C := cx) (gc := true) (p_mv rfl) rfl rfl ?_
  obtain ⟨r5, hr5, hX⟩ := bind_some hX
  refine TL.cvX rfl rfl rfl (fun _ => ⟨rfl, ⟨rfl, ⟨rfl, trivial⟩⟩⟩) (fun e => ok_slices_Index_Lint_int s1 v2 _ hr5) ?_
  refine TL.p (C := cx) (gc := true) (p_geq rfl rfl) rfl rfl ?_
  refine TL.p (C := cx) (gc := true) (p_mv rfl) rfl rfl ?_
  refine TL.nil ?_
  refine hK4 _ _ ?_
  refine TK.ret ?_
  try dsimp only [thenQ]
  exact ret1 (v := Enc.v ((decide (r5 ≥ (0 : Int))) : Bool)) rfl (by obtain rfl := some_in hX; rfl) (v_val _)

/-- (*cartridge/mount.Line).Wants -/
theorem ok_mount_Line_Wants (l1 : (List Int)) (label2 : Int) (r : Bool) (hX : X.mount_Line_Wants l1 label2 = some r) : Fun Try.prog 20 [.vref (ofL [Enc.v (l1 : (List Int))]) 1 0, Enc.v (label2 : Int)] (· = Enc.v (r : Bool)) := by
  refine Fun.of b20 (Nat.le_of_ble_eq_true rfl) (allVal.mem ⟨(by exact (vref_val (l := [Enc.v (l1 : (List Int))]) rfl ⟨(v_val _), trivial⟩)), (by exact (v_val _)), trivial⟩) ?_
  unfold k20
  have nd : Nd [] := Nd_nil
  unfold X.mount_Line_Wants at hX
  refine TK.seq_k fun K3 hK3 => ?_
  refine TK.reg ?_
  refine TL.p (C := cx) (gc := true) (p_mv rfl) rfl rfl ?_
  refine TL.nil ?_
  refine hK3 _ _ ?_
  refine TK.seq_k fun K4 hK4 => ?_
  refine TK.reg ?_
  refine TL.p (C := cx) (gc := true) (p_mv rfl) rfl rfl ?_
  refine TL.p (C := cx) (gc := true) (p_neV kd35 rfl rfl) rfl rfl ?_
  refine TL.p (C := cx) (gc := true) (p_mv rfl) rfl rfl ?_
  refine TL.guardT rfl ?_
  refine TL.p (C := cx) (gc := true) (p_mv rfl) rfl rfl ?_
  refine TL.guardT rfl ?_
  refine TL.p (C := cx) (gc := true) (p_ncV rfl) rfl rfl ?_
  refine TL.guardT rfl ?_
  refine TL.p (C := cx) (gc := true) (p_faR fs37_0 (by decide) rfl) rfl rfl ?_
  refine TL.guardT rfl ?_
  refine TL.p (C := cx) (gc := true) (p_ldR (v := Enc.v (l1 : (List Int))) ty22 rfl rfl rfl rfl rfl rfl) rfl rfl ?_
  refine TL.guardT rfl ?_
  refine TL.p (C := cx) (gc := true) (p_mv rfl) rfl rfl ?_
  obtain ⟨r5, hr5, hX⟩ := bind_some hX
  refine TL.guardT rfl ?_
  refine TL.cvX rfl rfl rfl (fun _ => ⟨rfl, ⟨rfl, ⟨rfl, trivial⟩⟩⟩) (fun e => ok_slices_Contains_Lint_int l1 label2 _ hr5) ?_
  refine TL.p (C := cx) (gc := true) (p_and rfl rfl (fun e => ⟨rfl, fun h => rfl⟩)) rfl rfl ?_
  refine TL.p (C := cx) (gc := true) (p_mv rfl) rfl rfl ?_
  refine TL.nil ?_
  refine hK4 _ _ ?_
  refine TK.ret ?_
  try dsimp only [thenQ]
  exact ret1 (v := Enc.v (r5 : Bool)) rfl (by obtain rfl := some_in hX; rfl) (v_val _)

/-- slices.IndexFunc[[]int,int] -/
theorem ok_slices_IndexFunc_Lint_int (s1 : (List Int)) (g2 : Int → Option Bool) (r : Int) (hX : X.slices_IndexFunc_Lint_int s1 g2 = some r) {g2V : AV} (hg2V : ∃ f m c, g2V = .fn f m c ∧ (∀ i, i < m → (c i).val) ∧ ∀ (a0 : Int) r, g2 a0 = some r → Fun Try.prog f ([Enc.v a0] ++ (List.range m).map c) (· = Enc.v r)) : Fun Try.prog 44 [Enc.v (s1 : (List Int)), g2V] (· = Enc.v (r : Int)) := by
  obtain ⟨g2f, g2m, g2c, rfl, hg2v, hg2⟩ := hg2V
  refine Fun.of b44 (Nat.le_of_ble_eq_true rfl) (allVal.mem ⟨(by exact (v_val _)), hg2v, trivial⟩) ?_
  unfold k44
  have nd : Nd [] := Nd_nil
  unfold X.slices_IndexFunc_Lint_int at hX
  refine TK.seq_k fun K3 hK3 => ?_
  refine TK.reg ?_
  refine TL.p (C := cx) (gc := true) (p_mv rfl) rfl rfl ?_
  refine TL.nil ?_
  refine hK3 _ _ ?_
  refine TK.seq_k fun K4 hK4 => ?_
  refine TK.seq_k fun K5 hK5 => ?_
  refine TK.reg ?_
  refine TL.p (C := cx) (gc := true) (p_mv rfl) rfl rfl ?_
  refine TL.p (C := cx) (gc := true) (p_lenL (xs := s1) kd22 rfl) rfl rfl ?_
  refine TL.p (C := cx) (gc := true) (p_mv rfl) rfl rfl ?_
  refine TL.nil ?_
  refine hK5 _ _ ?_
  refine TK.block ?_
  obtain ⟨o6, hO6, hA6⟩ := bind_some hX
  have E6 : ∀ (env : Env) (h : Hp), (∃ _u : Unit, keepE [] env = [] ∧ Nd [] ∧ HSub [] h) → X.slices_IndexFunc_Lint_int_e6 = some r → K4 env h := by
    intro  env h hE hX
    obtain ⟨_u, henv, nd, hs⟩ := hE
    unfold X.slices_IndexFunc_Lint_int_e6 at hX
    refine hK4 _ _ (TK.keep [] ?_)
    rw [henv]
    refine TK.subH hs ?_
    refine TK.seq_k fun K8 hK8 => ?_
    refine TK.reg ?_
    refine TL.p (C := cx) (gc := true) (p_mv rfl) rfl rfl ?_
    refine TL.nil ?_
    refine hK8 _ _ ?_
    refine TK.ret ?_
    try dsimp only [thenQ]
    exact ret1 (v := Enc.v (((-1) : Int) : Int)) rfl (by obtain rfl := some_in hX; rfl) (v_val _)
  refine TK.iter [0, 1, 7, 8] (fun s env h => match s with | x7 => ∃ _u : Unit, env = [(0, true, Enc.v (s1 : (List Int))), (1, true, .fn g2f g2m g2c), (7, true, Enc.v ((s1.length : Int) : Int)), (8, true, Enc.v (x7 : Int))] ∧ Nd [] ∧ HSub [] h) hO6 ⟨(), rfl, Nd_nil, HSub.refl _⟩ ?_
  rintro x7 env h x6x ⟨_u, rfl, nd, hs⟩ hX hR6
  refine TK.subH hs ?_
  unfold X.slices_IndexFunc_Lint_int_s6 at hX
  try dsimp only at hX
  refine TK.seq_k fun K9 hK9 => ?_
  refine TK.reg ?_
  refine TL.p (C := cx) (gc := true) (p_lss rfl rfl) rfl rfl ?_
  refine TL.nil ?_
  refine hK9 _ _ ?_
  refine TK.seq_k fun K10 hK10 => ?_
  refine TK.cond (b := (decide (x7 < (s1.length : Int)))) rfl (fun hc => ?_) (fun hc => ?_)
  · have hX := ite_t hc hX
    refine TK.skip ?_
    refine hK10 _ _ ?_
    refine TK.seq_k fun K11 hK11 => ?_
    refine TK.block ?_
    refine TK.seq_k fun K12 hK12 => ?_
    refine TK.reg ?_
    refine TL.p (C := cx) (gc := true) (p_mv rfl) rfl rfl ?_
    refine TL.p (C := cx) (gc := true) (p_mv rfl) rfl rfl ?_
    refine TL.nil ?_
    refine hK12 _ _ ?_
    refine TK.seq_k fun K13 hK13 => ?_
    refine TK.reg ?_
    refine TL.p (C := cx) (gc := true) (p_mv rfl) rfl rfl ?_
    refine TL.p (C := cx) (gc := true) (p_mv rfl) rfl rfl ?_
    refine TL.p (C := cx) (gc := true) (p_mv rfl) rfl rfl ?_
    obtain ⟨e14, he14, hX⟩ := bind_some hX
    refine TL.p (C := cx) (gc := true) (p_iaL (xs := s1) kd22 ty3 rfl rfl rfl (fun _ => he14)) rfl rfl ?_
    refine TL.p (C := cx) (gc := true) (p_ldE (xs := s1) (a := e14) (e14 : Int) ty3 rfl rfl (fun _ => he14) rfl rfl rfl) rfl rfl ?_
    obtain ⟨r15, hr15, hX⟩ := bind_some hX
    refine TL.cvX rfl rfl rfl (fun _ => ⟨rfl, ⟨rfl, trivial⟩⟩) (fun e => hg2 e14 _ hr15) ?_
    refine TL.nil ?_
    refine hK13 _ _ ?_
    refine TK.cond (b := r15) rfl (fun hc => ?_) (fun hc => ?_)
    · have hX := ite_t hc hX
      refine TK.seq_k fun K16 hK16 => ?_
      refine TK.reg ?_
      refine TL.p (C := cx) (gc := true) (p_mv rfl) rfl rfl ?_
      refine TL.p (C := cx) (gc := true) (p_mv rfl) rfl rfl ?_
      refine TL.nil ?_
      refine hK16 _ _ ?_
      refine TK.ret ?_
      obtain rfl := hR6 _ (some_in hX).symm
      replace hX := hA6
      try dsimp only [thenQ]
      exact ret1 (v := Enc.v (x7 : Int)) rfl (by obtain rfl := some_in hX; rfl) (v_val _)
    · have hX := ite_f hc hX
      refine TK.skip ?_
      refine hK11 _ _ ?_
      refine TK.reg ?_
      refine TL.p (C := cx) (gc := true) (p_add rfl rfl) rfl rfl ?_
      refine TL.p (C := cx) (gc := true) (p_mv rfl) rfl rfl ?_
      refine TL.nil ?_
      exact ⟨_, (some_in hX).symm, (), rfl, Nd_nil, HSub.refl _⟩
  · have hX := ite_f hc hX
    refine TK.exit ?_
    obtain rfl := hR6 _ (some_in hX).symm
    exact E6 _ _ ⟨(), rfl, Nd_nil, HSub.refl _⟩ hA6

/-- slices.DeleteFunc[[]int,int] -/
theorem ok_slices_DeleteFunc_Lint_int (g3 : Int → Option Bool) (s1 : (List Int)) (b2 : Nat) (nd : Nd [(b2, RL (α := Int) 3 s1)]) (r : (List Int)) (hX : X.slices_DeleteFunc_Lint_int g3 s1 = some r) {g3V : AV} (hg3V : ∃ f m c, g3V = .fn f m c ∧ (∀ i, i < m → (c i).val) ∧ ∀ (a0 : Int) r, g3 a0 = some r → Fun Try.prog f ([Enc.v a0] ++ (List.range m).map c) (· = Enc.v r)) : TCX Try.prog 36 [OL (α := Int) b2 s1, g3V] [(b2, RL (α := Int) 3 s1)] (fun rv h' => ∃ b37, rv = OL (α := Int) b37 r ∧ h' = [(b37, RL (α := Int) 3 r)]) := by
  obtain ⟨g3f, g3m, g3c, rfl, hg3v, hg3⟩ := hg3V
  refine TCX.of b36 (Nat.le_of_ble_eq_true rfl) ?_
  unfold k36
  unfold X.slices_DeleteFunc_Lint_int at hX
  refine TK.seq_k fun K4 hK4 => ?_
  refine TK.reg ?_
  refine TL.p (C := cx) (gc := true) (p_mv rfl) rfl rfl ?_
  refine TL.nil ?_
  refine hK4 _ _ ?_
  refine TK.seq_k fun K5 hK5 => ?_
  refine TK.reg ?_
  refine TL.p (C := cx) (gc := true) (p_mv rfl) rfl rfl ?_
  refine TL.p (C := cx) (gc := true) (p_mv rfl) rfl rfl ?_
  obtain ⟨r6, hr6, hX⟩ := bind_some hX
  refine TL.lookX [L s1, .fn g3f g3m g3c] rfl rfl rfl (fun _ => ⟨rfl, ⟨rfl, ⟨rfl, trivial⟩⟩⟩) ⟨look_OL nd (j := 0) rfl, look_v hg3v, trivial⟩ (fun e => ok_slices_IndexFunc_Lint_int s1 g3 _ hr6 ⟨_, _, _, rfl, hg3v, hg3⟩) (trivial) ?_
  refine TL.p (C := cx) (gc := true) (p_mv rfl) rfl rfl ?_
  refine TL.nil ?_
  refine hK5 _ _ ?_
  refine TK.seq_k fun K7 hK7 => ?_
  refine TK.seq_k fun K8 hK8 => ?_
  refine TK.reg ?_
  refine TL.p (C := cx) (gc := true) (p_mv rfl) rfl rfl ?_
  refine TL.p (C := cx) (gc := true) (p_eql rfl rfl) rfl rfl ?_
  refine TL.nil ?_
  refine hK8 _ _ ?_
  refine TK.cond (b := (r6 == ((-1) : Int))) rfl (fun hc => ?_) (fun hc => ?_)
  · have hX := ite_t hc hX
    refine TK.seq_k fun K9 hK9 => ?_
    refine TK.reg ?_
    refine TL.p (C := cx) (gc := true) (p_mv rfl) rfl rfl ?_
    refine TL.p (C := cx) (gc := true) (p_mv rfl) rfl rfl ?_
    refine TL.nil ?_
    refine hK9 _ _ ?_
    refine TK.ret ?_
    try dsimp only [thenQ]
    exact retX (v := OL (α := Int) b2 s1) (res1 rfl) (by obtain rfl := some_in hX; exact ⟨b2, rfl, rfl⟩) nd (inH_rs nd (j := 0) rfl) ⟨rowIn_RL, trivial⟩
  · have hX := ite_f hc hX
    refine TK.skip ?_
    refine hK7 _ _ ?_
    refine TK.seq_k fun K10 hK10 => ?_
    refine TK.seq_k fun K11 hK11 => ?_
    refine TK.reg ?_
    refine TL.p (C := cx) (gc := true) (p_mv rfl) rfl rfl ?_
    refine TL.p (C := cx) (gc := true) (p_add rfl rfl) rfl rfl ?_
    refine TL.p (C := cx) (gc := true) (p_mv rfl) rfl rfl ?_
    refine TL.nil ?_
    refine hK11 _ _ ?_
    refine TK.block ?_
    obtain ⟨o12, hO12, hA12⟩ := bind_some hX
    have E12 : ∀ (l18 : List Int) (i19 : Int) (env : Env) (h : Hp), (∃ _u : Unit, keepE [0, 5] env = [(0, true, OL (α := Int) b2 l18), (5, true, Enc.v (i19 : Int))] ∧ Nd [(b2, RL (α := Int) 3 l18)] ∧ HSub [(b2, RL (α := Int) 3 l18)] h) → X.slices_DeleteFunc_Lint_int_e12 l18 i19 = some r → K10 env h := by
      intro l18 i19 env h hE hX
      obtain ⟨_u, henv, nd, hs⟩ := hE
      unfold X.slices_DeleteFunc_Lint_int_e12 at hX
      refine hK10 _ _ (TK.keep [0, 5] ?_)
      rw [henv]
      refine TK.subH hs ?_
      refine TK.seq_k fun K20 hK20 => ?_
      refine TK.reg ?_
      refine TL.p (C := cx) (gc := true) (p_mv rfl) rfl rfl ?_
      refine TL.p (C := cx) (gc := true) (p_mv rfl) rfl rfl ?_
      obtain ⟨u21, hu21, hX⟩ := bind_some hX
      refine TL.p (C := cx) (gc := true) (p_sliO (xs := l18) (l := i19) (k := (l18.length : Int)) kd22 ty3 rfl rfl nd (j := 0) rfl rfl rfl (fun e => need_t hu21)) rfl rfl ?_
      refine TL.clrO (C := cx) nd (0 : Int) kd22 ty3 rfl (fun j hj => by (have : j = 0 := by simpa [Enc.sz] using hj); subst this; rfl) rfl (j := 0) rfl (need_t hu21).1 fun nd => ?_
      refine TL.cv 0 (OL b2 (clr l18 i19 (l18.length : Int) (0 : Int))) rfl (Wk_eq (OL_len (clr_len (need_t hu21).1))) ?_
      refine TL.nil ?_
      refine hK20 _ _ ?_
      refine TK.seq_k fun K22 hK22 => ?_
      refine TK.reg ?_
      refine TL.p (C := cx) (gc := true) (p_mv rfl) rfl rfl ?_
      refine TL.p (C := cx) (gc := true) (p_mv rfl) rfl rfl ?_
      obtain ⟨u23, hu23, hX⟩ := bind_some hX
      refine TL.p (C := cx) (gc := true) (p_sliO (xs := (clr l18 i19 (l18.length : Int) (0 : Int))) (l := (0 : Int)) (k := i19) kd22 ty3 rfl rfl nd (j := 0) rfl rfl rfl (fun e => need_t hu23)) rfl rfl ?_
      refine TL.p (C := cx) (gc := true) (p_mv rfl) rfl rfl ?_
      refine TL.nil ?_
      refine hK22 _ _ ?_
      refine TK.cutX (xs := (clr l18 i19 (l18.length : Int) (0 : Int))) (k := i19) 4 nd (j := 0) rfl rfl (by have := (need_t hu23).1; omega) fun b24 nd => ?_
      refine TK.ret ?_
      try dsimp only [thenQ]
      exact retX (v := OL (α := Int) b24 (slc (clr l18 i19 (l18.length : Int) (0 : Int)) (0 : Int) i19)) (res1 rfl) (by obtain rfl := some_in hX; exact ⟨b24, rfl, rfl⟩) nd (inH_rs nd (j := 0) rfl) ⟨rowIn_RL, trivial⟩
    refine TK.iter [0, 1, 5, 6] (fun s env h => match s with | (s14, i15, j16) => ∃ _u : Unit, env = [(0, true, OL (α := Int) b2 s14), (1, true, .fn g3f g3m g3c), (5, true, Enc.v (i15 : Int)), (6, true, Enc.v (j16 : Int))] ∧ Nd [(b2, RL (α := Int) 3 s14)] ∧ HSub [(b2, RL (α := Int) 3 s14)] h) hO12 ⟨(), rfl, (Nd.pick nd (is := [0]) (by decide)), (HSub.pick nd (is := [0]) (by decide))⟩ ?_
    rintro ⟨s14, i15, j16⟩ env h x12x ⟨_u, rfl, nd, hs⟩ hX hR12
    refine TK.subH hs ?_
    unfold X.slices_DeleteFunc_Lint_int_s12 at hX
    try dsimp only at hX
    refine TK.seq_k fun K25 hK25 => ?_
    refine TK.seq_k fun K26 hK26 => ?_
    refine TK.reg ?_
    refine TL.p (C := cx) (gc := true) (p_mv rfl) rfl rfl ?_
    refine TL.p (C := cx) (gc := true) (p_mv rfl) rfl rfl ?_
    refine TL.p (C := cx) (gc := true) (p_lenR kd22 rfl (fun _ => refOK_of nd (j := 0) rfl rfl)) rfl rfl ?_
    refine TL.p (C := cx) (gc := true) (p_lss rfl rfl) rfl rfl ?_
    refine TL.nil ?_
    refine hK26 _ _ ?_
    refine TK.cond (b := (decide (j16 < (s14.length : Int)))) rfl (fun hc => ?_) (fun hc => ?_)
    · have hX := ite_t hc hX
      refine TK.skip ?_
      refine hK25 _ _ ?_
      refine TK.seq_k fun K27 hK27 => ?_
      have J27 : ∀ (l29 : List Int) (i30 : Int) (env : Env) (h : Hp), (∃ _u : Unit, keepE [0, 1, 5, 6] env = [(0, true, OL (α := Int) b2 l29), (1, true, .fn g3f g3m g3c), (5, true, Enc.v (i30 : Int)), (6, true, Enc.v (j16 : Int))] ∧ Nd [(b2, RL (α := Int) 3 l29)] ∧ HSub [(b2, RL (α := Int) 3 l29)] h) → X.slices_DeleteFunc_Lint_int_j27 j16 l29 i30 = some x12x → K27 env h := by
        intro l29 i30 env h hE hX
        obtain ⟨_u, henv, nd, hs⟩ := hE
        unfold X.slices_DeleteFunc_Lint_int_j27 at hX
        refine hK27 _ _ (TK.keep [0, 1, 5, 6] ?_)
        rw [henv]
        refine TK.subH hs ?_
        refine TK.reg ?_
        refine TL.p (C := cx) (gc := true) (p_mv rfl) rfl rfl ?_
        refine TL.p (C := cx) (gc := true) (p_add rfl rfl) rfl rfl ?_
        refine TL.p (C := cx) (gc := true) (p_mv rfl) rfl rfl ?_
        refine TL.nil ?_
        exact ⟨_, (some_in hX).symm, (), rfl, (Nd.pick nd (is := [0]) (by decide)), (HSub.pick nd (is := [0]) (by decide))⟩
      refine TK.block ?_
      refine TK.seq_k fun K31 hK31 => ?_
      refine TK.reg ?_
      refine TL.p (C := cx) (gc := true) (p_mv rfl) rfl rfl ?_
      refine TL.p (C := cx) (gc := true) (p_mv rfl) rfl rfl ?_
      obtain ⟨e32, he32, hX⟩ := bind_some hX
      refine TL.p (C := cx) (gc := true) (p_iaO (xs := s14) kd22 ty3 rfl rfl rfl nd (j := 0) rfl (fun _ => he32)) rfl rfl ?_
      refine TL.p (C := cx) (gc := true) (p_ldO (xs := s14) (a := e32) (e32 : Int) ty3 rfl rfl nd (j := 0) rfl (fun _ => he32) rfl rfl rfl) rfl rfl ?_
      refine TL.p (C := cx) (gc := true) (p_mv rfl) rfl rfl ?_
      refine TL.nil ?_
      refine hK31 _ _ ?_
      refine TK.seq_k fun K33 hK33 => ?_
      refine TK.reg ?_
      refine TL.p (C := cx) (gc := true) (p_mv rfl) rfl rfl ?_
      refine TL.p (C := cx) (gc := true) (p_mv rfl) rfl rfl ?_
      obtain ⟨r34, hr34, hX⟩ := bind_some hX
      refine TL.cvX rfl rfl rfl (fun _ => ⟨rfl, ⟨rfl, trivial⟩⟩) (fun e => hg3 e32 _ hr34) ?_
      refine TL.p (C := cx) (gc := true) (p_not rfl) rfl rfl ?_
      refine TL.nil ?_
      refine hK33 _ _ ?_
      refine TK.cond (b := (!r34)) rfl (fun hc => ?_) (fun hc => ?_)
      · have hX := ite_t hc hX
        refine TK.seq_k fun K35 hK35 => ?_
        refine TK.reg ?_
        refine TL.p (C := cx) (gc := true) (p_mv rfl) rfl rfl ?_
        refine TL.p (C := cx) (gc := true) (p_mv rfl) rfl rfl ?_
        refine TL.p (C := cx) (gc := true) (p_mv rfl) rfl rfl ?_
        obtain ⟨e36, he36, hX⟩ := bind_some hX
        refine TL.p (C := cx) (gc := true) (p_iaO (xs := s14) kd22 ty3 rfl rfl rfl nd (j := 0) rfl (fun _ => he36)) rfl rfl ?_
        refine TL.stW (C := cx) (xs := s14) (i := i15) (lu := Enc.cl (e32 : Int)) (a' := e32) nd ty3 rfl (j := 0) rfl (by simp [Enc.sz]) (inb_of he36 (by simp)) rfl (Cells_v (e32 : Int)) rfl (WkL_refl _) fun nd => ?_
        refine TL.cv 0 (OL b2 (s14.set i15.toNat e32)) rfl (Wk_eq (OL_len (by simp))) ?_
        refine TL.nil ?_
        refine hK35 _ _ ?_
        refine TK.reg ?_
        refine TL.p (C := cx) (gc := true) (p_mv rfl) rfl rfl ?_
        refine TL.p (C := cx) (gc := true) (p_add rfl rfl) rfl rfl ?_
        refine TL.p (C := cx) (gc := true) (p_mv rfl) rfl rfl ?_
        refine TL.nil ?_
        exact J27 (s14.set i15.toNat e32) (wr (i15 + (1 : Int))) _ _ ⟨(), rfl, (Nd.pick nd (is := [0]) (by decide)), (HSub.pick nd (is := [0]) (by decide))⟩ hX
      · have hX := ite_f hc hX
        refine TK.skip ?_
        exact J27 s14 i15 _ _ ⟨(), rfl, (Nd.pick nd (is := [0]) (by decide)), (HSub.pick nd (is := [0]) (by decide))⟩ hX
    · have hX := ite_f hc hX
      refine TK.exit ?_
      obtain rfl := hR12 _ (some_in hX).symm
      exact E12 s14 i15 _ _ ⟨(), rfl, (Nd.pick nd (is := [0]) (by decide)), (HSub.pick nd (is := [0]) (by decide))⟩ hA12

/-- (*cartridge/mount.Line).Serve$1 -/
theorem ok_mount_Line_Serve_c1 (x1 : Int) (c2 : Int) (r : Bool) (hX : X.mount_Line_Serve_c1 x1 c2 = some r) : Fun Try.prog 37 [Enc.v (x1 : Int), .vref (ofL [Enc.v (c2 : Int)]) 1 0] (· = Enc.v (r : Bool)) := by
  refine Fun.of b37 (Nat.le_of_ble_eq_true rfl) (allVal.mem ⟨(by exact (v_val _)), (by exact (vref_val (l := [Enc.v (c2 : Int)]) rfl ⟨(v_val _), trivial⟩)), trivial⟩) ?_
  unfold k37
  have nd : Nd [] := Nd_nil
  unfold X.mount_Line_Serve_c1 at hX
  refine TK.seq_k fun K3 hK3 => ?_
  refine TK.reg ?_
  refine TL.p (C := cx) (gc := true) (p_mv rfl) rfl rfl ?_
  refine TL.nil ?_
  refine hK3 _ _ ?_
  refine TK.seq_k fun K4 hK4 => ?_
  refine TK.reg ?_
  refine TL.p (C := cx) (gc := true) (p_mv rfl) rfl rfl ?_
  refine TL.p (C := cx) (gc := true) (p_ldR (v := Enc.v (c2 : Int)) ty3 rfl rfl rfl rfl rfl rfl) rfl rfl ?_
  refine TL.p (C := cx) (gc := true) (p_eql rfl rfl) rfl rfl ?_
  refine TL.p (C := cx) (gc := true) (p_mv rfl) rfl rfl ?_
  refine TL.nil ?_
  refine hK4 _ _ ?_
  refine TK.ret ?_
  try dsimp only [thenQ]
  exact ret1 (v := Enc.v ((x1 == c2) : Bool)) rfl (by obtain rfl := some_in hX; rfl) (v_val _)

/-- (*cartridge/mount.Line).Serve -/
theorem ok_mount_Line_Serve (label4 : Int) (l1 : (List Int)) (b2 : Nat) (b3 : Nat) (nd : Nd [(b2, RV 37 [OL (α := Int) b3 l1]), (b3, RL (α := Int) 3 l1)]) (r : (Int × (List Int))) (hX : X.mount_Line_Serve label4 l1 = some r) : TCX Try.prog 17 [.ref b2 0 1, Enc.v (label4 : Int)] [(b2, RV 37 [OL (α := Int) b3 l1]), (b3, RL (α := Int) 3 l1)] (fun rv h' => ∃ b18, rv = Enc.v (r.1 : Int) ∧ h' = [(b2, RV 37 [OL (α := Int) b18 r.2]), (b18, RL (α := Int) 3 r.2)]) := by
  refine TCX.of b17 (Nat.le_of_ble_eq_true rfl) ?_
  unfold k17
  unfold X.mount_Line_Serve at hX
  refine TK.seq_k fun K5 hK5 => ?_
  refine TK.reg ?_
  refine TL.boxV (C := cx) (lu := [Enc.v (label4 : Int)]) nd rfl (Cells_v (label4 : Int)) rfl ?_
  refine TL.p (C := cx) (gc := true) (p_mv rfl) rfl rfl ?_
  refine TL.nil ?_
  refine hK5 _ _ ?_
  refine TK.seq_k fun K6 hK6 => ?_
  refine TK.reg ?_
  refine TL.p (C := cx) (gc := true) (p_mv rfl) rfl rfl ?_
  obtain ⟨r7, hr7, hX⟩ := bind_some hX
  refine TL.lookX [.vref (ofL [Enc.v (l1 : (List Int))]) 1 0] rfl rfl rfl (fun _ => ⟨rfl, ⟨rfl, trivial⟩⟩) ⟨look_ref (l := [OL (α := Int) b3 l1]) nd (j := 0) rfl ⟨look_OL nd (j := 1) rfl, trivial⟩, trivial⟩ (fun e => ok_mount_Line_Len l1 _ hr7) (trivial) ?_
  refine TL.p (C := cx) (gc := true) (p_mv rfl) rfl rfl ?_
  refine TL.nil ?_
  refine hK6 _ _ ?_
  refine TK.seq_k fun K8 hK8 => ?_
  have J8 : ∀ (l11 : List Int) (env : Env) (h : Hp), (∃ b10, keepE [0, 5] env = [(0, true, .ref b2 0 1), (5, true, Enc.v (r7 : Int))] ∧ Nd [(b10, RL (α := Int) 3 l11), (b2, RV 37 [OL (α := Int) b10 l11])] ∧ HSub [(b10, RL (α := Int) 3 l11), (b2, RV 37 [OL (α := Int) b10 l11])] h) → X.mount_Line_Serve_j8 r7 l11 = some r → K8 env h := by
    intro l11 env h hE hX
    obtain ⟨b10, henv, nd, hs⟩ := hE
    unfold X.mount_Line_Serve_j8 at hX
    refine hK8 _ _ (TK.keep [0, 5] ?_)
    rw [henv]
    refine TK.subH hs ?_
    refine TK.seq_k fun K12 hK12 => ?_
    refine TK.reg ?_
    refine TL.p (C := cx) (gc := true) (p_mv rfl) rfl rfl ?_
    refine TL.p (C := cx) (gc := true) (p_mv rfl) rfl rfl ?_
    obtain ⟨r13, hr13, hX⟩ := bind_some hX
    refine TL.lookX [.vref (ofL [Enc.v (l11 : (List Int))]) 1 0] rfl rfl rfl (fun _ => ⟨rfl, ⟨rfl, trivial⟩⟩) ⟨look_ref (l := [OL (α := Int) b10 l11]) nd (j := 1) rfl ⟨look_OL nd (j := 0) rfl, trivial⟩, trivial⟩ (fun e => ok_mount_Line_Len l11 _ hr13) (trivial) ?_
    refine TL.p (C := cx) (gc := true) (p_sub rfl rfl) rfl rfl ?_
    refine TL.p (C := cx) (gc := true) (p_mv rfl) rfl rfl ?_
    refine TL.nil ?_
    refine hK12 _ _ ?_
    refine TK.pick [1, 0] nd (by decide) fun nd => ?_
    refine TK.ret ?_
    try dsimp only [thenQ]
    exact retX (v := Enc.v ((wr (r7 - r13)) : Int)) (res1 rfl) (by obtain rfl := some_in hX; exact ⟨b10, rfl, rfl⟩) nd (inH_val (v_val _)) ⟨rowIn_RV ⟨inH_rs nd (j := 1) rfl, trivial⟩, rowIn_RL, trivial⟩
  refine TK.seq_k fun K14 hK14 => ?_
  refine TK.reg ?_
  refine TL.p (C := cx) (gc := true) (p_mv rfl) rfl rfl ?_
  refine TL.p (C := cx) (gc := true) (p_gtr rfl rfl) rfl rfl ?_
  refine TL.nil ?_
  refine hK14 _ _ ?_
  refine TK.cond (b := (decide (r7 > (0 : Int)))) rfl (fun hc => ?_) (fun hc => ?_)
  · have hX := ite_t hc hX
    refine TK.reg ?_
    refine TL.p (C := cx) (gc := true) (p_mv rfl) rfl rfl ?_
    refine TL.p (C := cx) (gc := true) (p_mv rfl) rfl rfl ?_
    refine TL.p (C := cx) (gc := true) (p_ncR rfl (fun _ => refOK_of nd (j := 0) rfl rfl)) rfl rfl ?_
    refine TL.p (C := cx) (gc := true) (p_faV fs37_0 (by decide) rfl nd (j := 0) rfl rfl) rfl rfl ?_
    refine TL.p (C := cx) (gc := true) (p_ldV (v := OL (α := Int) b3 l1) ty22 rfl rfl nd (j := 0) rfl rfl rfl rfl rfl) rfl rfl ?_
    refine TL.p (C := cx) (gc := true) (p_mf (l := [.vref (ofL [Enc.v (label4 : Int)]) 1 0]) rfl (fun _ => ⟨rfl, trivial⟩)) rfl rfl ?_
    obtain ⟨r15, hr15, hX⟩ := bind_some hX
    refine TL.pick [1, 0] nd (by decide) fun nd => ?_
    refine TL.tcX [(b3, RL (α := Int) 3 l1)] [(b2, RV 37 [OL (α := Int) b3 l1])] rfl nd (dlt rfl) rfl ⟨rfl, ⟨rfl, ⟨rfl, trivial⟩⟩⟩ (ok_slices_DeleteFunc_Lint_int (fun a1 => X.mount_Line_Serve_c1 a1 label4) l1 b3 (Nd.take nd 1 rfl) _ hr15 ⟨37, 1, ofL [.vref (ofL [Enc.v (label4 : Int)]) 1 0], rfl, (caps_val rfl ⟨(vref_val rfl ⟨v_val _, trivial⟩), trivial⟩), fun a1 r hr => ok_mount_Line_Serve_c1 a1 label4 r hr⟩) ?_
    rintro _ _ hQ nd
    obtain ⟨b16, rfl, rfl⟩ := hQ
    refine TL.p (C := cx) (gc := true) (p_ncR rfl (fun _ => refOK_of nd (j := 1) rfl rfl)) rfl rfl ?_
    refine TL.p (C := cx) (gc := true) (p_faV fs37_0 (by decide) rfl nd (j := 1) rfl rfl) rfl rfl ?_
    refine TL.stV (C := cx) (lu := [OL (α := Int) b16 r15]) nd ty22 rfl (j := 1) rfl rfl rfl (Cells_rs (refOK_of nd (j := 0) rfl rfl)) rfl rfl [OL (α := Int) b16 r15] rfl fun nd => ?_
    refine TL.nil ?_
    exact J8 r15 _ _ ⟨b16, rfl, (Nd.pick nd (is := [0, 1]) (by decide)), (HSub.pick nd (is := [0, 1]) (by decide))⟩ hX
  · have hX := ite_f hc hX
    refine TK.skip ?_
    exact J8 l1 _ _ ⟨b3, rfl, (Nd.pick nd (is := [1, 0]) (by decide)), (HSub.pick nd (is := [1, 0]) (by decide))⟩ hX

/-- cartridge/cartridgelaw23.alive -/
theorem ok_cartridgelaw23_alive  (r : Bool) (hX : X.cartridgelaw23_alive = some r) : Fun Try.prog 15 [] (· = Enc.v (r : Bool)) := by
  refine Fun.of b15 (Nat.le_of_ble_eq_true rfl) (fun x hx => by cases hx) ?_
  unfold k15
  have nd : Nd [] := Nd_nil
  unfold X.cartridgelaw23_alive at hX
  refine TK.seq_k fun K1 hK1 => ?_
  refine TK.reg ?_
  refine TL.p (C := cx) (gc := true) (p_mv rfl) rfl rfl ?_
  refine TL.nil ?_
  refine hK1 _ _ ?_
  refine TK.seq_k fun K2 hK2 => ?_
  refine TK.reg ?_
  refine TL.p (C := cx) (gc := true) (p_bld (l := [.nils]) ty37 rfl all37 rfl (fun _ => trivial)) rfl rfl ?_
  refine TL.boxO (C := cx) (lu := [.nils]) nd rfl (Cells_agg rfl (allA.mem ⟨trivial, trivial⟩)) rfl fun b3 nd => ?_
  refine TL.p (C := cx) (gc := true) (p_mv rfl) rfl rfl ?_
  refine TL.nil ?_
  refine hK2 _ _ ?_
  refine TK.ownC (α := Int) nd (j := 0) rfl 0 3 (.inl rfl) fun b4 nd => ?_
  refine TK.seq_k fun K5 hK5 => ?_
  refine TK.reg ?_
  refine TL.p (C := cx) (gc := true) (p_mv rfl) rfl rfl ?_
  obtain ⟨r6, hr6, hX⟩ := bind_some hX
  refine TL.lookX [.vref (ofL [Enc.v (([] : List Int) : (List Int))]) 1 0] rfl rfl rfl (fun _ => ⟨rfl, ⟨rfl, trivial⟩⟩) ⟨look_ref (l := [OL (α := Int) b4 ([] : List Int)]) nd (j := 1) rfl ⟨look_OL nd (j := 0) rfl, trivial⟩, trivial⟩ (fun e => ok_mount_Line_Len ([] : List Int) _ hr6) (trivial) ?_
  refine TL.p (C := cx) (gc := true) (p_mv rfl) rfl rfl ?_
  refine TL.nil ?_
  refine hK5 _ _ ?_
  refine TK.seq_k fun K7 hK7 => ?_
  refine TK.reg ?_
  refine TL.p (C := cx) (gc := true) (p_mv rfl) rfl rfl ?_
  obtain ⟨r8, hr8, hX⟩ := bind_some hX
  refine TL.pick [1, 0] nd (by decide) fun nd => ?_
  refine TL.tcX [(b3, RV 37 [OL (α := Int) b4 ([] : List Int)]), (b4, RL (α := Int) 3 ([] : List Int))] [] rfl nd (dlt rfl) rfl ⟨rfl, ⟨rfl, ⟨rfl, trivial⟩⟩⟩ (ok_mount_Line_Add (4 : Int) ([] : List Int) b3 b4 (Nd.take nd 2 rfl) _ hr8) ?_
  rintro _ _ hQ nd
  obtain ⟨b10, rfl, rfl⟩ := hQ
  refine TL.nil ?_
  refine hK7 _ _ ?_
  refine TK.seq_k fun K11 hK11 => ?_
  refine TK.reg ?_
  refine TL.p (C := cx) (gc := true) (p_mv rfl) rfl rfl ?_
  obtain ⟨r12, hr12, hX⟩ := bind_some hX
  refine TL.lookX [.vref (ofL [Enc.v (r8 : (List Int))]) 1 0] rfl rfl rfl (fun _ => ⟨rfl, ⟨rfl, trivial⟩⟩) ⟨look_ref (l := [OL (α := Int) b10 r8]) nd (j := 0) rfl ⟨look_OL nd (j := 1) rfl, trivial⟩, trivial⟩ (fun e => ok_mount_Line_First r8 _ hr12) (tup_closed rfl ⟨trivial, trivial, trivial⟩) ?_
  refine TL.p (C := cx) (gc := true) (p_mv rfl) rfl rfl ?_
  refine TL.p (C := cx) (gc := true) (p_ex rfl rfl (by decide)) rfl rfl ?_
  refine TL.p (C := cx) (gc := true) (p_ex rfl rfl (by decide)) rfl rfl ?_
  refine TL.p (C := cx) (gc := true) (p_mv rfl) rfl rfl ?_
  refine TL.p (C := cx) (gc := true) (p_mv rfl) rfl rfl ?_
  refine TL.nil ?_
  refine hK11 _ _ ?_
  refine TK.seq_k fun K13 hK13 => ?_
  refine TK.reg ?_
  refine TL.p (C := cx) (gc := true) (p_mv rfl) rfl rfl ?_
  refine TL.p (C := cx) (gc := true) (p_eql rfl rfl) rfl rfl ?_
  refine TL.p (C := cx) (gc := true) (p_mv rfl) rfl rfl ?_
  refine TL.p (C := cx) (gc := ((r6 == (0 : Int)))) (p_mv rfl (hg := fun e => rfl)) (gcT1 rfl) rfl ?_
  refine TL.p (C := cx) (gc := true) (p_and rfl rfl (fun e => ⟨rfl, fun h => h⟩)) rfl rfl ?_
  refine TL.p (C := cx) (gc := true) (p_mv rfl) rfl rfl ?_
  refine TL.p (C := cx) (gc := (((r6 == (0 : Int)) && r12.2))) (p_mv rfl (hg := fun e => rfl)) (gcT1 rfl) rfl ?_
  refine TL.p (C := cx) (gc := (((r6 == (0 : Int)) && r12.2))) (p_eql rfl rfl (hg := fun e => ⟨e, rfl⟩)) (gcT1 rfl) rfl ?_
  refine TL.p (C := cx) (gc := true) (p_and rfl rfl (fun e => ⟨rfl, fun h => h⟩)) rfl rfl ?_
  refine TL.p (C := cx) (gc := true) (p_mv rfl) rfl rfl ?_
  refine TL.p (C := cx) (gc := ((((r6 == (0 : Int)) && r12.2) && (r12.1 == (4 : Int))))) (p_mv rfl (hg := fun e => rfl)) (gcT1 rfl) rfl ?_
  obtain ⟨r14, hr14, hX⟩ := bind_some hX
  refine TL.lookX [.vref (ofL [Enc.v (r8 : (List Int))]) 1 0, Enc.v ((4 : Int) : Int)] (gcT1 rfl) rfl rfl (fun e => ⟨rfl, ⟨e, ⟨rfl, trivial⟩⟩⟩) ⟨look_ref (l := [OL (α := Int) b10 r8]) nd (j := 0) rfl ⟨look_OL nd (j := 1) rfl, trivial⟩, look_v (v := Enc.v ((4 : Int) : Int)) (v_val _), trivial⟩ (fun e => ok_mount_Line_Wants r8 (4 : Int) _ (optG_t hr14 e)) (trivial) ?_
  refine TL.p (C := cx) (gc := true) (p_and rfl rfl (fun e => ⟨rfl, fun h => h⟩)) rfl rfl ?_
  refine TL.p (C := cx) (gc := true) (p_mv rfl) rfl rfl ?_
  refine TL.p (C := cx) (gc := (((((r6 == (0 : Int)) && r12.2) && (r12.1 == (4 : Int))) && r14))) (p_mv rfl (hg := fun e => rfl)) (gcT1 rfl) rfl ?_
  rcases Bool.eq_false_or_eq_true ((((r6 == (0 : Int)) && r12.2) && (r12.1 == (4 : Int))) && r14) with hc | hc
  · have hX := ite_t hc hX
    rw [hc]
    obtain ⟨r15, hr15, hX⟩ := bind_some hX
    refine TL.guardT rfl ?_
    refine TL.tcX [(b3, RV 37 [OL (α := Int) b10 r8]), (b10, RL (α := Int) 3 r8)] [] rfl nd (dlt rfl) rfl ⟨rfl, ⟨rfl, ⟨rfl, trivial⟩⟩⟩ (ok_mount_Line_Serve (4 : Int) r8 b3 b10 (Nd.take nd 2 rfl) _ hr15) ?_
    rintro _ _ hQ nd
    obtain ⟨b17, rfl, rfl⟩ := hQ
    refine TL.guardT rfl ?_
    refine TL.p (C := cx) (gc := true) (p_eql rfl rfl) rfl rfl ?_
    refine TL.p (C := cx) (gc := true) (p_and rfl rfl (fun e => ⟨rfl, fun h => rfl⟩)) rfl rfl ?_
    refine TL.p (C := cx) (gc := true) (p_mv rfl) rfl rfl ?_
    refine TL.nil ?_
    refine hK13 _ _ ?_
    refine TK.ret ?_
    try dsimp only [thenQ]
    exact ret1 (v := Enc.v ((r15.1 == (1 : Int)) : Bool)) rfl (by obtain rfl := some_in hX; rfl) (v_val _)
  · have hX := ite_f hc hX
    rw [hc]
    refine TL.p (C := cx) (gc := false) (v := Enc.v ((0 : Int) : Int)) (fun e => by cases e) rfl rfl ?_
    refine TL.p (C := cx) (gc := false) (v := Enc.v (false : Bool)) (fun e => by cases e) rfl rfl ?_
    refine TL.p (C := cx) (gc := true) (p_and rfl rfl (fun e => ⟨rfl, fun h => h⟩)) rfl rfl ?_
    refine TL.p (C := cx) (gc := true) (p_mv rfl) rfl rfl ?_
    refine TL.nil ?_
    refine hK13 _ _ ?_
    refine TK.ret ?_
    try dsimp only [thenQ]
    exact ret1 (v := Enc.v (false : Bool)) rfl (by obtain rfl := some_in hX; rfl) (v_val _)

end Go.Proofs.Ytjkjoihlpnahdaa
