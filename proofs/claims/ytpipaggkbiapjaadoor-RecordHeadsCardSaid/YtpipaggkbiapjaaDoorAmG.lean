import Derived.Test.YtpipaggkbiapjaaDoorAmF
/- Cuts; all operations that write nothing; and the walk over them. -/
namespace Go.AM
section
variable {C : Cx} {nt : Nat} {μ : Mu} {env : Env} {h : Hp} {a : Act} {w : World}

theorem run_sliceBounds {P : Program} {lo hi : Option Value} {len cap : Nat} {l k : Int} {is : Bool}
    (h1 : (lo = none ∧ l = 0) ∨ ∃ q, lo = some (.int q l)) (h2 : (hi = none ∧ k = len) ∨ ∃ q, hi = some (.int q k)) (h0 : 0 ≤ l) (hlk : l ≤ k) (hk : k ≤ cap) :
    (Instr.sliceBounds is len cap lo hi none).run P w = .ok (l.toNat, k.toNat, cap) w := by
  have hk0 : 0 ≤ k := by omega
  unfold Instr.sliceBounds
  rcases h1 with ⟨rfl, rfl⟩ | ⟨q, rfl⟩ <;> rcases h2 with ⟨rfl, rfl⟩ | ⟨q', rfl⟩
  · simp
  · simp [Instr.sliceBound, asIntOf, hk0, hk]
  · simp [Instr.sliceBound, asIntOf, h0, hlk]
  · simp [Instr.sliceBound, asIntOf, hk0, hk, h0]
    intro hlt
    omega

theorem sz0A_ok (hS : Sim μ h w) {t : TypeId} {u : AV} {x : Value} {q q' : IntKind} (hu : VR μ w u x) (hs : (sz0A C h t u).2) :
    ∃ c, (Instr.sliceAt t x none (some (.int q 0)) (some (.int q' 0))).run C.P w = .ok c w ∧ VR μ w (sz0A C h t u).1 c := by
  have hb : ∀ len cap : Nat, (Instr.sliceBounds true len cap none (some (.int q 0)) (some (.int q' 0))).run C.P w = .ok (0, 0, 0) w := by
    intro len cap
    simp [Instr.sliceBounds, Instr.sliceBound, asIntOf]
  have all : ∀ (e : TypeId), C.kd t = some (.slc e) → (C.ty e).isSome = true → ∀ (a : Option Addr) (len cap : Nat), x = .slice a len cap →
      ∃ c, (Instr.sliceAt t x none (some (.int q 0)) (some (.int q' 0))).run C.P w = .ok c w ∧ VR μ w .z0 c := by
    intro e hk he a len cap hx
    subst hx
    obtain ⟨_, _, _, hK⟩ := kd_ok hk
    obtain ⟨ei, hei⟩ := Option.isSome_iff_exists.1 he
    exact ⟨.slice a 0 0, by simp [Instr.sliceAt, run_und hK, Instr.slice, hb, Cx.size hei], a, rfl⟩
  unfold sz0A sz0B at hs ⊢
  split at hs
  case h_1 e hk => exact all e hk hs none 0 0 hu
  case h_2 e hk => obtain ⟨y, rfl⟩ := hu; exact all e hk hs y 0 0 rfl
  case h_3 e c m n hk =>
    rcases hu with ⟨_, _, rfl⟩ | ⟨ad, cap, rfl, _⟩
    · exact all e hk hs none 0 0 rfl
    · exact all e hk hs _ _ _ rfl
  case h_4 e b o l st sz hk =>
    rcases hS.rs hs.2 hu with ⟨_, y, _, _, _, _, _, _, _, rfl⟩ | ⟨_, _, _, _, _, _, _, _, rfl, _⟩
    · exact all e hk hs.1 y 0 0 rfl
    · exact all e hk hs.1 _ _ _ rfl
  case h_5 => exact hs.elim

theorem sliA_ok (hS : Sim μ h w) (he : EnvR μ w env a) {t : TypeId} {u : AV} {x : Value} {ol oh : Option Operand} {lo hi : Option X} (hl : cookXo ol = some lo) (hh : cookXo oh = some hi)
    (hu : VR μ w u x) (hs : (sliA C h env t u lo hi).2) :
    ∃ c, (Instr.sliceAt t x (ol.map a.eval) (oh.map a.eval) none).run C.P w = .ok c w ∧ VR μ w (sliA C h env t u lo hi).1 c := by
  have low : ∀ {g : Bool} {n : Int} {d : Nat}, boundA env lo d = some (g, n) → g = true → d = 0 → (ol.map a.eval = none ∧ n = 0) ∨ ∃ q, ol.map a.eval = some (.int q n) := by
    intro g n d hb hg hd
    rcases boundA_ok hl he hb hg with ⟨rfl, h⟩ | h
    · exact .inl ⟨rfl, by rw [h, hd]; rfl⟩
    · exact .inr h
  have high : ∀ {g : Bool} {n : Int} {d : Nat}, boundA env hi d = some (g, n) → g = true → (oh.map a.eval = none ∧ n = d) ∨ ∃ q, oh.map a.eval = some (.int q n) := by
    intro g n d hb hg
    rcases boundA_ok hh he hb hg with ⟨rfl, h⟩ | h
    · exact .inl ⟨rfl, h⟩
    · exact .inr h
  unfold sliA sliB at hs ⊢
  split at hs
  case h_1 s hk =>
    obtain rfl : x = .string s := hu
    obtain ⟨_, _, _, hK⟩ := kd_ok hk
    split at hs
    case h_2 => exact hs.elim
    case h_1 g1 l g2 k e1 e2 =>
      obtain ⟨⟨hg1, hg2⟩, h0, hlk, hks⟩ := hs
      have hb := run_sliceBounds (P := C.P) (w := w) (is := false) (cap := s.size) (low e1 hg1 rfl) (high e2 hg2) h0 hlk hks
      exact ⟨.string (s.extract l.toNat k.toNat), by simp [Instr.sliceAt, run_und hK, Instr.slice, hb], rfl⟩
  case h_2 e hk =>
    obtain rfl : x = .slice none 0 0 := hu
    obtain ⟨i0, hi0, _, hK⟩ := kd_ok hk
    split at hs
    case h_2 => exact hs.elim
    case h_1 g1 l g2 k e1 e2 =>
      obtain ⟨⟨⟨hg1, hg2⟩, rfl, rfl⟩, hsz⟩ := hs
      have hb := run_sliceBounds (P := C.P) (w := w) (is := true) (len := 0) (cap := 0) (low e1 hg1 rfl) (high e2 hg2) (by omega) (by omega) (by omega)
      obtain ⟨ei, hei⟩ := Option.isSome_iff_exists.1 hsz
      exact ⟨.slice none 0 0, by simp [Instr.sliceAt, run_und hK, Instr.slice, hb, Cx.size hei], rfl⟩
  case h_3 e cells m n hk =>
    obtain ⟨_, _, _, hK⟩ := kd_ok hk
    split at hs
    case h_2 => exact hs.elim
    case h_1 ei g1 l g2 k he1 e1 e2 =>
      obtain ⟨⟨hg1, hg2⟩, ⟨h0, hlk, hks⟩, hm⟩ := hs
      rcases hu with ⟨rfl, rfl, rfl⟩ | ⟨ad, cap, rfl, hn, hse, hc⟩
      · have hb := run_sliceBounds (P := C.P) (w := w) (is := true) (len := 0) (cap := 0) (low e1 hg1 rfl) (high e2 hg2) h0 hlk (by omega)
        have h1 : l = 0 := by omega
        have h2 : k = 0 := by omega
        subst h1 h2
        exact ⟨.slice none 0 0, by simp [Instr.sliceAt, run_und hK, Instr.slice, hb, Cx.size he1], .inl ⟨rfl, by simp, rfl⟩⟩
      have hb := run_sliceBounds (P := C.P) (w := w) (is := true) (len := n) (cap := cap) (low e1 hg1 rfl) (high e2 hg2) h0 hlk (by omega)
      have hrun : (Instr.sliceAt t (.slice (some ad) n cap) (ol.map a.eval) (oh.map a.eval) none).run C.P w =
          .ok (.slice (some (if cap = l.toNat then ad else ad.add (l.toNat * ei.sz))) (k.toNat - l.toNat) (cap - l.toNat)) w := by
        simp only [Instr.sliceAt, Sem.run_bind, run_und hK, Result.andThen_ok, Instr.slice, hb, Cx.size he1, Sem.run_pure]
        split <;> rfl
      refine ⟨_, hrun, ?_⟩
      have hkl : (k - l).toNat = k.toNat - l.toNat := by omega
      refine .inr ⟨_, cap - l.toNat, by rw [hkl], by omega, ?_, ?_⟩
      · intro hpos
        have hlt : l.toNat < k.toNat := by
          rcases Nat.lt_or_ge l.toNat k.toNat with h | h
          · exact h
          · rw [hkl, Nat.sub_eq_zero_of_le h] at hpos; simp at hpos
        have hsz : 0 < ei.sz := by
          rcases Nat.eq_zero_or_pos ei.sz with h | h
          · rw [h] at hpos; simp at hpos
          · exact h
        have hmp : 0 < m := by
          have : 1 * 1 ≤ n * ei.sz := Nat.mul_le_mul (by omega) hsz
          omega
        obtain ⟨hsp, hse⟩ := hse hmp
        rw [if_neg (by omega)]
        obtain ⟨ab, ao, asp⟩ := ad
        simp only at hsp
        subst hsp
        rw [add_at]
        exact ⟨rfl, hse⟩
      · intro j hj
        simp only [cutM]
        rw [if_pos hj]
        have hlt : l.toNat < k.toNat := by
          rcases Nat.lt_or_ge l.toNat k.toNat with h | h
          · exact h
          · rw [hkl, Nat.sub_eq_zero_of_le h] at hj; simp at hj
        rw [if_neg (by omega)]
        have hle : l.toNat * ei.sz + (k - l).toNat * ei.sz ≤ n * ei.sz := by
          rw [← Nat.add_mul]
          exact Nat.mul_le_mul_right _ (by omega)
        have hmp : 0 < m := by omega
        obtain ⟨hsp, _⟩ := hse hmp
        obtain ⟨ab, ao, asp⟩ := ad
        simp only at hsp
        subst hsp
        rw [add_at]
        obtain ⟨u, hu, hv⟩ := hc (l.toNat * ei.sz + j) (by omega)
        exact ⟨u, by rw [← hu]; simp only; congr 2; omega, hv⟩
  case h_4 e b off len st sz hk =>
    obtain ⟨_, _, _, hK⟩ := kd_ok hk
    split at hs
    case h_2 => exact hs.elim
    case h_1 ei g1 l g2 k he1 e1 e2 =>
      obtain ⟨⟨hg1, hg2⟩, ⟨h0, hlk, hks⟩, hor, rfl, hsz, hr⟩ := hs
      rcases hS.rs hr hu with ⟨r, y, hg, hr0, rfl, rfl, rfl, hvir, hno, rfl⟩ | ⟨r, B, cs, cap, hg, hst, hB, hL, rfl, hcap, hlen, _⟩
      · have hb := run_sliceBounds (P := C.P) (w := w) (is := true) (len := 0) (cap := 0) (low e1 hg1 rfl) (high e2 hg2) h0 hlk (by omega)
        have h1 : l = 0 := by omega
        have h2 : k = 0 := by omega
        subst h1 h2
        refine ⟨.slice y 0 0, by simp [Instr.sliceAt, run_und hK, Instr.slice, hb, Cx.size he1], hu.1, by simp, fun _ => ⟨rfl, by simp, y, rfl⟩, fun B e => by rw [hno] at e; cases e⟩
      have hE : st ≤ B.E := by
        obtain ⟨B', cs', hnv, h1, h2, h3, h4, h5, h6⟩ := (hS.row b r hg).resolve_left fun hh => by rw [hB] at hh; cases hh.2.1
        rw [hB] at h1
        injection h1 with h1
        subst h1
        omega
      have hcapn : len ≤ cap := by
        have : off + len * ei.sz ≤ off + cap * ei.sz := by omega
        exact Nat.le_of_mul_le_mul_right (Nat.le_of_add_le_add_left this) hsz
      have hb := run_sliceBounds (P := C.P) (w := w) (is := true) (len := len) (cap := cap) (low e1 hg1 rfl) (high e2 hg2) h0 hlk (by omega)
      have hrun : (Instr.sliceAt t (.slice (some ⟨B.g, off, none⟩) len cap) (ol.map a.eval) (oh.map a.eval) none).run C.P w =
          .ok (.slice (some ⟨B.g, off + l.toNat * ei.sz, none⟩) (k.toNat - l.toNat) (cap - l.toNat)) w := by
        have hadd : (if cap = l.toNat then (⟨B.g, off, none⟩ : Addr) else (⟨B.g, off, none⟩ : Addr).add (l.toNat * ei.sz)) = ⟨B.g, off + l.toNat * ei.sz, none⟩ := by
          rw [add_at]
          split
          · rename_i hcl
            have : l = 0 := by omega
            subst this
            simp
          · rfl
        simp only [Instr.sliceAt, Sem.run_bind, run_und hK, Result.andThen_ok, Instr.slice, hb, Cx.size he1, Sem.run_pure]
        rw [← hadd]
        split <;> rfl
      refine ⟨_, hrun, hu.1, ?_, fun hv => ⟨(hu.2.2.1 hv).1, by have := (hu.2.2.1 hv).2.1; omega, by obtain ⟨_, _, _, e⟩ := hu.2.2.1 hv; cases e; exact ⟨_, by congr 1 <;> omega⟩⟩, fun B' e => ?_⟩
      · have : l.toNat * ei.sz + (k - l).toNat * ei.sz ≤ len * ei.sz := by
          rw [← Nat.add_mul]
          exact Nat.mul_le_mul_right _ (by omega)
        omega
      · rw [hB] at e
        injection e with e
        subst e
        refine ⟨by omega, fun _ => ⟨cap - l.toNat, ?_, ?_⟩⟩
        · congr 1; omega
        · have : l.toNat * ei.sz + (cap - l.toNat) * ei.sz = cap * ei.sz := by
            rw [← Nat.add_mul]
            congr 1
            omega
          omega
  case h_5 => exact hs.elim

theorem pv_ok (s : SimA nt μ env h a w) {o : Oper} {i : I} (hc : cookOp o.op = some i) (hs : (pv C h env i).2) :
    ∃ c, (execOp a.eval o).run C.P w = .ok (.value c) w ∧ VR μ w (pv C h env i).1 c := by
  have he := s.env
  have hS := s.sim
  unfold cookOp at hc
  split at hc
  case h_1 x ho =>
    obtain ⟨y, hy, rfl⟩ := Option.map_eq_some_iff.1 hc
    exact ⟨a.eval x, by simp [execOp, ho], ev_ok hy he hs⟩
  case h_2 x ho =>
    obtain ⟨y, hy, rfl⟩ := Option.map_eq_some_iff.1 hc
    exact ⟨a.eval x, by simp [execOp, ho], ev_ok hy he hs⟩
  case h_3 c x y ho =>
    split at hc
    case h_2 => simp at hc
    case h_1 c' x' y' h1 h2 h3 =>
      injection hc with hc; subst hc
      obtain ⟨p, hp, hv⟩ := pkA_ok h1 h2 h3 he hs
      exact ⟨_, by simp [execOp, ho, asBool, hp], hv⟩
  case h_4 t ho => simp at hc; subst hc; exact hs.elim
  case h_5 t x ho => obtain ⟨y, hy, rfl⟩ := Option.map_eq_some_iff.1 hc; exact hs.elim
  case h_6 t ps ho =>
    obtain ⟨y, hy, rfl⟩ := Option.map_eq_some_iff.1 hc
    obtain ⟨c, h1, h2⟩ := bldA_ok hS he hy hs
    exact ⟨c, by simp [execOp, ho, h1], h2⟩
  case h_7 t n ps ho => obtain ⟨y, hy, rfl⟩ := Option.map_eq_some_iff.1 hc; exact hs.elim
  case h_8 t x ho =>
    obtain ⟨y, hy, rfl⟩ := Option.map_eq_some_iff.1 hc
    obtain ⟨c, h1, h2⟩ := loadA_ok hS (ev_ok hy he hs.1) hs.2
    exact ⟨c, by simp [execOp, ho, h1], h2⟩
  case h_9 t x y ho =>
    split at hc
    case h_2 => simp at hc
    case h_1 => injection hc with hc; subst hc; exact hs.elim
  case h_10 x ho =>
    obtain ⟨y, hy, rfl⟩ := Option.map_eq_some_iff.1 hc
    exact ncA_ok hS ho (ev_ok hy he hs.1) hs.2
  case h_11 op t x y ty ho =>
    split at hc
    case h_2 => simp at hc
    case h_1 x' y' h1 h2 =>
      injection hc with hc; subst hc
      obtain ⟨c, h3, h4⟩ := binAll_ok (x := x) (y := y) hS (ev_ok h1 he hs.1.1) (ev_ok h2 he hs.1.2) hs.2
      refine ⟨c, ?_, h4⟩
      simp only [execOp, ho]
      rw [Sem.run_bind, h3]
      rfl
  case h_12 op t x ho =>
    obtain ⟨y, hy, rfl⟩ := Option.map_eq_some_iff.1 hc
    have hv := ev_ok hy he hs.1
    have hs2 := hs.2
    simp only [pv]
    unfold unA at hs2 ⊢
    split at hs2
    case h_1 b e => rw [e] at hv; exact ⟨.bool (!b), by simp [execOp, ho, show a.eval x = .bool b from hv, Op.unary], by simp [VR]⟩
    case h_2 k n e => rw [e] at hv; exact ⟨.int k (k.wrap (0 - n)), by simp [execOp, ho, show a.eval x = .int k n from hv, Op.unary, Op.intArith], by simp [VR]⟩
    case h_3 => exact hs2.elim
  case h_13 s' t x ho =>
    obtain ⟨y, hy, rfl⟩ := Option.map_eq_some_iff.1 hc
    obtain ⟨c, h1, h2⟩ := cvtA_ok (C := C) (s := s') (t := t) (ev_ok hy he hs.1) hs.2.1.und hs.2.2
    exact ⟨c, by simp [execOp, ho, h1], h2⟩
  case h_14 f cs ho =>
    obtain ⟨y, hy, rfl⟩ := Option.map_eq_some_iff.1 hc
    exact ⟨_, by simp [execOp, ho, Instr.makeFunc], mf_ok he hy hs⟩
  case h_15 t x y ho =>
    split at hc
    case h_2 => simp at hc
    case h_1 => injection hc with hc; subst hc; exact hs.elim
  case h_16 t x lo hi mx ho =>
    split at hc
    case h_2 => simp at hc
    case h_1 x' lo' hi' mx' h1 h2 h3 h4 =>
      injection hc with hc; subst hc
      cases mx' with
      | some mm =>
        have key : lo' = none ∧ ∃ q q', hi' = some (.i q 0) ∧ mm = .i q' 0 := by
          have h0 := hs.1
          unfold zz at h0
          split at h0
          · exact ⟨rfl, _, _, rfl, rfl⟩
          · cases h0
        obtain ⟨rfl, q, q', rfl, rfl⟩ := key
        have e2 : lo = none := by
          unfold cookXo at h2
          split at h2
          · rfl
          · split at h2 <;> simp at h2
        have cst : ∀ {o : Option Operand} {q : IntKind}, cookXo o = some (some (.i q 0)) → o = some (.const (.int q 0)) := by
          intro o q hh
          unfold cookXo at hh
          split at hh
          · simp at hh
          · split at hh
            · rename_i y hy'
              simp only [Option.some.injEq] at hh
              subst hh
              unfold cookX at hy'
              split at hy' <;> simp at hy'
              obtain ⟨rfl, rfl⟩ := hy'
              rfl
            · simp at hh
        have e3 := cst h3
        have e4 := cst h4
        subst e2 e3 e4
        obtain ⟨c, h5, h6⟩ := sz0A_ok (q := q) (q' := q') hS (ev_ok h1 he hs.2.1) hs.2.2
        exact ⟨c, by
          have ev2 : ∀ (k : IntKind), a.eval (.const (.int k 0)) = .int k 0 := fun _ => rfl
          simp [execOp, ho, ev2]; rw [h5]; rfl, h6⟩
      | none =>
        have hm : mx = none := by
          unfold cookXo at h4
          split at h4
          · rfl
          · split at h4 <;> simp at h4
        subst hm
        obtain ⟨c, h5, h6⟩ := sliA_ok hS he h2 h3 (ev_ok h1 he hs.1) hs.2
        exact ⟨c, by simp [execOp, ho]; rw [h5]; rfl, h6⟩
  case h_17 t x n ho =>
    obtain ⟨y, hy, rfl⟩ := Option.map_eq_some_iff.1 hc
    obtain ⟨c, h1, h2⟩ := faA_ok hS (ev_ok hy he hs.1) hs.2
    exact ⟨c, by simp [execOp, ho, h1], h2⟩
  case h_18 t x n ho =>
    obtain ⟨y, hy, rfl⟩ := Option.map_eq_some_iff.1 hc
    obtain ⟨c, h1, h2⟩ := fdA_ok (ev_ok hy he hs.1) hs.2
    exact ⟨c, by simp [execOp, ho, h1], h2⟩
  case h_19 t x y ho =>
    split at hc
    case h_2 => simp at hc
    case h_1 x' y' h1 h2 =>
      injection hc with hc; subst hc
      obtain ⟨c, h3, h4⟩ := iaA_ok hS (ev_ok h1 he hs.1.1) (ev_ok h2 he hs.1.2) hs.2
      exact ⟨c, by simp [execOp, ho, h3], h4⟩
  case h_20 t x y ho =>
    split at hc
    case h_2 => simp at hc
    case h_1 x' y' h1 h2 =>
      injection hc with hc; subst hc
      obtain ⟨c, h3, h4⟩ := ixA_ok hs.2.1 (ev_ok h1 he hs.1.1) (ev_ok h2 he hs.1.2) hs.2.2
      exact ⟨c, by simp [execOp, ho, h3], h4⟩
  case h_21 x n ho =>
    obtain ⟨y, hy, rfl⟩ := Option.map_eq_some_iff.1 hc
    obtain ⟨c, h1, h2⟩ := exA_ok (C := C) (ev_ok hy he hs.1) hs.2
    exact ⟨c, by simp [execOp, ho, h1], h2⟩
  case h_22 f as ts ho =>
    split at hc
    case h_2 => simp at hc
    case h_1 => injection hc with hc; subst hc; exact hs.elim
  case h_23 b as ts ho =>
    obtain ⟨y, hy, rfl⟩ := Option.map_eq_some_iff.1 hc
    have one : ∀ (x : X), y = [x] → ∃ p, as = #[p] ∧ cookX p = some x := by
      intro x e
      subst e
      obtain ⟨l⟩ := as
      cases l with
      | nil => simp [cookXs] at hy
      | cons p r =>
        simp only [cookXs] at hy
        split at hy
        case h_2 => simp at hy
        case h_1 q qs h1 h2 =>
          simp only [Option.some.injEq, List.cons.injEq] at hy
          obtain ⟨rfl, rfl⟩ := hy
          cases r with
          | nil => exact ⟨p, rfl, h1⟩
          | cons p2 r2 =>
            simp only [cookXs] at h2
            split at h2 <;> simp at h2
    have two : ∀ (x x' : X), y = [x, x'] → ∃ p p', as = #[p, p'] ∧ cookX p = some x ∧ cookX p' = some x' := by
      intro x x' e
      subst e
      obtain ⟨l⟩ := as
      cases l with
      | nil => simp [cookXs] at hy
      | cons p r =>
        simp only [cookXs] at hy
        split at hy
        case h_2 => simp at hy
        case h_1 q qs h1 h2 =>
          simp only [Option.some.injEq, List.cons.injEq] at hy
          obtain ⟨rfl, rfl⟩ := hy
          cases r with
          | nil => simp [cookXs] at h2
          | cons p2 r2 =>
            simp only [cookXs] at h2
            split at h2
            case h_2 => simp at h2
            case h_1 q2 qs2 h3 h4 =>
              simp only [Option.some.injEq, List.cons.injEq] at h2
              obtain ⟨rfl, rfl⟩ := h2
              cases r2 with
              | nil => exact ⟨p, p2, rfl, h1, h3⟩
              | cons p3 r3 =>
                simp only [cookXs] at h4
                split at h4 <;> simp at h4
    cases b <;> try exact hs.elim
    case len =>
      match ts, y, hy, hs, one with
      | ⟨[t]⟩, [x], hy, hs, one =>
        obtain ⟨p, rfl, hp⟩ := one _ rfl
        obtain ⟨c, h1, h2⟩ := lenA_ok (ty := o.type) hS (ev_ok hp he hs.1.1) hs.1.2 hs.2
        refine ⟨c, ?_, h2⟩
        simp [execOp, ho, resolve, invoke, builtin, h1]
    case min =>
      match y, hy, hs, two with
      | [x, x'], hy, hs, two =>
        obtain ⟨p, p', rfl, hp, hp'⟩ := two _ _ rfl
        obtain ⟨c, h1, h2⟩ := minA_ok (C := C) (gt := false) (ts := ts) (ty := o.type) (ev_ok hp he hs.1.1) (ev_ok hp' he hs.1.2) hs.2
        refine ⟨c, ?_, h2⟩
        simp at h1
        simp [execOp, ho, resolve, invoke, builtin, h1]
    case max =>
      match y, hy, hs, two with
      | [x, x'], hy, hs, two =>
        obtain ⟨p, p', rfl, hp, hp'⟩ := two _ _ rfl
        obtain ⟨c, h1, h2⟩ := minA_ok (C := C) (gt := true) (ts := ts) (ty := o.type) (ev_ok hp he hs.1.1) (ev_ok hp' he hs.1.2) hs.2
        refine ⟨c, ?_, h2⟩
        simp at h1
        simp [execOp, ho, resolve, invoke, builtin, h1]
  case h_24 => simp at hc; subst hc; exact hs.elim

end
end Go.AM
