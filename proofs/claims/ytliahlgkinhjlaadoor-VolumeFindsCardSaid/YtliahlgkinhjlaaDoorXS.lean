import Derived.Test.YtliahlgkinhjlaaDoorXT
import Derived.Test.YtliahlgkinhjlaaDoorAmT
/- Facts on the types. -/
set_option linter.unusedSimpArgs false
namespace Go.Proofs.YtliahlgkinhjlaaDoor
open Go.AM Go.AX

theorem mixed : Tryd.prog.follows .mixedOrders = true := by kernel_rfl
theorem ex167 : Ext cx.P 167 Extern.BytealgCount.count := ⟨_, Tryd.func167, by kernel_rfl, by kernel_rfl, by kernel_rfl, by kernel_rfl⟩
theorem ex177 : Ext cx.P 177 Extern.BytealgIndexByte.indexByte := ⟨_, Tryd.func177, by kernel_rfl, by kernel_rfl, by kernel_rfl, by kernel_rfl⟩
theorem src3 : srcOK cx 3 := show ti3.known = true from rfl
theorem src4 : srcOK cx 4 := show ti4.known = true from rfl
theorem src5 : srcOK cx 5 := show ti5.known = true from rfl
theorem src9 : srcOK cx 9 := show ti9.known = true from rfl
theorem bo9 : bytesOK cx 9 := by unfold bytesOK; rw [kd9]; trivial
theorem src21 : srcOK cx 21 := show ti21.known = true from rfl
theorem src23 : srcOK cx 23 := show ti23.known = true from rfl
theorem all23 : allTy cx [(9, 0), (3, 1), (3, 2), (3, 3), (3, 4), (3, 5), (3, 6), (4, 7)] ∧ fits cx [(9, 0), (3, 1), (3, 2), (3, 3), (3, 4), (3, 5), (3, 6), (4, 7)] ti23.sz := ⟨⟨rfl, rfl, rfl, rfl, rfl, rfl, rfl, rfl, trivial⟩, ⟨(by decide : _ ≤ _), (by decide : _ ≤ _), (by decide : _ ≤ _), (by decide : _ ≤ _), (by decide : _ ≤ _), (by decide : _ ≤ _), (by decide : _ ≤ _), (by decide : _ ≤ _), trivial⟩⟩
theorem zrow23 (j : Nat) (_ : j < Enc.sz Head_api) : ti23.z j = ec (Head_api.mk (Str.mk []) (0 : Int) (0 : Int) (0 : Int) (0 : Int) (0 : Int) (0 : Int) false) j := by rw [ti23_z]; rfl
theorem eqT23 (a b : Head_api) : (eqFs cx 8 8 (ofL (Enc.cl a)) (ofL (Enc.cl b)) [(9, 0), (3, 1), (3, 2), (3, 3), (3, 4), (3, 5), (3, 6), (4, 7)]).1 = (a == b) ∧ (eqFs cx 8 8 (ofL (Enc.cl a)) (ofL (Enc.cl b)) [(9, 0), (3, 1), (3, 2), (3, 3), (3, 4), (3, 5), (3, 6), (4, 7)]).2 := by
  obtain ⟨x0, x1, x2, x3, x4, x5, x6, x7⟩ := a
  obtain ⟨y0, y1, y2, y3, y4, y5, y6, y7⟩ := b
  refine ⟨?_, ?_⟩
  · rw [Bool.eq_iff_iff]
    simp [eqFs, eqS, ofL, Enc.cl, Enc.v, List.getD, ba_toList, str_eq]
  · simp [eqFs, eqS, ofL, Enc.cl, Enc.v, List.getD]
theorem src24 : srcOK cx 24 := show ti24.known = true from rfl
theorem bo24 : bytesOK cx 24 := by unfold bytesOK; rw [kd24]; trivial
theorem src26 : srcOK cx 26 := show ti26.known = true from rfl
theorem bo26 : bytesOK cx 26 := by unfold bytesOK; rw [kd26]; trivial
theorem src27 : srcOK cx 27 := show ti27.known = true from rfl
theorem src36 : srcOK cx 36 := show ti36.known = true from rfl
theorem bo36 : bytesOK cx 36 := by unfold bytesOK; rw [kd36]; trivial
theorem src38 : srcOK cx 38 := show ti38.known = true from rfl
theorem all38 : allTy cx [(3, 0), (3, 1), (26, 2), (4, 3)] ∧ fits cx [(3, 0), (3, 1), (26, 2), (4, 3)] ti38.sz := ⟨⟨rfl, rfl, rfl, rfl, trivial⟩, ⟨(by decide : _ ≤ _), (by decide : _ ≤ _), (by decide : _ ≤ _), (by decide : _ ≤ _), trivial⟩⟩
theorem src42 : srcOK cx 42 := show ti42.known = true from rfl
theorem all42 : allTy cx [(3, 0), (3, 1), (3, 2), (24, 3)] ∧ fits cx [(3, 0), (3, 1), (3, 2), (24, 3)] ti42.sz := ⟨⟨rfl, rfl, rfl, rfl, trivial⟩, ⟨(by decide : _ ≤ _), (by decide : _ ≤ _), (by decide : _ ≤ _), (by decide : _ ≤ _), trivial⟩⟩
theorem src44 : srcOK cx 44 := show ti44.known = true from rfl
theorem bo44 : bytesOK cx 44 := by unfold bytesOK; rw [kd44]; trivial
theorem src48 : srcOK cx 48 := show ti48.known = true from rfl
theorem all48 : allTy cx [(23, 0), (3, 8), (3, 9)] ∧ fits cx [(23, 0), (3, 8), (3, 9)] ti48.sz := ⟨⟨rfl, rfl, rfl, trivial⟩, ⟨(by decide : _ ≤ _), (by decide : _ ≤ _), (by decide : _ ≤ _), trivial⟩⟩
theorem eqN48 (a b : Part_api) : (eqGs cx 10 10 (ofL (Enc.cl a)) (ofL (Enc.cl b)) [(23, 0), (3, 8), (3, 9)]).1 = (a == b) ∧ (eqGs cx 10 10 (ofL (Enc.cl a)) (ofL (Enc.cl b)) [(23, 0), (3, 8), (3, 9)]).2 := by
  obtain ⟨⟨x1, x2, x3, x4, x5, x6, x7, x8⟩, x9, x10⟩ := a
  obtain ⟨⟨y1, y2, y3, y4, y5, y6, y7, y8⟩, y9, y10⟩ := b
  refine ⟨?_, ?_⟩
  · rw [Bool.eq_iff_iff]
    simp [eqGs, eqF1, eqLf, eqFs, eqS, cutM, ofL, Enc.cl, Enc.v, List.getD, ba_toList, str_eq]
  · simp [eqGs, eqF1, eqLf, eqFs, eqS, cutM, ofL, Enc.cl, Enc.v, List.getD]
theorem src80 : srcOK cx 80 := show ti80.known = true from rfl
theorem bo80 : bytesOK cx 80 := by unfold bytesOK; rw [kd80]; trivial
theorem src97 : srcOK cx 97 := show ti97.known = true from rfl
theorem bo97 : bytesOK cx 97 := by unfold bytesOK; rw [kd97]; trivial
theorem src100 : srcOK cx 100 := show ti100.known = true from rfl
theorem src102 : srcOK cx 102 := show ti102.known = true from rfl
theorem all102 : allTy cx [(24, 0)] ∧ fits cx [(24, 0)] ti102.sz := ⟨⟨rfl, trivial⟩, ⟨(by decide : _ ≤ _), trivial⟩⟩
theorem src106 : srcOK cx 106 := show ti106.known = true from rfl
theorem src112 : srcOK cx 112 := show ti112.known = true from rfl
theorem src123 : srcOK cx 123 := show ti123.known = true from rfl
theorem src145 : srcOK cx 145 := show ti145.known = true from rfl
theorem src147 : srcOK cx 147 := show ti147.known = true from rfl
theorem all147 : allTy cx [(24, 0)] ∧ fits cx [(24, 0)] ti147.sz := ⟨⟨rfl, trivial⟩, ⟨(by decide : _ ≤ _), trivial⟩⟩
theorem src152 : srcOK cx 152 := show ti152.known = true from rfl
theorem src159 : srcOK cx 159 := show ti159.known = true from rfl
theorem all159 : allTy cx [(24, 0), (4, 1)] ∧ fits cx [(24, 0), (4, 1)] ti159.sz := ⟨⟨rfl, rfl, trivial⟩, ⟨(by decide : _ ≤ _), (by decide : _ ≤ _), trivial⟩⟩
theorem src184 : srcOK cx 184 := show ti184.known = true from rfl
theorem src188 : srcOK cx 188 := show ti188.known = true from rfl
theorem src189 : srcOK cx 189 := show ti189.known = true from rfl
theorem bo189 : bytesOK cx 189 := by unfold bytesOK; rw [kd189]; trivial
theorem src201 : srcOK cx 201 := show ti201.known = true from rfl
theorem src215 : srcOK cx 215 := show ti215.known = true from rfl
theorem all215 : allTy cx [(24, 0), (4, 1)] ∧ fits cx [(24, 0), (4, 1)] ti215.sz := ⟨⟨rfl, rfl, trivial⟩, ⟨(by decide : _ ≤ _), (by decide : _ ≤ _), trivial⟩⟩
abbrev TLc.alO := @TL.alO cx
abbrev TLc.appD := @TL.appD cx
abbrev TLc.appJ := @TL.appJ cx
abbrev TLc.appN := @TL.appN cx
abbrev TLc.appO := @TL.appO cx
abbrev TLc.appOZ := @TL.appOZ cx
abbrev TLc.boxO := @TL.boxO cx
abbrev TLc.boxV := @TL.boxV cx
abbrev TLc.copyO := @TL.copyO cx
abbrev TLc.cvtF := @TL.cvtF cx
abbrev TLc.eqNilO := @TL.eqNilO cx
abbrev TLc.eqNilU := @TL.eqNilU cx
abbrev TLc.lit := @TL.lit cx
abbrev TLc.litO := @TL.litO cx
abbrev TLc.litP := @TL.litP cx
abbrev TLc.litR := @TL.litR cx
abbrev TLc.litZ := @TL.litZ cx
abbrev TLc.mkO := @TL.mkO cx
abbrev TLc.mkV := @TL.mkV cx
abbrev TLc.p := @TL.p cx
abbrev TLc.stL := @TL.stL cx
abbrev TLc.stV := @TL.stV cx
abbrev TLc.stW := @TL.stW cx
/-! short names of common steps -/
section
variable {nt : Nat} {K : Env → Hp → Prop} {Q : Post} {env : Env} {h : Hp} {d : Nat} {ks : List KO} {v : AV}
theorem P1 {g : Option (Nat × Bool)} {i : I} (hp : PVok cx h env i true v) (hg : gcOf env g = some true) (hd : Nat.ble (d + 1) nt = true) (rest : TL Tryd.prog nt ks K ((d, true, v) :: env) h) : TL Tryd.prog nt (⟨some d, g, i⟩ :: ks) K env h := TL.p (C := cx) hp hg hd rest
theorem M {x : AM.X} (hx : ev env x = (true, v)) (hd : Nat.ble (d + 1) nt = true) (rest : TL Tryd.prog nt ks K ((d, true, v) :: env) h) : TL Tryd.prog nt (⟨some d, none, .mv x⟩ :: ks) K env h := TL.p (C := cx) (gc := true) (p_mv hx) rfl hd rest
theorem D0 {hS : Hp} {r : List (Nat × Nat)} {i : Nat} {g : Option (Nat × Bool)} {I' : I} (hk : ks[i]? = some ⟨some d, g, I'⟩) (hp : PVok cx hS (keepE (readsK ⟨some d, g, I'⟩) env) I' true v) (hg : gcOf env g = some true) (hd : Nat.ble (d + 1) nt = true) (rest : DRun Tryd.prog nt hS ks K r ((d, true, v) :: env) h) : DRun Tryd.prog nt hS ks K ((0, i) :: r) env h := DR0 (gc := true) hk (vok_p (C := cx) hp) hg hd rest
theorem DM {hS : Hp} {r : List (Nat × Nat)} {i : Nat} {x : AM.X} (hk : ks[i]? = some ⟨some d, none, .mv x⟩) (hx : ev (keepE (readsK ⟨some d, none, .mv x⟩) env) x = (true, v)) (hd : Nat.ble (d + 1) nt = true) (rest : DRun Tryd.prog nt hS ks K r ((d, true, v) :: env) h) : DRun Tryd.prog nt hS ks K ((0, i) :: r) env h := D0 hk (p_mv hx) rfl hd rest
theorem R1 {α : Type} [Enc α] {t : Nat} {e r : α} (hl : lk env t = some (true, Enc.v e)) (hX : some e = some r) : RetQ [t] (fun v _ => v = Enc.v r ∧ v.val) .ret env h := ret1 (v := Enc.v e) hl (by obtain rfl := some_in hX; rfl) (v_val _)
theorem SR {y : KC} (k : ∀ K : Env → Hp → Prop, (∀ env h, TK Tryd.prog nt y Q env h → K env h) → TL Tryd.prog nt ks (fun env h => thenQ K Q .normal env h) env h) : TK Tryd.prog nt (.seq (.reg ks) y) Q env h := TK.seq_k fun K hK => TK.reg (k K hK)
end
end Go.Proofs.YtliahlgkinhjlaaDoor
