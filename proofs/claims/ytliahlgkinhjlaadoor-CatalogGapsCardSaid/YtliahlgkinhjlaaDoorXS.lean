import Derived.Test.YtliahlgkinhjlaaDoorXT
import Derived.Test.YtliahlgkinhjlaaDoorAmT
/- Facts on the types. -/
set_option linter.unusedSimpArgs false
namespace Go.Proofs.YtliahlgkinhjlaaDoor
open Go.AM Go.AX

theorem mixed : Tryd.prog.follows .mixedOrders = true := by kernel_rfl
theorem src3 : srcOK cx 3 := show ti3.known = true from rfl
theorem src4 : srcOK cx 4 := show ti4.known = true from rfl
theorem src5 : srcOK cx 5 := show ti5.known = true from rfl
theorem src9 : srcOK cx 9 := show ti9.known = true from rfl
theorem bo9 : bytesOK cx 9 := by unfold bytesOK; rw [kd9]; trivial
theorem src23 : srcOK cx 23 := show ti23.known = true from rfl
theorem all23 : allTy cx [(9, 0), (3, 1), (3, 2), (3, 3), (3, 4), (3, 5), (3, 6), (4, 7)] ∧ fits cx [(9, 0), (3, 1), (3, 2), (3, 3), (3, 4), (3, 5), (3, 6), (4, 7)] ti23.sz := ⟨⟨rfl, rfl, rfl, rfl, rfl, rfl, rfl, rfl, trivial⟩, ⟨(by decide : _ ≤ _), (by decide : _ ≤ _), (by decide : _ ≤ _), (by decide : _ ≤ _), (by decide : _ ≤ _), (by decide : _ ≤ _), (by decide : _ ≤ _), (by decide : _ ≤ _), trivial⟩⟩
theorem zrow23 (j : Nat) (_ : j < Enc.sz Head_api) : ti23.z j = ec (Head_api.mk (Str.mk []) (0 : Int) (0 : Int) (0 : Int) (0 : Int) (0 : Int) (0 : Int) false) j := by rw [ti23_z]; rfl
theorem eqT23 (a b : Head_api) : (eqFs cx 8 8 (ofL (Enc.cl a)) (ofL (Enc.cl b)) [(9, 0), (3, 1), (3, 2), (3, 3), (3, 4), (3, 5), (3, 6), (4, 7)]).1 = (a == b) ∧ (eqFs cx 8 8 (ofL (Enc.cl a)) (ofL (Enc.cl b)) [(9, 0), (3, 1), (3, 2), (3, 3), (3, 4), (3, 5), (3, 6), (4, 7)]).2 := by
  obtain ⟨x0, x1, x2, x3, x4, x5, x6, x7⟩ := a
  obtain ⟨y0, y1, y2, y3, y4, y5, y6, y7⟩ := b
  refine ⟨?_, ?_⟩
  · rw [Bool.eq_iff_iff]
    simp [eqFs, eqS, ofL, Enc.cl, Enc.v, List.getD, ba_toList, str_eq]
  · simp [eqFs, eqS, ofL, Enc.cl, Enc.v, List.getD]
theorem src24 : srcOK cx 24 := show ti24.known = true from rfl
theorem bo24 : bytesOK cx 24 := by unfold bytesOK; rw [kd24]; trivial
theorem src26 : srcOK cx 26 := show ti26.known = true from rfl
theorem bo26 : bytesOK cx 26 := by unfold bytesOK; rw [kd26]; trivial
theorem src38 : srcOK cx 38 := show ti38.known = true from rfl
theorem all38 : allTy cx [(3, 0), (3, 1), (26, 2), (4, 3)] ∧ fits cx [(3, 0), (3, 1), (26, 2), (4, 3)] ti38.sz := ⟨⟨rfl, rfl, rfl, rfl, trivial⟩, ⟨(by decide : _ ≤ _), (by decide : _ ≤ _), (by decide : _ ≤ _), (by decide : _ ≤ _), trivial⟩⟩
theorem src44 : srcOK cx 44 := show ti44.known = true from rfl
theorem bo44 : bytesOK cx 44 := by unfold bytesOK; rw [kd44]; trivial
theorem src48 : srcOK cx 48 := show ti48.known = true from rfl
theorem all48 : allTy cx [(23, 0), (3, 8), (3, 9)] ∧ fits cx [(23, 0), (3, 8), (3, 9)] ti48.sz := ⟨⟨rfl, rfl, rfl, trivial⟩, ⟨(by decide : _ ≤ _), (by decide : _ ≤ _), (by decide : _ ≤ _), trivial⟩⟩
theorem src57 : srcOK cx 57 := show ti57.known = true from rfl
theorem bo57 : bytesOK cx 57 := by unfold bytesOK; rw [kd57]; trivial
theorem src87 : srcOK cx 87 := show ti87.known = true from rfl
theorem bo87 : bytesOK cx 87 := by unfold bytesOK; rw [kd87]; trivial
theorem src91 : srcOK cx 91 := show ti91.known = true from rfl
theorem all91 : allTy cx [(9, 0), (3, 1), (3, 2), (3, 3), (3, 4), (4, 5), (44, 6)] ∧ fits cx [(9, 0), (3, 1), (3, 2), (3, 3), (3, 4), (4, 5), (44, 6)] ti91.sz := ⟨⟨rfl, rfl, rfl, rfl, rfl, rfl, rfl, trivial⟩, ⟨(by decide : _ ≤ _), (by decide : _ ≤ _), (by decide : _ ≤ _), (by decide : _ ≤ _), (by decide : _ ≤ _), (by decide : _ ≤ _), (by decide : _ ≤ _), trivial⟩⟩
theorem src134 : srcOK cx 134 := show ti134.known = true from rfl
theorem bo134 : bytesOK cx 134 := by unfold bytesOK; rw [kd134]; trivial
theorem src138 : srcOK cx 138 := show ti138.known = true from rfl
theorem src142 : srcOK cx 142 := show ti142.known = true from rfl
/-! short names of common steps -/
section
variable {nt : Nat} {K : Env → Hp → Prop} {Q : Post} {env : Env} {h : Hp} {d : Nat} {ks : List KO} {v : AV}
theorem P1 {g : Option (Nat × Bool)} {i : I} (hp : PVok cx h env i true v) (hg : gcOf env g = some true) (hd : Nat.ble (d + 1) nt = true) (rest : TL Tryd.prog nt ks K ((d, true, v) :: env) h) : TL Tryd.prog nt (⟨some d, g, i⟩ :: ks) K env h := TL.p (C := cx) hp hg hd rest
theorem M {x : AM.X} (hx : ev env x = (true, v)) (hd : Nat.ble (d + 1) nt = true) (rest : TL Tryd.prog nt ks K ((d, true, v) :: env) h) : TL Tryd.prog nt (⟨some d, none, .mv x⟩ :: ks) K env h := TL.p (C := cx) (gc := true) (p_mv hx) rfl hd rest
theorem SR {y : KC} (k : ∀ K : Env → Hp → Prop, (∀ env h, TK Tryd.prog nt y Q env h → K env h) → TL Tryd.prog nt ks (fun env h => thenQ K Q .normal env h) env h) : TK Tryd.prog nt (.seq (.reg ks) y) Q env h := TK.seq_k fun K hK => TK.reg (k K hK)
end
end Go.Proofs.YtliahlgkinhjlaaDoor
