import Derived.Test.YtpipaggkbiapjaaDoorAmN
/- What simp unfolds on a walk. -/
namespace Go.AM

attribute [simp] RQ isPure gcOf pv ev evs allG lk argsE thenQ minA binA cvtA srcOK unA pkA exA ixA loadA faA fdA iaA partA lenT Hp.get Hp.upd Hp.del bldA fillA fits allTy boundA natA sliA refOK
  putC tabL bslA litA keepE RetQ resA argsA putE eqA eqFs eqS ng allOne fixE fixOKE freeH allLook bytesOK sz0A cvE zz
attribute [simp] binAll.eq_1 binAll.eq_2 eqB.eq_1 eqB.eq_2 eqB.eq_3 eqB.eq_4 eqB.eq_5 eqB.eq_6 eqB.eq_7 eqB.eq_8 eqB.eq_9 eqB.eq_10 lenA.eq_1 lenA.eq_2 lenA.eq_3 lenA.eq_4 lenA.eq_5 lenU.eq_1 lenU.eq_2 lenU.eq_3
  iaB.eq_1 iaB.eq_2 sliB.eq_1 sliB.eq_2 sliB.eq_3 sliB.eq_4 sz0B.eq_1 sz0B.eq_2 sz0B.eq_3 sz0B.eq_4 ncA.eq_1 ncA.eq_2 ncA.eq_3
  cellsA.eq_1 cellsA.eq_4 cellsA.eq_5 cellsA.eq_6 cellsA.eq_7 cellsA.eq_8 cellsA.eq_9 cellsA.eq_10 cellsA.eq_11 cellsA.eq_12 cellsA.eq_13 cellsA.eq_14 cellsA.eq_15
  srcA.eq_1 srcA.eq_2 srcA.eq_3 srcA.eq_4 srcA.eq_5 oneA.eq_4 oneA.eq_5 oneA.eq_6 oneA.eq_7 oneA.eq_8 oneA.eq_9 oneA.eq_10 oneA.eq_11 oneA.eq_12 oneA.eq_13 oneA.eq_14 oneA.eq_15
  lookV.eq_1 lookV.eq_2 lookV.eq_3 fixV.eq_1 fixV.eq_2 fixV.eq_3 fixOK.eq_1 fixOK.eq_2 fixOK.eq_3 AV.val nob AV.closed
attribute [simp] lenA_VS srcA_VS cellsA_VS oneA_VS lookV_VS fixV_VS encI_ok encS_ok encB_ok VS_val VS_nob VS_fixOK rowL_nob rowL_vale cutM_ofL lenU_VS iaB_VS sliB_VS sz0B_VS eqB_VS binAll_VS Wk.refl Wk.nil Wk.z0 Wk.nilz encV_ok

theorem ofL_zero (x : AV) (l : List AV) : ofL (x :: l) 0 = x := rfl
theorem ofL_succ (x : AV) (l : List AV) (n : Nat) : ofL (x :: l) (n + 1) = ofL l n := rfl
attribute [simp] ofL_zero ofL_succ

theorem allLt_zero {p : Nat → Prop} : (∀ i, i < 0 → p i) ↔ True := ⟨fun _ => trivial, fun _ i h => absurd h (by omega)⟩
theorem allLt_succ {p : Nat → Prop} {n : Nat} : (∀ i, i < n + 1 → p i) ↔ (∀ i, i < n → p i) ∧ p n :=
  ⟨fun h => ⟨fun i hi => h i (by omega), h n (by omega)⟩, fun h i hi => by
    rcases Nat.lt_or_ge i n with h1 | h1
    · exact h.1 i h1
    · obtain rfl : i = n := by omega
      exact h.2⟩
attribute [simp] CS_all'

section
variable {C : Cx} {h : Hp} {op : BinOp} {t : TypeId} {v : AV}
theorem binAll_bool {a : Bool} : binAll C h op t (.bool a) v = match op with | .eql => eqA C h t false (.bool a) v | .neq => eqA C h t true (.bool a) v | _ => (.junk, False) := rfl
theorem binAll_nilp  : binAll C h op t (.nilp) v = match op with | .eql => eqA C h t false (.nilp) v | .neq => eqA C h t true (.nilp) v | _ => (.junk, False) := rfl
theorem binAll_ref {a b c : Nat} : binAll C h op t (.ref a b c) v = match op with | .eql => eqA C h t false (.ref a b c) v | .neq => eqA C h t true (.ref a b c) v | _ => (.junk, False) := rfl
theorem binAll_vref {a : Nat → AV} {b c : Nat} : binAll C h op t (.vref a b c) v = match op with | .eql => eqA C h t false (.vref a b c) v | .neq => eqA C h t true (.vref a b c) v | _ => (.junk, False) := rfl
theorem binAll_nils  : binAll C h op t (.nils) v = match op with | .eql => eqA C h t false (.nils) v | .neq => eqA C h t true (.nils) v | _ => (.junk, False) := rfl
theorem binAll_sl {a : Nat → AV} {b c : Nat} : binAll C h op t (.sl a b c) v = match op with | .eql => eqA C h t false (.sl a b c) v | .neq => eqA C h t true (.sl a b c) v | _ => (.junk, False) := rfl
theorem binAll_rs {a b c d e : Nat} : binAll C h op t (.rs a b c d e) v = match op with | .eql => eqA C h t false (.rs a b c d e) v | .neq => eqA C h t true (.rs a b c d e) v | _ => (.junk, False) := rfl
theorem binAll_agg {a : Nat} {b : Nat → AV} : binAll C h op t (.agg a b) v = match op with | .eql => eqA C h t false (.agg a b) v | .neq => eqA C h t true (.agg a b) v | _ => (.junk, False) := rfl
theorem binAll_fn {a b : Nat} {c : Nat → AV} : binAll C h op t (.fn a b c) v = match op with | .eql => eqA C h t false (.fn a b c) v | .neq => eqA C h t true (.fn a b c) v | _ => (.junk, False) := rfl
theorem binAll_nilf  : binAll C h op t (.nilf) v = match op with | .eql => eqA C h t false (.nilf) v | .neq => eqA C h t true (.nilf) v | _ => (.junk, False) := rfl
attribute [simp] binAll_bool binAll_nilp binAll_ref binAll_vref binAll_nils binAll_sl binAll_rs binAll_agg binAll_fn binAll_nilf
end

theorem z_ofL (i : TI) (l : List AV) (h : i.zv.cells.toList.map cAV = l) : i.z = ofL l := by
  subst h
  funext j
  simp only [TI.z, ofL, List.getD_eq_getElem?_getD, List.getElem?_map, Array.getElem?_toList, Array.getD_eq_getD_getElem?]
  cases i.zv.cells[j]? <;> rfl

theorem cutM_rowL0 {α : Type} {sz : Nat} {enc : α → Nat → AV} {x : α} {xs : List α} (ht : Tight sz enc) : cutM (rowL sz enc (x :: xs)) 0 sz = enc x := by
  have := cutM_rowL (xs := x :: xs) (j := 0) ht (by simp) x
  simpa using this
end Go.AM
