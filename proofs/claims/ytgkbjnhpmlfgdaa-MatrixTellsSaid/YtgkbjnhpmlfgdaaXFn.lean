import Derived.Test.YtgkbjnhpmlfgdaaXT
/- What the Go functions compute. -/
set_option linter.unusedVariables false
namespace Go.AX
open Go.AM
namespace X

/-! slices.IndexFunc[[][]byte,[]byte] -/
def slices_IndexFunc_LLbyte_Lbyte_e6  : Option Int :=
  some ((-1) : Int)

def slices_IndexFunc_LLbyte_Lbyte_s6 (s1 : (List (List UInt8))) (g2 : (List UInt8) → Option Bool) (s : Int) : Option (Int ⊕ (Unit ⊕ Int)) :=
  match s with
  | x7 =>
    if (decide (x7 < (s1.length : Int))) then
      (getI s1 x7).bind fun e14 =>
      (g2 e14).bind fun r15 =>
      if r15 then
        some (.inr (.inr x7))
      else
        some (.inl (wr (x7 + (1 : Int))))
    else
      some (.inr (.inl ()))

def slices_IndexFunc_LLbyte_Lbyte (s1 : (List (List UInt8))) (g2 : (List UInt8) → Option Bool) : Option Int :=
  (run (X.slices_IndexFunc_LLbyte_Lbyte_s6 s1 g2) (0 : Int)).bind fun o6 => match o6 with
  | .inl _ => X.slices_IndexFunc_LLbyte_Lbyte_e6
  | .inr rv6 => some rv6

/-! slices.ContainsFunc[[][]byte,[]byte] -/
def slices_ContainsFunc_LLbyte_Lbyte (s1 : (List (List UInt8))) (g2 : (List UInt8) → Option Bool) : Option Bool :=
  (X.slices_IndexFunc_LLbyte_Lbyte s1 g2).bind fun r5 =>
  some (decide (r5 ≥ (0 : Int)))

/-! cartridge/matrix.Right$1 -/
def matrix_Right_c1 (r1 : (List UInt8)) (c2 : (List (List UInt8))) : Option Bool :=
  (getI c2 (0 : Int)).bind fun e5 =>
  some ((r1.length : Int) != (e5.length : Int))

/-! cartridge/matrix.Right -/
def matrix_Right (m1 : (List (List UInt8))) : Option Bool :=
  ((optG (!(((decide ((m1.length : Int) < (1 : Int))) || (decide ((m1.length : Int) > (255 : Int)))))) (getI m1 (0 : Int)))).bind fun e5 =>
  ((optG (!((((decide ((m1.length : Int) < (1 : Int))) || (decide ((m1.length : Int) > (255 : Int)))) || (decide ((e5.length : Int) < (1 : Int)))))) (getI m1 (0 : Int)))).bind fun e6 =>
  if ((((decide ((m1.length : Int) < (1 : Int))) || (decide ((m1.length : Int) > (255 : Int)))) || (decide ((e5.length : Int) < (1 : Int)))) || (decide ((e6.length : Int) > (255 : Int)))) then
    some false
  else
    (X.slices_ContainsFunc_LLbyte_Lbyte m1 (fun a1 => X.matrix_Right_c1 a1 m1)).bind fun r9 =>
    some (!r9)

/-! slices.Grow[[]byte,byte] -/
def slices_Grow_Lbyte_byte_nil_j5 (l9 : List UInt8) : Option (List UInt8) :=
  some l9

def slices_Grow_Lbyte_byte_nil (n1 : Int) : Option (List UInt8) :=
  if (decide (n1 < (0 : Int))) then
    none
  else
    if (decide ((wr (n1 - (wr ((0 : Int) - (0 : Int))))) > (0 : Int))) then
      (need (0 ≤ (wr (n1 - (wr ((0 : Int) - (0 : Int))))) ∧ (wr (n1 - (wr ((0 : Int) - (0 : Int))))).toNat * 1 ≤ 140737488355328)).bind fun u13 =>
      (need ((0 ≤ (0 : Int) ∧ (0 : Int) ≤ (0 : Int) ∧ (0 : Int) ≤ (List.replicate (wr (n1 - (wr ((0 : Int) - (0 : Int))))).toNat (0 : UInt8)).length) ∧ ((0 : Int) = 0 ∨ (0 : Int) < (List.replicate (wr (n1 - (wr ((0 : Int) - (0 : Int))))).toNat (0 : UInt8)).length))).bind fun u15 =>
      X.slices_Grow_Lbyte_byte_nil_j5 (slc (List.replicate (wr (n1 - (wr ((0 : Int) - (0 : Int))))).toNat (0 : UInt8)) (0 : Int) (0 : Int))
    else
      X.slices_Grow_Lbyte_byte_nil_j5 ([] : List UInt8)

/-! slices.Concat[[]byte,byte] -/
def slices_Concat_Lbyte_byte_e15 (l20 : List UInt8) : Option (List UInt8) :=
  some l20

def slices_Concat_Lbyte_byte_s15 (slices1 : (List (List UInt8))) (s : ((List UInt8) × Int)) : Option (((List UInt8) × Int) ⊕ List UInt8) :=
  match s with
  | (newslice17, x18) =>
    if (decide (x18 < (slices1.length : Int))) then
      (getI slices1 x18).bind fun e26 =>
      (need ((newslice17.length + e26.length) * 1 ≤ 140737488355328)).bind fun u27 =>
      some (.inl ((newslice17 ++ e26), (wr (x18 + (1 : Int)))))
    else
      some (.inr newslice17)

def slices_Concat_Lbyte_byte_e6 (slices1 : (List (List UInt8))) (size9 : Int) : Option (List UInt8) :=
  (X.slices_Grow_Lbyte_byte_nil size9).bind fun r11 =>
  (run (X.slices_Concat_Lbyte_byte_s15 slices1) (r11, (0 : Int))).bind fun o15 => match o15 with
  | l20 => X.slices_Concat_Lbyte_byte_e15 l20

def slices_Concat_Lbyte_byte_s6 (slices1 : (List (List UInt8))) (s : (Int × Int)) : Option ((Int × Int) ⊕ Int) :=
  match s with
  | (size7, x8) =>
    if (decide (x8 < (slices1.length : Int))) then
      (getI slices1 x8).bind fun e32 =>
      if (decide ((wr (size7 + (e32.length : Int))) < (0 : Int))) then
        none
      else
        some (.inl ((wr (size7 + (e32.length : Int))), (wr (x8 + (1 : Int)))))
    else
      some (.inr size7)

def slices_Concat_Lbyte_byte (slices1 : (List (List UInt8))) : Option (List UInt8) :=
  (run (X.slices_Concat_Lbyte_byte_s6 slices1) ((0 : Int), (0 : Int))).bind fun o6 => match o6 with
  | size9 => X.slices_Concat_Lbyte_byte_e6 slices1 size9

/-! cartridge/matrix.beside -/
def matrix_beside_e7 (l12 : List (List UInt8)) : Option (List (List UInt8)) :=
  some l12

def matrix_beside_s7 (m1 : (List (List UInt8))) (s : ((List (List UInt8)) × Int)) : Option (((List (List UInt8)) × Int) ⊕ List (List UInt8)) :=
  match s with
  | (out9, x10) =>
    if (decide (x10 < (m1.length : Int))) then
      (getI m1 x10).bind fun e18 =>
      (need (0 ≤ (m1.length : Int) ∧ (m1.length : Int) * 1 ≤ 281474976710656)).bind fun u20 =>
      (getI (List.replicate (m1.length : Int).toNat (0 : UInt8)) x10).bind fun e23 =>
      (X.slices_Concat_Lbyte_byte ([e18, ((List.replicate (m1.length : Int).toNat (0 : UInt8)).set x10.toNat (1 : UInt8))] : List (List UInt8))).bind fun r24 =>
      (need ((out9.length + ([r24] : List (List UInt8)).length) * 24 ≤ 140737488355328)).bind fun u25 =>
      some (.inl ((out9 ++ ([r24] : List (List UInt8))), (wr (x10 + (1 : Int)))))
    else
      some (.inr out9)

def matrix_beside (m1 : (List (List UInt8))) : Option (List (List UInt8)) :=
  (run (X.matrix_beside_s7 m1) (([] : List (List UInt8)), (0 : Int))).bind fun o7 => match o7 with
  | l12 => X.matrix_beside_e7 l12

/-! cartridge/matrix.Inverse$1 -/
def matrix_Inverse_c1 (r1 : (List UInt8)) (c2 : Int) : Option Bool :=
  (getI r1 c2).bind fun e5 =>
  some (e5 != (0 : UInt8))

/-! cartridge/gf.Mul -/
def gf_Mul_e6 (out10 : UInt8) : Option UInt8 :=
  some out10

def gf_Mul_j14 (b8 : UInt8) (a15 : UInt8) (out16 : UInt8) : Option ((UInt8 × UInt8 × UInt8) ⊕ UInt8) :=
  some (.inl (a15, (shr8 b8 1), out16))

def gf_Mul_j17 (a7 : UInt8) (b8 : UInt8) (out18 : UInt8) : Option ((UInt8 × UInt8 × UInt8) ⊕ UInt8) :=
  if ((a7 &&& (128 : UInt8)) != (0 : UInt8)) then
    X.gf_Mul_j14 b8 ((shl8 a7 1) ^^^ (29 : UInt8)) out18
  else
    X.gf_Mul_j14 b8 (shl8 a7 1) out18

def gf_Mul_s6 (s : (UInt8 × UInt8 × UInt8)) : Option ((UInt8 × UInt8 × UInt8) ⊕ UInt8) :=
  match s with
  | (a7, b8, out9) =>
    if (b8 != (0 : UInt8)) then
      if ((b8 &&& (1 : UInt8)) == (1 : UInt8)) then
        X.gf_Mul_j17 a7 b8 (out9 ^^^ a7)
      else
        X.gf_Mul_j17 a7 b8 out9
    else
      some (.inr out9)

def gf_Mul (a1 : UInt8) (b2 : UInt8) : Option UInt8 :=
  (run (X.gf_Mul_s6) (a1, b2, (0 : UInt8))).bind fun o6 => match o6 with
  | out10 => X.gf_Mul_e6 out10

/-! cartridge/gf.power -/
def gf_power_e6 (out10 : UInt8) : Option UInt8 :=
  some out10

def gf_power_j15 (a7 : UInt8) (n8 : Int) (out16 : UInt8) : Option ((UInt8 × Int × UInt8) ⊕ UInt8) :=
  (X.gf_Mul a7 a7).bind fun r17 =>
  some (.inl (r17, (shr64 n8 ((1 : UInt64).toNat : Int)), out16))

def gf_power_s6 (s : (UInt8 × Int × UInt8)) : Option ((UInt8 × Int × UInt8) ⊕ UInt8) :=
  match s with
  | (a7, n8, out9) =>
    if (decide (n8 > (0 : Int))) then
      if ((and64 n8 (1 : Int)) == (1 : Int)) then
        (X.gf_Mul out9 a7).bind fun r19 =>
        X.gf_power_j15 a7 n8 r19
      else
        X.gf_power_j15 a7 n8 out9
    else
      some (.inr out9)

def gf_power (a1 : UInt8) (n2 : Int) : Option UInt8 :=
  (run (X.gf_power_s6) (a1, n2, (1 : UInt8))).bind fun o6 => match o6 with
  | out10 => X.gf_power_e6 out10

/-! cartridge/gf.Inv -/
def gf_Inv (a1 : UInt8) : Option UInt8 :=
  (X.gf_power a1 (254 : Int)).bind fun r4 =>
  some r4

/-! cartridge/matrix.scaled -/
def matrix_scaled_e9 (l14 : List UInt8) : Option (List UInt8) :=
  some l14

def matrix_scaled_s9 (r1 : (List UInt8)) (by2 : UInt8) (s : ((List UInt8) × Int)) : Option (((List UInt8) × Int) ⊕ List UInt8) :=
  match s with
  | (out11, x12) =>
    if (decide (x12 < (r1.length : Int))) then
      (getI r1 x12).bind fun e20 =>
      (X.gf_Mul e20 by2).bind fun r21 =>
      (getI out11 x12).bind fun e22 =>
      some (.inl ((out11.set x12.toNat r21), (wr (x12 + (1 : Int)))))
    else
      some (.inr out11)

def matrix_scaled (r1 : (List UInt8)) (by2 : UInt8) : Option (List UInt8) :=
  (need (0 ≤ (r1.length : Int) ∧ (r1.length : Int) * 1 ≤ 281474976710656)).bind fun u5 =>
  (run (X.matrix_scaled_s9 r1 by2) ((List.replicate (r1.length : Int).toNat (0 : UInt8)), (0 : Int))).bind fun o9 => match o9 with
  | l14 => X.matrix_scaled_e9 l14

/-! cartridge/gf.Add -/
def gf_Add (a1 : UInt8) (b2 : UInt8) : Option UInt8 :=
  some (a1 ^^^ b2)

/-! cartridge/matrix.sum -/
def matrix_sum_e9 (l14 : List UInt8) : Option (List UInt8) :=
  some l14

def matrix_sum_s9 (a1 : (List UInt8)) (b2 : (List UInt8)) (s : ((List UInt8) × Int)) : Option (((List UInt8) × Int) ⊕ List UInt8) :=
  match s with
  | (out11, x12) =>
    if (decide (x12 < (a1.length : Int))) then
      (getI a1 x12).bind fun e20 =>
      (getI b2 x12).bind fun e21 =>
      (X.gf_Add e20 e21).bind fun r22 =>
      (getI out11 x12).bind fun e23 =>
      some (.inl ((out11.set x12.toNat r22), (wr (x12 + (1 : Int)))))
    else
      some (.inr out11)

def matrix_sum (a1 : (List UInt8)) (b2 : (List UInt8)) : Option (List UInt8) :=
  (need (0 ≤ (a1.length : Int) ∧ (a1.length : Int) * 1 ≤ 281474976710656)).bind fun u5 =>
  (run (X.matrix_sum_s9 a1 b2) ((List.replicate (a1.length : Int).toNat (0 : UInt8)), (0 : Int))).bind fun o9 => match o9 with
  | l14 => X.matrix_sum_e9 l14

/-! slices.Clone[[]byte,byte] -/
def slices_Clone_Lbyte_byte (s1 : (List UInt8)) : Option (List UInt8) :=
  nilU s1 fun z5 =>
  if z5 then
    some ([] : (List UInt8))
  else
    (need (s1.length * 1 ≤ 140737488355328)).bind fun u8 =>
    some s1

/-! cartridge/matrix.Inverse -/
def matrix_Inverse_e23 (l29 : List (List UInt8)) : Option ((List (List UInt8)) × Int) :=
  some (l29, (0 : Int))

def matrix_Inverse_s23 (l18 : List (List UInt8)) (m1 : (List (List UInt8))) (s : ((List (List UInt8)) × Int)) : Option (((List (List UInt8)) × Int) ⊕ List (List UInt8)) :=
  match s with
  | (out25, x27) =>
    if (decide (x27 < (l18.length : Int))) then
      (getI l18 x27).bind fun e35 =>
      (need (0 ≤ (m1.length : Int) ∧ (m1.length : Int) ≤ (e35.length : Int) ∧ (e35.length : Int) ≤ e35.length)).bind fun u36 =>
      (X.slices_Clone_Lbyte_byte (slc e35 (m1.length : Int) (e35.length : Int))).bind fun r37 =>
      (need ((out25.length + ([r37] : List (List UInt8)).length) * 24 ≤ 140737488355328)).bind fun u38 =>
      some (.inl ((out25 ++ ([r37] : List (List UInt8))), (wr (x27 + (1 : Int)))))
    else
      some (.inr out25)

def matrix_Inverse_e13 (m1 : (List (List UInt8))) (l18 : List (List UInt8)) : Option ((List (List UInt8)) × Int) :=
  (run (X.matrix_Inverse_s23 l18 m1) (([] : List (List UInt8)), (0 : Int))).bind fun o23 => match o23 with
  | l29 => X.matrix_Inverse_e23 l29

def matrix_Inverse_e63 (x16 : Int) (l68 : List (List UInt8)) : Option (((List (List UInt8)) × Int) ⊕ (List (List UInt8) ⊕ ((List (List UInt8)) × Int))) :=
  some (.inl (l68, (wr (x16 + (1 : Int)))))

def matrix_Inverse_s63 (l15 : (List (List UInt8))) (x16 : Int) (e51 : (List UInt8)) (r46 : Int) (e52 : (List UInt8)) (r60 : (List UInt8)) (s : ((List (List UInt8)) × Int)) : Option (((List (List UInt8)) × Int) ⊕ List (List UInt8)) :=
  match s with
  | (l65, x66) =>
    if (decide (x66 < ((((l15.set x16.toNat e51).set (wr (x16 + r46)).toNat e52).set x16.toNat r60).length : Int))) then
      ((optG ((x66 != x16)) (getI l65 x66))).bind fun e74 =>
      ((optG ((x66 != x16)) (getI e74 x16))).bind fun e75 =>
      if ((x66 != x16) && (e75 != (0 : UInt8))) then
        (getI l65 x66).bind fun e76 =>
        (getI l65 x16).bind fun e77 =>
        (getI l65 x66).bind fun e78 =>
        (getI e78 x16).bind fun e79 =>
        (X.matrix_scaled e77 e79).bind fun r80 =>
        (X.matrix_sum e76 r80).bind fun r81 =>
        (getI l65 x66).bind fun e82 =>
        some (.inl ((l65.set x66.toNat r81), (wr (x66 + (1 : Int)))))
      else
        some (.inl (l65, (wr (x66 + (1 : Int)))))
    else
      some (.inr l65)

def matrix_Inverse_s13 (r9 : (List (List UInt8))) (s : ((List (List UInt8)) × Int)) : Option (((List (List UInt8)) × Int) ⊕ (List (List UInt8) ⊕ ((List (List UInt8)) × Int))) :=
  match s with
  | (l15, x16) =>
    if (decide (x16 < (r9.length : Int))) then
      (need ((0 ≤ x16 ∧ x16 ≤ (l15.length : Int) ∧ (l15.length : Int) ≤ l15.length) ∧ (x16 = 0 ∨ x16 < l15.length))).bind fun u45 =>
      (X.slices_IndexFunc_LLbyte_Lbyte (slc l15 x16 (l15.length : Int)) (fun a1 => X.matrix_Inverse_c1 a1 x16)).bind fun r46 =>
      if (decide (r46 < (0 : Int))) then
        some (.inr (.inr (([] : (List (List UInt8))), (12 : Int))))
      else
        (getI l15 (wr (x16 + r46))).bind fun e51 =>
        (getI l15 x16).bind fun e52 =>
        (getI l15 x16).bind fun e53 =>
        (getI (l15.set x16.toNat e51) (wr (x16 + r46))).bind fun e54 =>
        (getI ((l15.set x16.toNat e51).set (wr (x16 + r46)).toNat e52) x16).bind fun e56 =>
        (getI ((l15.set x16.toNat e51).set (wr (x16 + r46)).toNat e52) x16).bind fun e57 =>
        (getI e57 x16).bind fun e58 =>
        (X.gf_Inv e58).bind fun r59 =>
        (X.matrix_scaled e56 r59).bind fun r60 =>
        (getI ((l15.set x16.toNat e51).set (wr (x16 + r46)).toNat e52) x16).bind fun e61 =>
        (run (X.matrix_Inverse_s63 l15 x16 e51 r46 e52 r60) ((((l15.set x16.toNat e51).set (wr (x16 + r46)).toNat e52).set x16.toNat r60), (0 : Int))).bind fun o63 => match o63 with
        | l68 => X.matrix_Inverse_e63 x16 l68
    else
      some (.inr (.inl l15))

def matrix_Inverse (m1 : (List (List UInt8))) : Option ((List (List UInt8)) × Int) :=
  (X.matrix_Right m1).bind fun r5 =>
  ((optG (!((!r5))) (getI m1 (0 : Int)))).bind fun e6 =>
  if ((!r5) || ((m1.length : Int) != (e6.length : Int))) then
    some (([] : (List (List UInt8))), (1 : Int))
  else
    (X.matrix_beside m1).bind fun r9 =>
    (run (X.matrix_Inverse_s13 r9) (r9, (0 : Int))).bind fun o13 => match o13 with
    | .inl l18 => X.matrix_Inverse_e13 m1 l18
    | .inr rv13 => some rv13

/-! cartridge/matrix.apply -/
def matrix_apply_e9 (l14 : List UInt8) : Option (List UInt8) :=
  some l14

def matrix_apply_e22 (x12 : Int) (l27 : List UInt8) : Option (((List UInt8) × Int) ⊕ List UInt8) :=
  some (.inl (l27, (wr (x12 + (1 : Int)))))

def matrix_apply_s22 (e20 : (List UInt8)) (x12 : Int) (v2 : (List UInt8)) (s : ((List UInt8) × Int)) : Option (((List UInt8) × Int) ⊕ List UInt8) :=
  match s with
  | (out24, x25) =>
    if (decide (x25 < (e20.length : Int))) then
      (getI e20 x25).bind fun e32 =>
      (getI out24 x12).bind fun e33 =>
      (getI v2 x25).bind fun e34 =>
      (X.gf_Mul e32 e34).bind fun r35 =>
      (X.gf_Add e33 r35).bind fun r36 =>
      (getI out24 x12).bind fun e37 =>
      some (.inl ((out24.set x12.toNat r36), (wr (x25 + (1 : Int)))))
    else
      some (.inr out24)

def matrix_apply_s9 (m1 : (List (List UInt8))) (v2 : (List UInt8)) (s : ((List UInt8) × Int)) : Option (((List UInt8) × Int) ⊕ List UInt8) :=
  match s with
  | (out11, x12) =>
    if (decide (x12 < (m1.length : Int))) then
      (getI m1 x12).bind fun e20 =>
      (run (X.matrix_apply_s22 e20 x12 v2) (out11, (0 : Int))).bind fun o22 => match o22 with
      | l27 => X.matrix_apply_e22 x12 l27
    else
      some (.inr out11)

def matrix_apply (m1 : (List (List UInt8))) (v2 : (List UInt8)) : Option (List UInt8) :=
  (need (0 ≤ (m1.length : Int) ∧ (m1.length : Int) * 1 ≤ 281474976710656)).bind fun u5 =>
  (run (X.matrix_apply_s9 m1 v2) ((List.replicate (m1.length : Int).toNat (0 : UInt8)), (0 : Int))).bind fun o9 => match o9 with
  | l14 => X.matrix_apply_e9 l14

/-! cartridge/matrix.Apply -/
def matrix_Apply (m1 : (List (List UInt8))) (v2 : (List UInt8)) : Option ((List UInt8) × Int) :=
  (X.matrix_Right m1).bind fun r6 =>
  ((optG (!((!r6))) (getI m1 (0 : Int)))).bind fun e7 =>
  if ((!r6) || ((v2.length : Int) != (e7.length : Int))) then
    some (([] : (List UInt8)), (1 : Int))
  else
    (X.matrix_apply m1 v2).bind fun r10 =>
    some (r10, (0 : Int))

/-! cartridge/cartridgelaw2.num -/
def cartridgelaw2_num (e1 : Int) : Option Int :=
  some e1

/-! cartridge/cartridgelaw2.alive -/
def cartridgelaw2_alive  : Option Bool :=
  (X.matrix_Inverse ([([(1 : UInt8)] : List UInt8)] : List (List UInt8))).bind fun r3 =>
  (X.matrix_Apply ([([(1 : UInt8), (1 : UInt8)] : List UInt8)] : List (List UInt8)) ([(2 : UInt8), (3 : UInt8)] : List UInt8)).bind fun r5 =>
  (X.cartridgelaw2_num r3.2).bind fun r7 =>
  ((optG (((r7 == (0 : Int)) && ((r3.1.length : Int) == (1 : Int)))) (getI r3.1 (0 : Int)))).bind fun e8 =>
  ((optG (((r7 == (0 : Int)) && ((r3.1.length : Int) == (1 : Int)))) (getI e8 (0 : Int)))).bind fun e9 =>
  ((optG ((((r7 == (0 : Int)) && ((r3.1.length : Int) == (1 : Int))) && (e9 == (1 : UInt8)))) (X.cartridgelaw2_num r5.2))).bind fun r10 =>
  ((optG ((((((r7 == (0 : Int)) && ((r3.1.length : Int) == (1 : Int))) && (e9 == (1 : UInt8))) && (r10 == (0 : Int))) && ((r5.1.length : Int) == (1 : Int)))) (getI r5.1 (0 : Int)))).bind fun e11 =>
  ((optG (((((((r7 == (0 : Int)) && ((r3.1.length : Int) == (1 : Int))) && (e9 == (1 : UInt8))) && (r10 == (0 : Int))) && ((r5.1.length : Int) == (1 : Int))) && (e11 == (1 : UInt8)))) (X.matrix_Right r3.1))).bind fun r12 =>
  some (((((((r7 == (0 : Int)) && ((r3.1.length : Int) == (1 : Int))) && (e9 == (1 : UInt8))) && (r10 == (0 : Int))) && ((r5.1.length : Int) == (1 : Int))) && (e11 == (1 : UInt8))) && r12)

/-! cartridge/cartridgelaw2.Few -/
def cartridgelaw2_Few_e6 (n9 : Int) : Option Bool :=
  some (decide (n9 ≤ (2000 : Int)))

def cartridgelaw2_Few_s6 (m1 : (List (List UInt8))) (s : (Int × Int)) : Option ((Int × Int) ⊕ Int) :=
  match s with
  | (n7, i8) =>
    if ((decide (i8 < (m1.length : Int))) && (decide (n7 ≤ (2000 : Int)))) then
      (getI m1 i8).bind fun e14 =>
      some (.inl ((wr ((wr (n7 + (1 : Int))) + (e14.length : Int))), (wr (i8 + (1 : Int)))))
    else
      some (.inr n7)

def cartridgelaw2_Few (m1 : (List (List UInt8))) : Option Bool :=
  (run (X.cartridgelaw2_Few_s6 m1) ((0 : Int), (0 : Int))).bind fun o6 => match o6 with
  | n9 => X.cartridgelaw2_Few_e6 n9

/-! cartridge/matrix.turned -/
def matrix_turned_e9 (l14 : List (List UInt8)) : Option (List (List UInt8)) :=
  some l14

def matrix_turned_e22 (x12 : Int) (l27 : List (List UInt8)) : Option (((List (List UInt8)) × Int) ⊕ List (List UInt8)) :=
  some (.inl (l27, (wr (x12 + (1 : Int)))))

def matrix_turned_s22 (e20 : (List UInt8)) (s : ((List (List UInt8)) × Int)) : Option (((List (List UInt8)) × Int) ⊕ List (List UInt8)) :=
  match s with
  | (out24, x25) =>
    if (decide (x25 < (e20.length : Int))) then
      (getI e20 x25).bind fun e32 =>
      (getI out24 x25).bind fun e33 =>
      (need ((e33.length + ([e32] : List UInt8).length) * 1 ≤ 140737488355328)).bind fun u35 =>
      (getI out24 x25).bind fun e36 =>
      some (.inl ((out24.set x25.toNat (e33 ++ ([e32] : List UInt8))), (wr (x25 + (1 : Int)))))
    else
      some (.inr out24)

def matrix_turned_s9 (m1 : (List (List UInt8))) (s : ((List (List UInt8)) × Int)) : Option (((List (List UInt8)) × Int) ⊕ List (List UInt8)) :=
  match s with
  | (out11, x12) =>
    if (decide (x12 < (m1.length : Int))) then
      (getI m1 x12).bind fun e20 =>
      (run (X.matrix_turned_s22 e20) (out11, (0 : Int))).bind fun o22 => match o22 with
      | l27 => X.matrix_turned_e22 x12 l27
    else
      some (.inr out11)

def matrix_turned (m1 : (List (List UInt8))) : Option (List (List UInt8)) :=
  (getI m1 (0 : Int)).bind fun e4 =>
  (need (0 ≤ (e4.length : Int) ∧ (e4.length : Int) * 24 ≤ 281474976710656)).bind fun u5 =>
  (run (X.matrix_turned_s9 m1) ((List.replicate (e4.length : Int).toNat ([] : (List UInt8))), (0 : Int))).bind fun o9 => match o9 with
  | l14 => X.matrix_turned_e9 l14

/-! cartridge/matrix.Mul -/
def matrix_Mul_e15 (l20 : List (List UInt8)) : Option ((List (List UInt8)) × Int) :=
  (X.matrix_turned l20).bind fun r22 =>
  some (r22, (0 : Int))

def matrix_Mul_s15 (r14 : (List (List UInt8))) (a1 : (List (List UInt8))) (s : ((List (List UInt8)) × Int)) : Option (((List (List UInt8)) × Int) ⊕ List (List UInt8)) :=
  match s with
  | (columns17, x18) =>
    if (decide (x18 < (r14.length : Int))) then
      (getI r14 x18).bind fun e27 =>
      (X.matrix_apply a1 e27).bind fun r28 =>
      (need ((columns17.length + ([r28] : List (List UInt8)).length) * 24 ≤ 140737488355328)).bind fun u29 =>
      some (.inl ((columns17 ++ ([r28] : List (List UInt8))), (wr (x18 + (1 : Int)))))
    else
      some (.inr columns17)

def matrix_Mul (a1 : (List (List UInt8))) (b2 : (List (List UInt8))) : Option ((List (List UInt8)) × Int) :=
  (X.matrix_Right a1).bind fun r6 =>
  ((optG (!((!r6))) (X.matrix_Right b2))).bind fun r7 =>
  ((optG (!(((!r6) || (!r7)))) (getI a1 (0 : Int)))).bind fun e8 =>
  if (((!r6) || (!r7)) || ((e8.length : Int) != (b2.length : Int))) then
    some (([] : (List (List UInt8))), (1 : Int))
  else
    (X.matrix_turned b2).bind fun r14 =>
    (run (X.matrix_Mul_s15 r14 a1) (([] : List (List UInt8)), (0 : Int))).bind fun o15 => match o15 with
    | l20 => X.matrix_Mul_e15 l20

/-! cartridge/cartridgeref1.RightMatrix -/
def cartridgeref1_RightMatrix_e10  : Option Bool :=
  some true

def cartridgeref1_RightMatrix_s10 (m1 : (List (List UInt8))) (s : Int) : Option (Int ⊕ (Unit ⊕ Bool)) :=
  match s with
  | i11 =>
    if (decide (i11 < (m1.length : Int))) then
      (getI m1 i11).bind fun e17 =>
      (getI m1 (0 : Int)).bind fun e18 =>
      if ((e17.length : Int) != (e18.length : Int)) then
        some (.inr (.inr false))
      else
        some (.inl (wr (i11 + (1 : Int))))
    else
      some (.inr (.inl ()))

def cartridgeref1_RightMatrix (m1 : (List (List UInt8))) : Option Bool :=
  ((optG (!(((decide ((m1.length : Int) < (1 : Int))) || (decide ((m1.length : Int) > (255 : Int)))))) (getI m1 (0 : Int)))).bind fun e5 =>
  ((optG (!((((decide ((m1.length : Int) < (1 : Int))) || (decide ((m1.length : Int) > (255 : Int)))) || (decide ((e5.length : Int) < (1 : Int)))))) (getI m1 (0 : Int)))).bind fun e6 =>
  if ((((decide ((m1.length : Int) < (1 : Int))) || (decide ((m1.length : Int) > (255 : Int)))) || (decide ((e5.length : Int) < (1 : Int)))) || (decide ((e6.length : Int) > (255 : Int)))) then
    some false
  else
    (run (X.cartridgeref1_RightMatrix_s10 m1) (1 : Int)).bind fun o10 => match o10 with
    | .inl _ => X.cartridgeref1_RightMatrix_e10
    | .inr rv10 => some rv10

/-! cartridge/cartridgeref1.Mul -/
def cartridgeref1_Mul_e13 (x16 : Int) : Option UInt8 :=
  some (u8 x16)

def cartridgeref1_Mul_j20 (i15 : Int) (x21 : Int) : Option ((Int × Int) ⊕ Int) :=
  some (.inl (x21, (wr (i15 - (1 : Int)))))

def cartridgeref1_Mul_s13 (s : (Int × Int)) : Option ((Int × Int) ⊕ Int) :=
  match s with
  | (x14, i15) =>
    if (decide (i15 ≥ (8 : Int))) then
      if ((and64 (shr64 x14 ((u64 i15).toNat : Int)) (1 : Int)) == (1 : Int)) then
        X.cartridgeref1_Mul_j20 i15 (xor64 x14 (shl64 (285 : Int) ((u64 (wr (i15 - (8 : Int)))).toNat : Int)))
      else
        X.cartridgeref1_Mul_j20 i15 x14
    else
      some (.inr x14)

def cartridgeref1_Mul_e7 (x10 : Int) : Option UInt8 :=
  (run (X.cartridgeref1_Mul_s13) (x10, (14 : Int))).bind fun o13 => match o13 with
  | x16 => X.cartridgeref1_Mul_e13 x16

def cartridgeref1_Mul_j25 (i9 : Int) (x26 : Int) : Option ((Int × Int) ⊕ Int) :=
  some (.inl (x26, (wr (i9 + (1 : Int)))))

def cartridgeref1_Mul_s7 (b2 : UInt8) (a1 : UInt8) (s : (Int × Int)) : Option ((Int × Int) ⊕ Int) :=
  match s with
  | (x8, i9) =>
    if (decide (i9 < (8 : Int))) then
      if (((shr8 b2 (u64 i9).toNat) &&& (1 : UInt8)) == (1 : UInt8)) then
        X.cartridgeref1_Mul_j25 i9 (xor64 x8 (shl64 (a1.toNat : Int) ((u64 i9).toNat : Int)))
      else
        X.cartridgeref1_Mul_j25 i9 x8
    else
      some (.inr x8)

def cartridgeref1_Mul (a1 : UInt8) (b2 : UInt8) : Option UInt8 :=
  (run (X.cartridgeref1_Mul_s7 b2 a1) ((0 : Int), (0 : Int))).bind fun o7 => match o7 with
  | x10 => X.cartridgeref1_Mul_e7 x10

/-! cartridge/cartridgeref1.MulMatrix -/
def cartridgeref1_MulMatrix_e14 (l19 : List (List UInt8)) : Option ((List (List UInt8)) × Int) :=
  some (l19, (0 : Int))

def cartridgeref1_MulMatrix_e30 (out16 : (List (List UInt8))) (i17 : Int) (l37 : List UInt8) : Option (((List (List UInt8)) × Int) ⊕ List (List UInt8)) :=
  (need ((out16.length + ([l37] : List (List UInt8)).length) * 24 ≤ 140737488355328)).bind fun u38 =>
  some (.inl ((out16 ++ ([l37] : List (List UInt8))), (wr (i17 + (1 : Int)))))

def cartridgeref1_MulMatrix_e43 (j34 : Int) (l50 : List UInt8) : Option (((List UInt8) × Int) ⊕ List UInt8) :=
  some (.inl (l50, (wr (j34 + (1 : Int)))))

def cartridgeref1_MulMatrix_s43 (b2 : (List (List UInt8))) (j34 : Int) (a1 : (List (List UInt8))) (i17 : Int) (s : ((List UInt8) × Int)) : Option (((List UInt8) × Int) ⊕ List UInt8) :=
  match s with
  | (row46, k47) =>
    if (decide (k47 < (b2.length : Int))) then
      (getI row46 j34).bind fun e54 =>
      (getI a1 i17).bind fun e55 =>
      (getI e55 k47).bind fun e56 =>
      (getI b2 k47).bind fun e57 =>
      (getI e57 j34).bind fun e58 =>
      (X.cartridgeref1_Mul e56 e58).bind fun r59 =>
      (getI row46 j34).bind fun e60 =>
      some (.inl ((row46.set j34.toNat (e54 ^^^ r59)), (wr (k47 + (1 : Int)))))
    else
      some (.inr row46)

def cartridgeref1_MulMatrix_s30 (b2 : (List (List UInt8))) (a1 : (List (List UInt8))) (i17 : Int) (s : ((List UInt8) × Int)) : Option (((List UInt8) × Int) ⊕ List UInt8) :=
  match s with
  | (row33, j34) =>
    if (decide (j34 < (row33.length : Int))) then
      (run (X.cartridgeref1_MulMatrix_s43 b2 j34 a1 i17) (row33, (0 : Int))).bind fun o43 => match o43 with
      | l50 => X.cartridgeref1_MulMatrix_e43 j34 l50
    else
      some (.inr row33)

def cartridgeref1_MulMatrix_s14 (a1 : (List (List UInt8))) (b2 : (List (List UInt8))) (s : ((List (List UInt8)) × Int)) : Option (((List (List UInt8)) × Int) ⊕ List (List UInt8)) :=
  match s with
  | (out16, i17) =>
    if (decide (i17 < (a1.length : Int))) then
      (getI b2 (0 : Int)).bind fun e25 =>
      (need (0 ≤ (e25.length : Int) ∧ (e25.length : Int) * 1 ≤ 281474976710656)).bind fun u26 =>
      (run (X.cartridgeref1_MulMatrix_s30 b2 a1 i17) ((List.replicate (e25.length : Int).toNat (0 : UInt8)), (0 : Int))).bind fun o30 => match o30 with
      | l37 => X.cartridgeref1_MulMatrix_e30 out16 i17 l37
    else
      some (.inr out16)

def cartridgeref1_MulMatrix (a1 : (List (List UInt8))) (b2 : (List (List UInt8))) : Option ((List (List UInt8)) × Int) :=
  (X.cartridgeref1_RightMatrix a1).bind fun r6 =>
  ((optG (!((!r6))) (X.cartridgeref1_RightMatrix b2))).bind fun r7 =>
  ((optG (!(((!r6) || (!r7)))) (getI a1 (0 : Int)))).bind fun e8 =>
  if (((!r6) || (!r7)) || ((e8.length : Int) != (b2.length : Int))) then
    some (([] : (List (List UInt8))), (1 : Int))
  else
    (run (X.cartridgeref1_MulMatrix_s14 a1 b2) (([] : List (List UInt8)), (0 : Int))).bind fun o14 => match o14 with
    | l19 => X.cartridgeref1_MulMatrix_e14 l19

/-! cartridge/cartridgeref1.Apply -/
def cartridgeref1_Apply_e14 (l19 : List UInt8) : Option ((List UInt8) × Int) :=
  some (l19, (0 : Int))

def cartridgeref1_Apply_e25 (i17 : Int) (l30 : List UInt8) : Option (((List UInt8) × Int) ⊕ List UInt8) :=
  some (.inl (l30, (wr (i17 + (1 : Int)))))

def cartridgeref1_Apply_s25 (v2 : (List UInt8)) (i17 : Int) (m1 : (List (List UInt8))) (s : ((List UInt8) × Int)) : Option (((List UInt8) × Int) ⊕ List UInt8) :=
  match s with
  | (out27, k28) =>
    if (decide (k28 < (v2.length : Int))) then
      (getI out27 i17).bind fun e34 =>
      (getI m1 i17).bind fun e35 =>
      (getI e35 k28).bind fun e36 =>
      (getI v2 k28).bind fun e37 =>
      (X.cartridgeref1_Mul e36 e37).bind fun r38 =>
      (getI out27 i17).bind fun e39 =>
      some (.inl ((out27.set i17.toNat (e34 ^^^ r38)), (wr (k28 + (1 : Int)))))
    else
      some (.inr out27)

def cartridgeref1_Apply_s14 (m1 : (List (List UInt8))) (v2 : (List UInt8)) (s : ((List UInt8) × Int)) : Option (((List UInt8) × Int) ⊕ List UInt8) :=
  match s with
  | (out16, i17) =>
    if (decide (i17 < (m1.length : Int))) then
      (run (X.cartridgeref1_Apply_s25 v2 i17 m1) (out16, (0 : Int))).bind fun o25 => match o25 with
      | l30 => X.cartridgeref1_Apply_e25 i17 l30
    else
      some (.inr out16)

def cartridgeref1_Apply (m1 : (List (List UInt8))) (v2 : (List UInt8)) : Option ((List UInt8) × Int) :=
  (X.cartridgeref1_RightMatrix m1).bind fun r6 =>
  ((optG (!((!r6))) (getI m1 (0 : Int)))).bind fun e7 =>
  if ((!r6) || ((v2.length : Int) != (e7.length : Int))) then
    some (([] : (List UInt8)), (1 : Int))
  else
    (need (0 ≤ (m1.length : Int) ∧ (m1.length : Int) * 1 ≤ 281474976710656)).bind fun u10 =>
    (run (X.cartridgeref1_Apply_s14 m1 v2) ((List.replicate (m1.length : Int).toNat (0 : UInt8)), (0 : Int))).bind fun o14 => match o14 with
    | l19 => X.cartridgeref1_Apply_e14 l19

/-! cartridge/cartridgeref1.Inv -/
def cartridgeref1_Inv_e6 (x9 : UInt8) : Option UInt8 :=
  some x9

def cartridgeref1_Inv_s6 (a1 : UInt8) (s : (UInt8 × Int)) : Option ((UInt8 × Int) ⊕ UInt8) :=
  match s with
  | (x7, i8) =>
    if (decide (i8 < (254 : Int))) then
      (X.cartridgeref1_Mul x7 a1).bind fun r14 =>
      some (.inl (r14, (wr (i8 + (1 : Int)))))
    else
      some (.inr x7)

def cartridgeref1_Inv (a1 : UInt8) : Option UInt8 :=
  (run (X.cartridgeref1_Inv_s6 a1) ((1 : UInt8), (0 : Int))).bind fun o6 => match o6 with
  | x9 => X.cartridgeref1_Inv_e6 x9

/-! cartridge/cartridgeref1.Inverse -/
def cartridgeref1_Inverse_e35 (l41 : List (List UInt8)) : Option ((List (List UInt8)) × Int) :=
  some (l41, (0 : Int))

def cartridgeref1_Inverse_s35 (m1 : (List (List UInt8))) (ix29 : List Nat) (pl30 : List (List UInt8)) (s : ((List (List UInt8)) × Int)) : Option (((List (List UInt8)) × Int) ⊕ List (List UInt8)) :=
  match s with
  | (out38, i39) =>
    if (decide (i39 < (m1.length : Int))) then
      (getI ix29 i39).bind fun q46 =>
      (need ((0 ≤ (m1.length : Int) ∧ (m1.length : Int) ≤ ((pl30.getD q46 []).length : Int) ∧ ((pl30.getD q46 []).length : Int) ≤ (pl30.getD q46 []).length) ∧ ((m1.length : Int) = 0 ∨ (m1.length : Int) < (pl30.getD q46 []).length))).bind fun u47 =>
      (need ((slc (pl30.getD q46 []) (m1.length : Int) ((pl30.getD q46 []).length : Int)).length * 1 ≤ 140737488355328)).bind fun u48 =>
      (need ((out38.length + ([(slc (pl30.getD q46 []) (m1.length : Int) ((pl30.getD q46 []).length : Int))] : List (List UInt8)).length) * 24 ≤ 140737488355328)).bind fun u50 =>
      some (.inl ((out38 ++ ([(slc (pl30.getD q46 []) (m1.length : Int) ((pl30.getD q46 []).length : Int))] : List (List UInt8))), (wr (i39 + (1 : Int)))))
    else
      some (.inr out38)

def cartridgeref1_Inverse_e23 (m1 : (List (List UInt8))) (ix29 : List Nat) (pl30 : List (List UInt8)) : Option ((List (List UInt8)) × Int) :=
  (run (X.cartridgeref1_Inverse_s35 m1 ix29 pl30) (([] : List (List UInt8)), (0 : Int))).bind fun o35 => match o35 with
  | l41 => X.cartridgeref1_Inverse_e35 l41

def cartridgeref1_Inverse_e85 (ix25 : (List Nat)) (p60 : Int) (q67 : Nat) (c27 : Int) (q65 : Nat) (pl91 : List (List UInt8)) : Option (((List Nat) × (List (List UInt8)) × Int) ⊕ ((List Nat × List (List UInt8)) ⊕ ((List (List UInt8)) × Int))) :=
  some (.inl (((ix25.set p60.toNat q67).set c27.toNat q65), pl91, (wr (c27 + (1 : Int)))))

def cartridgeref1_Inverse_e99 (i89 : Int) (pl105 : List (List UInt8)) : Option (((List (List UInt8)) × Int) ⊕ List (List UInt8)) :=
  some (.inl (pl105, (wr (i89 + (1 : Int)))))

def cartridgeref1_Inverse_s99 (m1 : (List (List UInt8))) (i89 : Int) (c27 : Int) (e97 : UInt8) (ix25 : (List Nat)) (p60 : Int) (q67 : Nat) (q65 : Nat) (s : ((List (List UInt8)) × Int)) : Option (((List (List UInt8)) × Int) ⊕ List (List UInt8)) :=
  match s with
  | (a101, k103) =>
    if (((decide (k103 < (wr ((2 : Int) * (m1.length : Int))))) && (i89 != c27)) && (e97 != (0 : UInt8))) then
      (getI ((ix25.set p60.toNat q67).set c27.toNat q65) i89).bind fun q110 =>
      (getI ((ix25.set p60.toNat q67).set c27.toNat q65) i89).bind fun q111 =>
      (getI (a101.getD q111 []) k103).bind fun e112 =>
      (getI (a101.getD q65 []) k103).bind fun e113 =>
      (X.cartridgeref1_Mul e97 e113).bind fun r114 =>
      (getI (a101.getD q110 []) k103).bind fun e115 =>
      some (.inl ((a101.set q110 ((a101.getD q110 []).set k103.toNat (e112 ^^^ r114))), (wr (k103 + (1 : Int)))))
    else
      some (.inr a101)

def cartridgeref1_Inverse_s85 (m1 : (List (List UInt8))) (ix25 : (List Nat)) (p60 : Int) (q67 : Nat) (c27 : Int) (q65 : Nat) (s : ((List (List UInt8)) × Int)) : Option (((List (List UInt8)) × Int) ⊕ List (List UInt8)) :=
  match s with
  | (a87, i89) =>
    if (decide (i89 < (m1.length : Int))) then
      (getI ((ix25.set p60.toNat q67).set c27.toNat q65) i89).bind fun q96 =>
      (getI (a87.getD q96 []) c27).bind fun e97 =>
      (run (X.cartridgeref1_Inverse_s99 m1 i89 c27 e97 ix25 p60 q67 q65) (a87, (0 : Int))).bind fun o99 => match o99 with
      | pl105 => X.cartridgeref1_Inverse_e99 i89 pl105
    else
      some (.inr a87)

def cartridgeref1_Inverse_e74 (ix25 : (List Nat)) (p60 : Int) (q67 : Nat) (c27 : Int) (m1 : (List (List UInt8))) (q65 : Nat) (pl80 : List (List UInt8)) : Option (((List Nat) × (List (List UInt8)) × Int) ⊕ ((List Nat × List (List UInt8)) ⊕ ((List (List UInt8)) × Int))) :=
  (getI (ix25.set p60.toNat q67) c27).bind fun q83 =>
  (run (X.cartridgeref1_Inverse_s85 m1 ix25 p60 q67 c27 q65) (pl80, (0 : Int))).bind fun o85 => match o85 with
  | pl91 => X.cartridgeref1_Inverse_e85 ix25 p60 q67 c27 q65 pl91

def cartridgeref1_Inverse_s74 (m1 : (List (List UInt8))) (q65 : Nat) (r71 : UInt8) (s : ((List (List UInt8)) × Int)) : Option (((List (List UInt8)) × Int) ⊕ List (List UInt8)) :=
  match s with
  | (a76, k78) =>
    if (decide (k78 < (wr ((2 : Int) * (m1.length : Int))))) then
      (getI (a76.getD q65 []) k78).bind fun e119 =>
      (X.cartridgeref1_Mul e119 r71).bind fun r120 =>
      (getI (a76.getD q65 []) k78).bind fun e121 =>
      some (.inl ((a76.set q65 ((a76.getD q65 []).set k78.toNat r120)), (wr (k78 + (1 : Int)))))
    else
      some (.inr a76)

def cartridgeref1_Inverse_e56 (m1 : (List (List UInt8))) (ix25 : (List Nat)) (c27 : Int) (a26 : (List (List UInt8))) (p60 : Int) : Option (((List Nat) × (List (List UInt8)) × Int) ⊕ ((List Nat × List (List UInt8)) ⊕ ((List (List UInt8)) × Int))) :=
  if (p60 == (m1.length : Int)) then
    some (.inr (.inr (([] : (List (List UInt8))), (12 : Int))))
  else
    (getI ix25 p60).bind fun q65 =>
    (getI ix25 c27).bind fun q67 =>
    (getI ix25 p60).bind fun q68 =>
    (getI (a26.getD q65 []) c27).bind fun e70 =>
    (X.cartridgeref1_Inv e70).bind fun r71 =>
    (run (X.cartridgeref1_Inverse_s74 m1 q65 r71) (a26, (0 : Int))).bind fun o74 => match o74 with
    | pl80 => X.cartridgeref1_Inverse_e74 ix25 p60 q67 c27 m1 q65 pl80

def cartridgeref1_Inverse_s56 (m1 : (List (List UInt8))) (ix25 : (List Nat)) (a26 : (List (List UInt8))) (c27 : Int) (s : Int) : Option (Int ⊕ Int) :=
  match s with
  | p58 =>
    ((optG ((decide (p58 < (m1.length : Int)))) (getI ix25 p58))).bind fun q124 =>
    ((optG ((decide (p58 < (m1.length : Int)))) (getI (a26.getD q124 []) c27))).bind fun e125 =>
    if ((decide (p58 < (m1.length : Int))) && (e125 == (0 : UInt8))) then
      some (.inl (wr (p58 + (1 : Int))))
    else
      some (.inr p58)

def cartridgeref1_Inverse_s23 (m1 : (List (List UInt8))) (s : ((List Nat) × (List (List UInt8)) × Int)) : Option (((List Nat) × (List (List UInt8)) × Int) ⊕ ((List Nat × List (List UInt8)) ⊕ ((List (List UInt8)) × Int))) :=
  match s with
  | (ix25, a26, c27) =>
    if (decide (c27 < (m1.length : Int))) then
      (run (X.cartridgeref1_Inverse_s56 m1 ix25 a26 c27) c27).bind fun o56 => match o56 with
      | p60 => X.cartridgeref1_Inverse_e56 m1 ix25 c27 a26 p60
    else
      some (.inr (.inl (ix25, a26)))

def cartridgeref1_Inverse_e13 (m1 : (List (List UInt8))) (ix19 : List Nat) (pl20 : List (List UInt8)) : Option ((List (List UInt8)) × Int) :=
  (run (X.cartridgeref1_Inverse_s23 m1) (ix19, pl20, (0 : Int))).bind fun o23 => match o23 with
  | .inl (ix29, pl30) => X.cartridgeref1_Inverse_e23 m1 ix29 pl30
  | .inr rv23 => some rv23

def cartridgeref1_Inverse_s13 (m1 : (List (List UInt8))) (s : ((List Nat) × (List (List UInt8)) × Int)) : Option (((List Nat) × (List (List UInt8)) × Int) ⊕ (List Nat × List (List UInt8))) :=
  match s with
  | (ix15, a16, i17) =>
    if (decide (i17 < (m1.length : Int))) then
      (getI m1 i17).bind fun e130 =>
      (need (e130.length * 1 ≤ 140737488355328)).bind fun u131 =>
      (need (0 ≤ (m1.length : Int) ∧ (e130.length + (m1.length : Int).toNat) * 1 ≤ 140737488355328)).bind fun u133 =>
      (getI (e130 ++ (List.replicate (m1.length : Int).toNat (0 : UInt8))) (wr ((m1.length : Int) + i17))).bind fun e135 =>
      (need ((ix15.length + 1) * 24 ≤ 140737488355328)).bind fun u136 =>
      some (.inl ((ix15 ++ [a16.length]), (a16 ++ [((e130 ++ (List.replicate (m1.length : Int).toNat (0 : UInt8))).set (wr ((m1.length : Int) + i17)).toNat (1 : UInt8))]), (wr (i17 + (1 : Int)))))
    else
      some (.inr (ix15, a16))

def cartridgeref1_Inverse (m1 : (List (List UInt8))) : Option ((List (List UInt8)) × Int) :=
  (X.cartridgeref1_RightMatrix m1).bind fun r5 =>
  ((optG (!((!r5))) (getI m1 (0 : Int)))).bind fun e6 =>
  if ((!r5) || ((m1.length : Int) != (e6.length : Int))) then
    some (([] : (List (List UInt8))), (1 : Int))
  else
    (run (X.cartridgeref1_Inverse_s13 m1) (([] : List Nat), ([] : List (List UInt8)), (0 : Int))).bind fun o13 => match o13 with
    | (ix19, pl20) => X.cartridgeref1_Inverse_e13 m1 ix19 pl20

/-! cartridge/cartridgeref1.SameRows -/
def cartridgeref1_SameRows_e9  : Option Bool :=
  some true

def cartridgeref1_SameRows_s9 (a1 : (List (List UInt8))) (b2 : (List (List UInt8))) (s : Int) : Option (Int ⊕ (Unit ⊕ Bool)) :=
  match s with
  | i10 =>
    if (decide (i10 < (a1.length : Int))) then
      (getI a1 i10).bind fun e16 =>
      (getI b2 i10).bind fun e17 =>
      if (!((Str.mk e16).l == (Str.mk e17).l)) then
        some (.inr (.inr false))
      else
        some (.inl (wr (i10 + (1 : Int))))
    else
      some (.inr (.inl ()))

def cartridgeref1_SameRows (a1 : (List (List UInt8))) (b2 : (List (List UInt8))) : Option Bool :=
  if ((a1.length : Int) != (b2.length : Int)) then
    some false
  else
    (run (X.cartridgeref1_SameRows_s9 a1 b2) (0 : Int)).bind fun o9 => match o9 with
    | .inl _ => X.cartridgeref1_SameRows_e9
    | .inr rv9 => some rv9

/-! cartridge/cartridgelaw2.MatrixTells -/
def cartridgelaw2_MatrixTells (a1 : (List (List UInt8))) (b2 : (List (List UInt8))) (v3 : (List UInt8)) : Option Bool :=
  (X.cartridgelaw2_alive).bind fun r6 =>
  ((optG (!((!r6))) (X.cartridgelaw2_Few a1))).bind fun r9 =>
  ((optG (!(((!r6) || (!r9)))) (X.cartridgelaw2_Few b2))).bind fun r10 =>
  if ((((!r6) || (!r9)) || (!r10)) || (decide ((v3.length : Int) > (400 : Int)))) then
    some r6
  else
    (X.matrix_Mul a1 b2).bind fun r13 =>
    (X.cartridgeref1_MulMatrix a1 b2).bind fun r15 =>
    (X.matrix_Apply a1 v3).bind fun r17 =>
    (X.cartridgeref1_Apply a1 v3).bind fun r19 =>
    (X.matrix_Inverse a1).bind fun r21 =>
    (X.cartridgeref1_Inverse a1).bind fun r23 =>
    (X.matrix_Right a1).bind fun r25 =>
    (X.cartridgeref1_RightMatrix a1).bind fun r26 =>
    ((optG ((r25 == r26)) (X.cartridgeref1_SameRows r13.1 r15.1))).bind fun r27 =>
    ((optG (((r25 == r26) && r27)) (X.cartridgelaw2_num r13.2))).bind fun r28 =>
    ((optG (((((r25 == r26) && r27) && (r28 == r15.2)) && ((Str.mk r17.1).l == (Str.mk r19.1).l))) (X.cartridgelaw2_num r17.2))).bind fun r29 =>
    ((optG ((((((r25 == r26) && r27) && (r28 == r15.2)) && ((Str.mk r17.1).l == (Str.mk r19.1).l)) && (r29 == r19.2))) (X.cartridgeref1_SameRows r21.1 r23.1))).bind fun r30 =>
    ((optG (((((((r25 == r26) && r27) && (r28 == r15.2)) && ((Str.mk r17.1).l == (Str.mk r19.1).l)) && (r29 == r19.2)) && r30)) (X.cartridgelaw2_num r21.2))).bind fun r31 =>
    some (((((((r25 == r26) && r27) && (r28 == r15.2)) && ((Str.mk r17.1).l == (Str.mk r19.1).l)) && (r29 == r19.2)) && r30) && (r31 == r23.2))

end X
end Go.AX
