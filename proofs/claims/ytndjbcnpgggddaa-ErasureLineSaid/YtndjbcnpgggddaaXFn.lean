import Derived.Test.YtndjbcnpgggddaaXT
/- What the Go functions compute. -/
set_option linter.unusedVariables false
namespace Go.AX
open Go.AM
namespace X

/-! slices.IndexFunc[[][]byte,[]byte] -/
def slices_IndexFunc_LLbyte_Lbyte_e6  : Option Int :=
  some ((-1) : Int)

def slices_IndexFunc_LLbyte_Lbyte_s6 (s1 : (List (List UInt8))) (g2 : (List UInt8) → Option Bool) (s : Int) : Option (Int ⊕ (Unit ⊕ Int)) :=
  match s with
  | x7 =>
    if (decide (x7 < (s1.length : Int))) then
      (getI s1 x7).bind fun e14 =>
      (g2 e14).bind fun r15 =>
      if r15 then
        some (.inr (.inr x7))
      else
        some (.inl (wr (x7 + (1 : Int))))
    else
      some (.inr (.inl ()))

def slices_IndexFunc_LLbyte_Lbyte (s1 : (List (List UInt8))) (g2 : (List UInt8) → Option Bool) : Option Int :=
  (run (X.slices_IndexFunc_LLbyte_Lbyte_s6 s1 g2) (0 : Int)).bind fun o6 => match o6 with
  | .inl _ => X.slices_IndexFunc_LLbyte_Lbyte_e6
  | .inr rv6 => some rv6

/-! slices.ContainsFunc[[][]byte,[]byte] -/
def slices_ContainsFunc_LLbyte_Lbyte (s1 : (List (List UInt8))) (g2 : (List UInt8) → Option Bool) : Option Bool :=
  (X.slices_IndexFunc_LLbyte_Lbyte s1 g2).bind fun r5 =>
  some (decide (r5 ≥ (0 : Int)))

/-! cartridge/erasure.alike$1 -/
def erasure_alike_c1 (r1 : (List UInt8)) (c2 : (List (List UInt8))) : Option Bool :=
  (getI c2 (0 : Int)).bind fun e5 =>
  some ((r1.length : Int) != (e5.length : Int))

/-! cartridge/erasure.alike -/
def erasure_alike (l1 : (List (List UInt8))) : Option Bool :=
  (X.slices_ContainsFunc_LLbyte_Lbyte l1 (fun a1 => X.erasure_alike_c1 a1 l1)).bind fun r4 =>
  some (!r4)

/-! cartridge/gf.Add -/
def gf_Add (a1 : UInt8) (b2 : UInt8) : Option UInt8 :=
  some (a1 ^^^ b2)

/-! cartridge/gf.Mul -/
def gf_Mul_e6 (out10 : UInt8) : Option UInt8 :=
  some out10

def gf_Mul_j14 (b8 : UInt8) (a15 : UInt8) (out16 : UInt8) : Option ((UInt8 × UInt8 × UInt8) ⊕ UInt8) :=
  some (.inl (a15, (shr8 b8 1), out16))

def gf_Mul_j17 (a7 : UInt8) (b8 : UInt8) (out18 : UInt8) : Option ((UInt8 × UInt8 × UInt8) ⊕ UInt8) :=
  if ((a7 &&& (128 : UInt8)) != (0 : UInt8)) then
    X.gf_Mul_j14 b8 ((shl8 a7 1) ^^^ (29 : UInt8)) out18
  else
    X.gf_Mul_j14 b8 (shl8 a7 1) out18

def gf_Mul_s6 (s : (UInt8 × UInt8 × UInt8)) : Option ((UInt8 × UInt8 × UInt8) ⊕ UInt8) :=
  match s with
  | (a7, b8, out9) =>
    if (b8 != (0 : UInt8)) then
      if ((b8 &&& (1 : UInt8)) == (1 : UInt8)) then
        X.gf_Mul_j17 a7 b8 (out9 ^^^ a7)
      else
        X.gf_Mul_j17 a7 b8 out9
    else
      some (.inr out9)

def gf_Mul (a1 : UInt8) (b2 : UInt8) : Option UInt8 :=
  (run (X.gf_Mul_s6) (a1, b2, (0 : UInt8))).bind fun o6 => match o6 with
  | out10 => X.gf_Mul_e6 out10

/-! cartridge/gf.power -/
def gf_power_e6 (out10 : UInt8) : Option UInt8 :=
  some out10

def gf_power_j15 (a7 : UInt8) (n8 : Int) (out16 : UInt8) : Option ((UInt8 × Int × UInt8) ⊕ UInt8) :=
  (X.gf_Mul a7 a7).bind fun r17 =>
  some (.inl (r17, (shr64 n8 ((1 : UInt64).toNat : Int)), out16))

def gf_power_s6 (s : (UInt8 × Int × UInt8)) : Option ((UInt8 × Int × UInt8) ⊕ UInt8) :=
  match s with
  | (a7, n8, out9) =>
    if (decide (n8 > (0 : Int))) then
      if ((and64 n8 (1 : Int)) == (1 : Int)) then
        (X.gf_Mul out9 a7).bind fun r19 =>
        X.gf_power_j15 a7 n8 r19
      else
        X.gf_power_j15 a7 n8 out9
    else
      some (.inr out9)

def gf_power (a1 : UInt8) (n2 : Int) : Option UInt8 :=
  (run (X.gf_power_s6) (a1, n2, (1 : UInt8))).bind fun o6 => match o6 with
  | out10 => X.gf_power_e6 out10

/-! cartridge/gf.Inv -/
def gf_Inv (a1 : UInt8) : Option UInt8 :=
  (X.gf_power a1 (254 : Int)).bind fun r4 =>
  some r4

/-! cartridge/matrix.Cauchy -/
def matrix_Cauchy_e11 (l16 : List (List UInt8)) : Option ((List (List UInt8)) × Int) :=
  some (l16, (0 : Int))

def matrix_Cauchy_e26 (out13 : (List (List UInt8))) (x14 : Int) (l33 : List UInt8) : Option (((List (List UInt8)) × Int) ⊕ List (List UInt8)) :=
  (need ((out13.length + ([l33] : List (List UInt8)).length) * 24 ≤ 140737488355328)).bind fun u34 =>
  some (.inl ((out13 ++ ([l33] : List (List UInt8))), (wr (x14 + (1 : Int)))))

def matrix_Cauchy_s26 (data1 : Int) (x14 : Int) (parity2 : Int) (s : ((List UInt8) × Int)) : Option (((List UInt8) × Int) ⊕ List UInt8) :=
  match s with
  | (r29, x30) =>
    if (decide (x30 < data1)) then
      (X.gf_Add (u8 x14) (u8 (wr (parity2 + x30)))).bind fun r39 =>
      (X.gf_Inv r39).bind fun r40 =>
      (need ((r29.length + ([r40] : List UInt8).length) * 1 ≤ 140737488355328)).bind fun u41 =>
      some (.inl ((r29 ++ ([r40] : List UInt8)), (wr (x30 + (1 : Int)))))
    else
      some (.inr r29)

def matrix_Cauchy_s11 (parity2 : Int) (data1 : Int) (s : ((List (List UInt8)) × Int)) : Option (((List (List UInt8)) × Int) ⊕ List (List UInt8)) :=
  match s with
  | (out13, x14) =>
    if (decide (x14 < parity2)) then
      (run (X.matrix_Cauchy_s26 data1 x14 parity2) (([] : List UInt8), (0 : Int))).bind fun o26 => match o26 with
      | l33 => X.matrix_Cauchy_e26 out13 x14 l33
    else
      some (.inr out13)

def matrix_Cauchy (data1 : Int) (parity2 : Int) : Option ((List (List UInt8)) × Int) :=
  if ((((decide (data1 < (1 : Int))) || (decide (parity2 < (1 : Int)))) || (decide (data1 > (255 : Int)))) || (decide (parity2 > (wr ((255 : Int) - data1))))) then
    some (([] : (List (List UInt8))), (1 : Int))
  else
    (run (X.matrix_Cauchy_s11 parity2 data1) (([] : List (List UInt8)), (0 : Int))).bind fun o11 => match o11 with
    | l16 => X.matrix_Cauchy_e11 l16

/-! cartridge/matrix.Right$1 -/
def matrix_Right_c1 (r1 : (List UInt8)) (c2 : (List (List UInt8))) : Option Bool :=
  (getI c2 (0 : Int)).bind fun e5 =>
  some ((r1.length : Int) != (e5.length : Int))

/-! cartridge/matrix.Right -/
def matrix_Right (m1 : (List (List UInt8))) : Option Bool :=
  ((optG (!(((decide ((m1.length : Int) < (1 : Int))) || (decide ((m1.length : Int) > (255 : Int)))))) (getI m1 (0 : Int)))).bind fun e5 =>
  ((optG (!((((decide ((m1.length : Int) < (1 : Int))) || (decide ((m1.length : Int) > (255 : Int)))) || (decide ((e5.length : Int) < (1 : Int)))))) (getI m1 (0 : Int)))).bind fun e6 =>
  if ((((decide ((m1.length : Int) < (1 : Int))) || (decide ((m1.length : Int) > (255 : Int)))) || (decide ((e5.length : Int) < (1 : Int)))) || (decide ((e6.length : Int) > (255 : Int)))) then
    some false
  else
    (X.slices_ContainsFunc_LLbyte_Lbyte m1 (fun a1 => X.matrix_Right_c1 a1 m1)).bind fun r9 =>
    some (!r9)

/-! cartridge/matrix.apply -/
def matrix_apply_e9 (l14 : List UInt8) : Option (List UInt8) :=
  some l14

def matrix_apply_e22 (x12 : Int) (l27 : List UInt8) : Option (((List UInt8) × Int) ⊕ List UInt8) :=
  some (.inl (l27, (wr (x12 + (1 : Int)))))

def matrix_apply_s22 (e20 : (List UInt8)) (x12 : Int) (v2 : (List UInt8)) (s : ((List UInt8) × Int)) : Option (((List UInt8) × Int) ⊕ List UInt8) :=
  match s with
  | (out24, x25) =>
    if (decide (x25 < (e20.length : Int))) then
      (getI e20 x25).bind fun e32 =>
      (getI out24 x12).bind fun e33 =>
      (getI v2 x25).bind fun e34 =>
      (X.gf_Mul e32 e34).bind fun r35 =>
      (X.gf_Add e33 r35).bind fun r36 =>
      (getI out24 x12).bind fun e37 =>
      some (.inl ((out24.set x12.toNat r36), (wr (x25 + (1 : Int)))))
    else
      some (.inr out24)

def matrix_apply_s9 (m1 : (List (List UInt8))) (v2 : (List UInt8)) (s : ((List UInt8) × Int)) : Option (((List UInt8) × Int) ⊕ List UInt8) :=
  match s with
  | (out11, x12) =>
    if (decide (x12 < (m1.length : Int))) then
      (getI m1 x12).bind fun e20 =>
      (run (X.matrix_apply_s22 e20 x12 v2) (out11, (0 : Int))).bind fun o22 => match o22 with
      | l27 => X.matrix_apply_e22 x12 l27
    else
      some (.inr out11)

def matrix_apply (m1 : (List (List UInt8))) (v2 : (List UInt8)) : Option (List UInt8) :=
  (need (0 ≤ (m1.length : Int) ∧ (m1.length : Int) * 1 ≤ 281474976710656)).bind fun u5 =>
  (run (X.matrix_apply_s9 m1 v2) ((List.replicate (m1.length : Int).toNat (0 : UInt8)), (0 : Int))).bind fun o9 => match o9 with
  | l14 => X.matrix_apply_e9 l14

/-! cartridge/matrix.Apply -/
def matrix_Apply (m1 : (List (List UInt8))) (v2 : (List UInt8)) : Option ((List UInt8) × Int) :=
  (X.matrix_Right m1).bind fun r6 =>
  ((optG (!((!r6))) (getI m1 (0 : Int)))).bind fun e7 =>
  if ((!r6) || ((v2.length : Int) != (e7.length : Int))) then
    some (([] : (List UInt8)), (1 : Int))
  else
    (X.matrix_apply m1 v2).bind fun r10 =>
    some (r10, (0 : Int))

/-! cartridge/erasure.reckon -/
def erasure_reckon_e10 (l15 : List (List UInt8)) : Option (List (List UInt8)) :=
  some l15

def erasure_reckon_e36 (x13 : Int) (l41 : List (List UInt8)) : Option (((List (List UInt8)) × Int) ⊕ List (List UInt8)) :=
  some (.inl (l41, (wr (x13 + (1 : Int)))))

def erasure_reckon_s36 (r34 : ((List UInt8) × Int)) (s : ((List (List UInt8)) × Int)) : Option (((List (List UInt8)) × Int) ⊕ List (List UInt8)) :=
  match s with
  | (out38, x39) =>
    if (decide (x39 < (r34.1.length : Int))) then
      (getI r34.1 x39).bind fun e46 =>
      (getI out38 x39).bind fun e47 =>
      (need ((e47.length + ([e46] : List UInt8).length) * 1 ≤ 140737488355328)).bind fun u49 =>
      (getI out38 x39).bind fun e50 =>
      some (.inl ((out38.set x39.toNat (e47 ++ ([e46] : List UInt8))), (wr (x39 + (1 : Int)))))
    else
      some (.inr out38)

def erasure_reckon_e25 (m1 : (List (List UInt8))) (out12 : (List (List UInt8))) (x13 : Int) (l32 : List UInt8) : Option (((List (List UInt8)) × Int) ⊕ List (List UInt8)) :=
  (X.matrix_Apply m1 l32).bind fun r34 =>
  (run (X.erasure_reckon_s36 r34) (out12, (0 : Int))).bind fun o36 => match o36 with
  | l41 => X.erasure_reckon_e36 x13 l41

def erasure_reckon_s25 (l2 : (List (List UInt8))) (x13 : Int) (s : ((List UInt8) × Int)) : Option (((List UInt8) × Int) ⊕ List UInt8) :=
  match s with
  | (v28, x29) =>
    if (decide (x29 < (l2.length : Int))) then
      (getI l2 x29).bind fun e55 =>
      (getI e55 x13).bind fun e56 =>
      (need ((v28.length + ([e56] : List UInt8).length) * 1 ≤ 140737488355328)).bind fun u57 =>
      some (.inl ((v28 ++ ([e56] : List UInt8)), (wr (x29 + (1 : Int)))))
    else
      some (.inr v28)

def erasure_reckon_s10 (e9 : (List UInt8)) (l2 : (List (List UInt8))) (m1 : (List (List UInt8))) (s : ((List (List UInt8)) × Int)) : Option (((List (List UInt8)) × Int) ⊕ List (List UInt8)) :=
  match s with
  | (out12, x13) =>
    if (decide (x13 < (e9.length : Int))) then
      (run (X.erasure_reckon_s25 l2 x13) (([] : List UInt8), (0 : Int))).bind fun o25 => match o25 with
      | l32 => X.erasure_reckon_e25 m1 out12 x13 l32
    else
      some (.inr out12)

def erasure_reckon (m1 : (List (List UInt8))) (l2 : (List (List UInt8))) : Option (List (List UInt8)) :=
  (need (0 ≤ (m1.length : Int) ∧ (m1.length : Int) * 24 ≤ 281474976710656)).bind fun u5 =>
  (getI l2 (0 : Int)).bind fun e9 =>
  (run (X.erasure_reckon_s10 e9 l2 m1) ((List.replicate (m1.length : Int).toNat ([] : (List UInt8))), (0 : Int))).bind fun o10 => match o10 with
  | l15 => X.erasure_reckon_e10 l15

/-! cartridge/erasure.Encode -/
def erasure_Encode (data1 : (List (List UInt8))) (parity2 : Int) : Option ((List (List UInt8)) × Int) :=
  ((optG (!(((((decide ((data1.length : Int) < (1 : Int))) || (decide ((data1.length : Int) > (255 : Int)))) || (decide (parity2 < (0 : Int)))) || (decide (parity2 > (wr ((255 : Int) - (data1.length : Int)))))))) (X.erasure_alike data1))).bind fun r6 =>
  if (((((decide ((data1.length : Int) < (1 : Int))) || (decide ((data1.length : Int) > (255 : Int)))) || (decide (parity2 < (0 : Int)))) || (decide (parity2 > (wr ((255 : Int) - (data1.length : Int)))))) || (!r6)) then
    some (([] : (List (List UInt8))), (1 : Int))
  else
    if (parity2 == (0 : Int)) then
      some (([] : (List (List UInt8))), (0 : Int))
    else
      (X.matrix_Cauchy (data1.length : Int) parity2).bind fun r12 =>
      if (r12.2 != (0 : Int)) then
        some (([] : (List (List UInt8))), r12.2)
      else
        (X.erasure_reckon r12.1 data1).bind fun r17 =>
        some (r17, (0 : Int))

/-! cartridge/cartridgelaw3.num -/
def cartridgelaw3_num (e1 : Int) : Option Int :=
  some e1

/-! cartridge/erasure.rows -/
def erasure_rows_j14 (l16 : List (List UInt8)) : Option (List (List UInt8)) :=
  some l16

def erasure_rows_e8 (all2 : Int) (data1 : Int) (l13 : List (List UInt8)) : Option (List (List UInt8)) :=
  if (decide (all2 > data1)) then
    (X.matrix_Cauchy data1 (wr (all2 - data1))).bind fun r20 =>
    (need ((l13.length + r20.1.length) * 24 ≤ 140737488355328)).bind fun u21 =>
    X.erasure_rows_j14 (l13 ++ r20.1)
  else
    X.erasure_rows_j14 l13

def erasure_rows_s8 (data1 : Int) (s : ((List (List UInt8)) × Int)) : Option (((List (List UInt8)) × Int) ⊕ List (List UInt8)) :=
  match s with
  | (out10, x11) =>
    if (decide (x11 < data1)) then
      (need (0 ≤ data1 ∧ data1 * 1 ≤ 281474976710656)).bind fun u27 =>
      (getI (List.replicate data1.toNat (0 : UInt8)) x11).bind fun e30 =>
      (need ((out10.length + ([((List.replicate data1.toNat (0 : UInt8)).set x11.toNat (1 : UInt8))] : List (List UInt8)).length) * 24 ≤ 140737488355328)).bind fun u31 =>
      some (.inl ((out10 ++ ([((List.replicate data1.toNat (0 : UInt8)).set x11.toNat (1 : UInt8))] : List (List UInt8))), (wr (x11 + (1 : Int)))))
    else
      some (.inr out10)

def erasure_rows (data1 : Int) (all2 : Int) : Option (List (List UInt8)) :=
  (run (X.erasure_rows_s8 data1) (([] : List (List UInt8)), (0 : Int))).bind fun o8 => match o8 with
  | l13 => X.erasure_rows_e8 all2 data1 l13

/-! slices.Grow[[]byte,byte] -/
def slices_Grow_Lbyte_byte_nil_j5 (l9 : List UInt8) : Option (List UInt8) :=
  some l9

def slices_Grow_Lbyte_byte_nil (n1 : Int) : Option (List UInt8) :=
  if (decide (n1 < (0 : Int))) then
    none
  else
    if (decide ((wr (n1 - (wr ((0 : Int) - (0 : Int))))) > (0 : Int))) then
      (need (0 ≤ (wr (n1 - (wr ((0 : Int) - (0 : Int))))) ∧ (wr (n1 - (wr ((0 : Int) - (0 : Int))))).toNat * 1 ≤ 140737488355328)).bind fun u13 =>
      (need ((0 ≤ (0 : Int) ∧ (0 : Int) ≤ (0 : Int) ∧ (0 : Int) ≤ (List.replicate (wr (n1 - (wr ((0 : Int) - (0 : Int))))).toNat (0 : UInt8)).length) ∧ ((0 : Int) = 0 ∨ (0 : Int) < (List.replicate (wr (n1 - (wr ((0 : Int) - (0 : Int))))).toNat (0 : UInt8)).length))).bind fun u15 =>
      X.slices_Grow_Lbyte_byte_nil_j5 (slc (List.replicate (wr (n1 - (wr ((0 : Int) - (0 : Int))))).toNat (0 : UInt8)) (0 : Int) (0 : Int))
    else
      X.slices_Grow_Lbyte_byte_nil_j5 ([] : List UInt8)

/-! slices.Concat[[]byte,byte] -/
def slices_Concat_Lbyte_byte_e15 (l20 : List UInt8) : Option (List UInt8) :=
  some l20

def slices_Concat_Lbyte_byte_s15 (slices1 : (List (List UInt8))) (s : ((List UInt8) × Int)) : Option (((List UInt8) × Int) ⊕ List UInt8) :=
  match s with
  | (newslice17, x18) =>
    if (decide (x18 < (slices1.length : Int))) then
      (getI slices1 x18).bind fun e26 =>
      (need ((newslice17.length + e26.length) * 1 ≤ 140737488355328)).bind fun u27 =>
      some (.inl ((newslice17 ++ e26), (wr (x18 + (1 : Int)))))
    else
      some (.inr newslice17)

def slices_Concat_Lbyte_byte_e6 (slices1 : (List (List UInt8))) (size9 : Int) : Option (List UInt8) :=
  (X.slices_Grow_Lbyte_byte_nil size9).bind fun r11 =>
  (run (X.slices_Concat_Lbyte_byte_s15 slices1) (r11, (0 : Int))).bind fun o15 => match o15 with
  | l20 => X.slices_Concat_Lbyte_byte_e15 l20

def slices_Concat_Lbyte_byte_s6 (slices1 : (List (List UInt8))) (s : (Int × Int)) : Option ((Int × Int) ⊕ Int) :=
  match s with
  | (size7, x8) =>
    if (decide (x8 < (slices1.length : Int))) then
      (getI slices1 x8).bind fun e32 =>
      if (decide ((wr (size7 + (e32.length : Int))) < (0 : Int))) then
        none
      else
        some (.inl ((wr (size7 + (e32.length : Int))), (wr (x8 + (1 : Int)))))
    else
      some (.inr size7)

def slices_Concat_Lbyte_byte (slices1 : (List (List UInt8))) : Option (List UInt8) :=
  (run (X.slices_Concat_Lbyte_byte_s6 slices1) ((0 : Int), (0 : Int))).bind fun o6 => match o6 with
  | size9 => X.slices_Concat_Lbyte_byte_e6 slices1 size9

/-! cartridge/matrix.beside -/
def matrix_beside_e7 (l12 : List (List UInt8)) : Option (List (List UInt8)) :=
  some l12

def matrix_beside_s7 (m1 : (List (List UInt8))) (s : ((List (List UInt8)) × Int)) : Option (((List (List UInt8)) × Int) ⊕ List (List UInt8)) :=
  match s with
  | (out9, x10) =>
    if (decide (x10 < (m1.length : Int))) then
      (getI m1 x10).bind fun e18 =>
      (need (0 ≤ (m1.length : Int) ∧ (m1.length : Int) * 1 ≤ 281474976710656)).bind fun u20 =>
      (getI (List.replicate (m1.length : Int).toNat (0 : UInt8)) x10).bind fun e23 =>
      (X.slices_Concat_Lbyte_byte ([e18, ((List.replicate (m1.length : Int).toNat (0 : UInt8)).set x10.toNat (1 : UInt8))] : List (List UInt8))).bind fun r24 =>
      (need ((out9.length + ([r24] : List (List UInt8)).length) * 24 ≤ 140737488355328)).bind fun u25 =>
      some (.inl ((out9 ++ ([r24] : List (List UInt8))), (wr (x10 + (1 : Int)))))
    else
      some (.inr out9)

def matrix_beside (m1 : (List (List UInt8))) : Option (List (List UInt8)) :=
  (run (X.matrix_beside_s7 m1) (([] : List (List UInt8)), (0 : Int))).bind fun o7 => match o7 with
  | l12 => X.matrix_beside_e7 l12

/-! cartridge/matrix.Inverse$1 -/
def matrix_Inverse_c1 (r1 : (List UInt8)) (c2 : Int) : Option Bool :=
  (getI r1 c2).bind fun e5 =>
  some (e5 != (0 : UInt8))

/-! cartridge/matrix.scaled -/
def matrix_scaled_e9 (l14 : List UInt8) : Option (List UInt8) :=
  some l14

def matrix_scaled_s9 (r1 : (List UInt8)) (by2 : UInt8) (s : ((List UInt8) × Int)) : Option (((List UInt8) × Int) ⊕ List UInt8) :=
  match s with
  | (out11, x12) =>
    if (decide (x12 < (r1.length : Int))) then
      (getI r1 x12).bind fun e20 =>
      (X.gf_Mul e20 by2).bind fun r21 =>
      (getI out11 x12).bind fun e22 =>
      some (.inl ((out11.set x12.toNat r21), (wr (x12 + (1 : Int)))))
    else
      some (.inr out11)

def matrix_scaled (r1 : (List UInt8)) (by2 : UInt8) : Option (List UInt8) :=
  (need (0 ≤ (r1.length : Int) ∧ (r1.length : Int) * 1 ≤ 281474976710656)).bind fun u5 =>
  (run (X.matrix_scaled_s9 r1 by2) ((List.replicate (r1.length : Int).toNat (0 : UInt8)), (0 : Int))).bind fun o9 => match o9 with
  | l14 => X.matrix_scaled_e9 l14

/-! cartridge/matrix.sum -/
def matrix_sum_e9 (l14 : List UInt8) : Option (List UInt8) :=
  some l14

def matrix_sum_s9 (a1 : (List UInt8)) (b2 : (List UInt8)) (s : ((List UInt8) × Int)) : Option (((List UInt8) × Int) ⊕ List UInt8) :=
  match s with
  | (out11, x12) =>
    if (decide (x12 < (a1.length : Int))) then
      (getI a1 x12).bind fun e20 =>
      (getI b2 x12).bind fun e21 =>
      (X.gf_Add e20 e21).bind fun r22 =>
      (getI out11 x12).bind fun e23 =>
      some (.inl ((out11.set x12.toNat r22), (wr (x12 + (1 : Int)))))
    else
      some (.inr out11)

def matrix_sum (a1 : (List UInt8)) (b2 : (List UInt8)) : Option (List UInt8) :=
  (need (0 ≤ (a1.length : Int) ∧ (a1.length : Int) * 1 ≤ 281474976710656)).bind fun u5 =>
  (run (X.matrix_sum_s9 a1 b2) ((List.replicate (a1.length : Int).toNat (0 : UInt8)), (0 : Int))).bind fun o9 => match o9 with
  | l14 => X.matrix_sum_e9 l14

/-! slices.Clone[[]byte,byte] -/
def slices_Clone_Lbyte_byte (s1 : (List UInt8)) : Option (List UInt8) :=
  nilU s1 fun z5 =>
  if z5 then
    some ([] : (List UInt8))
  else
    (need (s1.length * 1 ≤ 140737488355328)).bind fun u8 =>
    some s1

/-! cartridge/matrix.Inverse -/
def matrix_Inverse_e23 (l29 : List (List UInt8)) : Option ((List (List UInt8)) × Int) :=
  some (l29, (0 : Int))

def matrix_Inverse_s23 (l18 : List (List UInt8)) (m1 : (List (List UInt8))) (s : ((List (List UInt8)) × Int)) : Option (((List (List UInt8)) × Int) ⊕ List (List UInt8)) :=
  match s with
  | (out25, x27) =>
    if (decide (x27 < (l18.length : Int))) then
      (getI l18 x27).bind fun e35 =>
      (need (0 ≤ (m1.length : Int) ∧ (m1.length : Int) ≤ (e35.length : Int) ∧ (e35.length : Int) ≤ e35.length)).bind fun u36 =>
      (X.slices_Clone_Lbyte_byte (slc e35 (m1.length : Int) (e35.length : Int))).bind fun r37 =>
      (need ((out25.length + ([r37] : List (List UInt8)).length) * 24 ≤ 140737488355328)).bind fun u38 =>
      some (.inl ((out25 ++ ([r37] : List (List UInt8))), (wr (x27 + (1 : Int)))))
    else
      some (.inr out25)

def matrix_Inverse_e13 (m1 : (List (List UInt8))) (l18 : List (List UInt8)) : Option ((List (List UInt8)) × Int) :=
  (run (X.matrix_Inverse_s23 l18 m1) (([] : List (List UInt8)), (0 : Int))).bind fun o23 => match o23 with
  | l29 => X.matrix_Inverse_e23 l29

def matrix_Inverse_e63 (x16 : Int) (l68 : List (List UInt8)) : Option (((List (List UInt8)) × Int) ⊕ (List (List UInt8) ⊕ ((List (List UInt8)) × Int))) :=
  some (.inl (l68, (wr (x16 + (1 : Int)))))

def matrix_Inverse_s63 (l15 : (List (List UInt8))) (x16 : Int) (e51 : (List UInt8)) (r46 : Int) (e52 : (List UInt8)) (r60 : (List UInt8)) (s : ((List (List UInt8)) × Int)) : Option (((List (List UInt8)) × Int) ⊕ List (List UInt8)) :=
  match s with
  | (l65, x66) =>
    if (decide (x66 < ((((l15.set x16.toNat e51).set (wr (x16 + r46)).toNat e52).set x16.toNat r60).length : Int))) then
      ((optG ((x66 != x16)) (getI l65 x66))).bind fun e74 =>
      ((optG ((x66 != x16)) (getI e74 x16))).bind fun e75 =>
      if ((x66 != x16) && (e75 != (0 : UInt8))) then
        (getI l65 x66).bind fun e76 =>
        (getI l65 x16).bind fun e77 =>
        (getI l65 x66).bind fun e78 =>
        (getI e78 x16).bind fun e79 =>
        (X.matrix_scaled e77 e79).bind fun r80 =>
        (X.matrix_sum e76 r80).bind fun r81 =>
        (getI l65 x66).bind fun e82 =>
        some (.inl ((l65.set x66.toNat r81), (wr (x66 + (1 : Int)))))
      else
        some (.inl (l65, (wr (x66 + (1 : Int)))))
    else
      some (.inr l65)

def matrix_Inverse_s13 (r9 : (List (List UInt8))) (s : ((List (List UInt8)) × Int)) : Option (((List (List UInt8)) × Int) ⊕ (List (List UInt8) ⊕ ((List (List UInt8)) × Int))) :=
  match s with
  | (l15, x16) =>
    if (decide (x16 < (r9.length : Int))) then
      (need ((0 ≤ x16 ∧ x16 ≤ (l15.length : Int) ∧ (l15.length : Int) ≤ l15.length) ∧ (x16 = 0 ∨ x16 < l15.length))).bind fun u45 =>
      (X.slices_IndexFunc_LLbyte_Lbyte (slc l15 x16 (l15.length : Int)) (fun a1 => X.matrix_Inverse_c1 a1 x16)).bind fun r46 =>
      if (decide (r46 < (0 : Int))) then
        some (.inr (.inr (([] : (List (List UInt8))), (12 : Int))))
      else
        (getI l15 (wr (x16 + r46))).bind fun e51 =>
        (getI l15 x16).bind fun e52 =>
        (getI l15 x16).bind fun e53 =>
        (getI (l15.set x16.toNat e51) (wr (x16 + r46))).bind fun e54 =>
        (getI ((l15.set x16.toNat e51).set (wr (x16 + r46)).toNat e52) x16).bind fun e56 =>
        (getI ((l15.set x16.toNat e51).set (wr (x16 + r46)).toNat e52) x16).bind fun e57 =>
        (getI e57 x16).bind fun e58 =>
        (X.gf_Inv e58).bind fun r59 =>
        (X.matrix_scaled e56 r59).bind fun r60 =>
        (getI ((l15.set x16.toNat e51).set (wr (x16 + r46)).toNat e52) x16).bind fun e61 =>
        (run (X.matrix_Inverse_s63 l15 x16 e51 r46 e52 r60) ((((l15.set x16.toNat e51).set (wr (x16 + r46)).toNat e52).set x16.toNat r60), (0 : Int))).bind fun o63 => match o63 with
        | l68 => X.matrix_Inverse_e63 x16 l68
    else
      some (.inr (.inl l15))

def matrix_Inverse (m1 : (List (List UInt8))) : Option ((List (List UInt8)) × Int) :=
  (X.matrix_Right m1).bind fun r5 =>
  ((optG (!((!r5))) (getI m1 (0 : Int)))).bind fun e6 =>
  if ((!r5) || ((m1.length : Int) != (e6.length : Int))) then
    some (([] : (List (List UInt8))), (1 : Int))
  else
    (X.matrix_beside m1).bind fun r9 =>
    (run (X.matrix_Inverse_s13 r9) (r9, (0 : Int))).bind fun o13 => match o13 with
    | .inl l18 => X.matrix_Inverse_e13 m1 l18
    | .inr rv13 => some rv13

/-! cartridge/erasure.Decode -/
def erasure_Decode_e25 (data2 : Int) (l13 : List (List UInt8)) (l32 : List (List UInt8)) : Option ((List (List UInt8)) × Int) :=
  (X.matrix_Inverse l32).bind fun r34 =>
  if (r34.2 != (0 : Int)) then
    some (([] : (List (List UInt8))), r34.2)
  else
    (need ((0 ≤ (0 : Int) ∧ (0 : Int) ≤ data2 ∧ data2 ≤ l13.length) ∧ ((0 : Int) = 0 ∨ (0 : Int) < l13.length))).bind fun u39 =>
    (X.erasure_reckon r34.1 (slc l13 (0 : Int) data2)).bind fun r40 =>
    some (r40, (0 : Int))

def erasure_Decode_s25 (r24 : (List (List UInt8))) (have1 : (List (List UInt8))) (data2 : Int) (s : ((List (List UInt8)) × Int)) : Option (((List (List UInt8)) × Int) ⊕ List (List UInt8)) :=
  match s with
  | (m28, x29) =>
    if (decide (x29 < (r24.length : Int))) then
      (getI r24 x29).bind fun e45 =>
      (getI have1 x29).bind fun e47 =>
      if ((decide ((e47.length : Int) > (0 : Int))) && (decide ((m28.length : Int) < data2))) then
        (need ((m28.length + ([e45] : List (List UInt8)).length) * 24 ≤ 140737488355328)).bind fun u48 =>
        some (.inl ((m28 ++ ([e45] : List (List UInt8))), (wr (x29 + (1 : Int)))))
      else
        some (.inl (m28, (wr (x29 + (1 : Int)))))
    else
      some (.inr m28)

def erasure_Decode_e8 (data2 : Int) (have1 : (List (List UInt8))) (l13 : List (List UInt8)) : Option ((List (List UInt8)) × Int) :=
  ((optG (!(((((decide (data2 < (1 : Int))) || (decide (data2 > (have1.length : Int)))) || (decide ((have1.length : Int) > (255 : Int)))) || ((l13.length : Int) == (0 : Int))))) (X.erasure_alike l13))).bind fun r16 =>
  if (((((decide (data2 < (1 : Int))) || (decide (data2 > (have1.length : Int)))) || (decide ((have1.length : Int) > (255 : Int)))) || ((l13.length : Int) == (0 : Int))) || (!r16)) then
    some (([] : (List (List UInt8))), (1 : Int))
  else
    if (decide ((l13.length : Int) < data2)) then
      some (([] : (List (List UInt8))), (10 : Int))
    else
      (X.erasure_rows data2 (have1.length : Int)).bind fun r24 =>
      (run (X.erasure_Decode_s25 r24 have1 data2) (([] : List (List UInt8)), (0 : Int))).bind fun o25 => match o25 with
      | l32 => X.erasure_Decode_e25 data2 l13 l32

def erasure_Decode_s8 (have1 : (List (List UInt8))) (s : ((List (List UInt8)) × Int)) : Option (((List (List UInt8)) × Int) ⊕ List (List UInt8)) :=
  match s with
  | (there10, x11) =>
    if (decide (x11 < (have1.length : Int))) then
      (getI have1 x11).bind fun e53 =>
      if (decide ((e53.length : Int) > (0 : Int))) then
        (need ((there10.length + ([e53] : List (List UInt8)).length) * 24 ≤ 140737488355328)).bind fun u55 =>
        some (.inl ((there10 ++ ([e53] : List (List UInt8))), (wr (x11 + (1 : Int)))))
      else
        some (.inl (there10, (wr (x11 + (1 : Int)))))
    else
      some (.inr there10)

def erasure_Decode (have1 : (List (List UInt8))) (data2 : Int) : Option ((List (List UInt8)) × Int) :=
  (run (X.erasure_Decode_s8 have1) (([] : List (List UInt8)), (0 : Int))).bind fun o8 => match o8 with
  | l13 => X.erasure_Decode_e8 data2 have1 l13

/-! cartridge/cartridgelaw3.alive -/
def cartridgelaw3_alive  : Option Bool :=
  (X.erasure_Encode ([([(97 : UInt8), (98 : UInt8)] : List UInt8)] : List (List UInt8)) (1 : Int)).bind fun r4 =>
  (X.cartridgelaw3_num r4.2).bind fun r7 =>
  if ((r7 != (0 : Int)) || ((r4.1.length : Int) != (1 : Int))) then
    some false
  else
    (getI r4.1 (0 : Int)).bind fun e10 =>
    (X.erasure_Decode ([([] : (List UInt8)), e10] : List (List UInt8)) (1 : Int)).bind fun r11 =>
    (X.cartridgelaw3_num r11.2).bind fun r13 =>
    ((optG (((r13 == (0 : Int)) && ((r11.1.length : Int) == (1 : Int)))) (getI r11.1 (0 : Int)))).bind fun e14 =>
    some (((r13 == (0 : Int)) && ((r11.1.length : Int) == (1 : Int))) && ((Str.mk e14).l == (Str.mk [97, 98]).l))

/-! cartridge/cartridgelaw2.Few -/
def cartridgelaw2_Few_e6 (n9 : Int) : Option Bool :=
  some (decide (n9 ≤ (2000 : Int)))

def cartridgelaw2_Few_s6 (m1 : (List (List UInt8))) (s : (Int × Int)) : Option ((Int × Int) ⊕ Int) :=
  match s with
  | (n7, i8) =>
    if ((decide (i8 < (m1.length : Int))) && (decide (n7 ≤ (2000 : Int)))) then
      (getI m1 i8).bind fun e14 =>
      some (.inl ((wr ((wr (n7 + (1 : Int))) + (e14.length : Int))), (wr (i8 + (1 : Int)))))
    else
      some (.inr n7)

def cartridgelaw2_Few (m1 : (List (List UInt8))) : Option Bool :=
  (run (X.cartridgelaw2_Few_s6 m1) ((0 : Int), (0 : Int))).bind fun o6 => match o6 with
  | n9 => X.cartridgelaw2_Few_e6 n9

/-! cartridge/cartridgelaw3.ErasureLine -/
def cartridgelaw3_ErasureLine_e33  : Option Bool :=
  some true

def cartridgelaw3_ErasureLine_e49 (i34 : Int) : Option (Int ⊕ (Unit ⊕ Bool)) :=
  some (.inl (wr (i34 + (1 : Int))))

def cartridgelaw3_ErasureLine_s49 (r26 : ((List (List UInt8)) × Int)) (i34 : Int) (r22 : ((List (List UInt8)) × Int)) (r24 : ((List (List UInt8)) × Int)) (s : Int) : Option (Int ⊕ (Unit ⊕ Bool)) :=
  match s with
  | k50 =>
    (getI r26.1 i34).bind fun e53 =>
    if (decide (k50 < (e53.length : Int))) then
      (getI r26.1 i34).bind fun e56 =>
      (getI e56 k50).bind fun e57 =>
      (getI r22.1 i34).bind fun e58 =>
      (getI e58 k50).bind fun e59 =>
      (getI r24.1 i34).bind fun e60 =>
      (getI e60 k50).bind fun e61 =>
      if (e57 != (e59 ^^^ e61)) then
        some (.inr (.inr false))
      else
        some (.inl (wr (k50 + (1 : Int))))
    else
      some (.inr (.inl ()))

def cartridgelaw3_ErasureLine_s33 (parity3 : Int) (r22 : ((List (List UInt8)) × Int)) (a1 : (List (List UInt8))) (r24 : ((List (List UInt8)) × Int)) (r26 : ((List (List UInt8)) × Int)) (s : Int) : Option (Int ⊕ (Unit ⊕ Bool)) :=
  match s with
  | i34 =>
    if (decide (i34 < parity3)) then
      (getI r22.1 i34).bind fun e41 =>
      (getI a1 (0 : Int)).bind fun e42 =>
      ((optG (!(((e41.length : Int) != (e42.length : Int)))) (getI r24.1 i34))).bind fun e43 =>
      ((optG (!(((e41.length : Int) != (e42.length : Int)))) (getI a1 (0 : Int)))).bind fun e44 =>
      ((optG (!((((e41.length : Int) != (e42.length : Int)) || ((e43.length : Int) != (e44.length : Int))))) (getI r26.1 i34))).bind fun e45 =>
      ((optG (!((((e41.length : Int) != (e42.length : Int)) || ((e43.length : Int) != (e44.length : Int))))) (getI a1 (0 : Int)))).bind fun e46 =>
      if ((((e41.length : Int) != (e42.length : Int)) || ((e43.length : Int) != (e44.length : Int))) || ((e45.length : Int) != (e46.length : Int))) then
        some (.inr (.inr false))
      else
        (run (X.cartridgelaw3_ErasureLine_s49 r26 i34 r22 r24) (0 : Int)).bind fun o49 => match o49 with
        | .inl _ => X.cartridgelaw3_ErasureLine_e49 i34
        | .inr rv49 => some (.inr (.inr rv49))
    else
      some (.inr (.inl ()))

def cartridgelaw3_ErasureLine_e15 (a1 : (List (List UInt8))) (parity3 : Int) (b2 : (List (List UInt8))) (l20 : List (List UInt8)) : Option Bool :=
  (X.erasure_Encode a1 parity3).bind fun r22 =>
  (X.erasure_Encode b2 parity3).bind fun r24 =>
  (X.erasure_Encode l20 parity3).bind fun r26 =>
  (X.cartridgelaw3_num r26.2).bind fun r29 =>
  if ((((r29 != (0 : Int)) || ((r22.1.length : Int) != parity3)) || ((r24.1.length : Int) != parity3)) || ((r26.1.length : Int) != parity3)) then
    some false
  else
    (run (X.cartridgelaw3_ErasureLine_s33 parity3 r22 a1 r24 r26) (0 : Int)).bind fun o33 => match o33 with
    | .inl _ => X.cartridgelaw3_ErasureLine_e33
    | .inr rv33 => some rv33

def cartridgelaw3_ErasureLine_e79 (c17 : (List (List UInt8))) (i18 : Int) (l86 : List UInt8) : Option (((List (List UInt8)) × Int) ⊕ (List (List UInt8) ⊕ Bool)) :=
  (need ((c17.length + ([l86] : List (List UInt8)).length) * 24 ≤ 140737488355328)).bind fun u87 =>
  some (.inl ((c17 ++ ([l86] : List (List UInt8))), (wr (i18 + (1 : Int)))))

def cartridgelaw3_ErasureLine_s79 (a1 : (List (List UInt8))) (i18 : Int) (b2 : (List (List UInt8))) (s : ((List UInt8) × Int)) : Option (((List UInt8) × Int) ⊕ List UInt8) :=
  match s with
  | (row82, k83) =>
    if (decide (k83 < (row82.length : Int))) then
      (getI a1 i18).bind fun e91 =>
      (getI e91 k83).bind fun e92 =>
      (getI b2 i18).bind fun e93 =>
      (getI e93 k83).bind fun e94 =>
      (getI row82 k83).bind fun e95 =>
      some (.inl ((row82.set k83.toNat (e92 ^^^ e94)), (wr (k83 + (1 : Int)))))
    else
      some (.inr row82)

def cartridgelaw3_ErasureLine_s15 (a1 : (List (List UInt8))) (b2 : (List (List UInt8))) (s : ((List (List UInt8)) × Int)) : Option (((List (List UInt8)) × Int) ⊕ (List (List UInt8) ⊕ Bool)) :=
  match s with
  | (c17, i18) =>
    if (decide (i18 < (a1.length : Int))) then
      (getI a1 i18).bind fun e68 =>
      (getI a1 (0 : Int)).bind fun e69 =>
      ((optG (!(((e68.length : Int) != (e69.length : Int)))) (getI b2 i18))).bind fun e70 =>
      ((optG (!(((e68.length : Int) != (e69.length : Int)))) (getI a1 (0 : Int)))).bind fun e71 =>
      if (((e68.length : Int) != (e69.length : Int)) || ((e70.length : Int) != (e71.length : Int))) then
        some (.inr (.inr true))
      else
        (getI a1 (0 : Int)).bind fun e74 =>
        (need (0 ≤ (e74.length : Int) ∧ (e74.length : Int) * 1 ≤ 281474976710656)).bind fun u75 =>
        (run (X.cartridgelaw3_ErasureLine_s79 a1 i18 b2) ((List.replicate (e74.length : Int).toNat (0 : UInt8)), (0 : Int))).bind fun o79 => match o79 with
        | l86 => X.cartridgelaw3_ErasureLine_e79 c17 i18 l86
    else
      some (.inr (.inl c17))

def cartridgelaw3_ErasureLine (a1 : (List (List UInt8))) (b2 : (List (List UInt8))) (parity3 : Int) : Option Bool :=
  (X.cartridgelaw3_alive).bind fun r6 =>
  ((optG (!((!r6))) (X.cartridgelaw2_Few a1))).bind fun r9 =>
  if (((((((!r6) || (!r9)) || (decide ((a1.length : Int) < (1 : Int)))) || (decide ((a1.length : Int) > (20 : Int)))) || ((b2.length : Int) != (a1.length : Int))) || (decide (parity3 < (1 : Int)))) || (decide (parity3 > (8 : Int)))) then
    some r6
  else
    (run (X.cartridgelaw3_ErasureLine_s15 a1 b2) (([] : List (List UInt8)), (0 : Int))).bind fun o15 => match o15 with
    | .inl l20 => X.cartridgelaw3_ErasureLine_e15 a1 parity3 b2 l20
    | .inr rv15 => some rv15

end X
end Go.AX
