import Derived.Test.YtgkbjnhpmlfgdaaXT
/- What the Go functions compute. -/
set_option linter.unusedVariables false
namespace Go.AX
open Go.AM
namespace X

/-! slices.IndexFunc[[][]byte,[]byte] -/
def slices_IndexFunc_LLbyte_Lbyte_e6  : Option Int :=
  some ((-1) : Int)

def slices_IndexFunc_LLbyte_Lbyte_s6 (s1 : (List (List UInt8))) (g2 : (List UInt8) → Option Bool) (s : Int) : Option (Int ⊕ (Unit ⊕ Int)) :=
  match s with
  | x7 =>
    if (decide (x7 < (s1.length : Int))) then
      (getI s1 x7).bind fun e14 =>
      (g2 e14).bind fun r15 =>
      if r15 then
        some (.inr (.inr x7))
      else
        some (.inl (wr (x7 + (1 : Int))))
    else
      some (.inr (.inl ()))

def slices_IndexFunc_LLbyte_Lbyte (s1 : (List (List UInt8))) (g2 : (List UInt8) → Option Bool) : Option Int :=
  (run (X.slices_IndexFunc_LLbyte_Lbyte_s6 s1 g2) (0 : Int)).bind fun o6 => match o6 with
  | .inl _ => X.slices_IndexFunc_LLbyte_Lbyte_e6
  | .inr rv6 => some rv6

/-! slices.ContainsFunc[[][]byte,[]byte] -/
def slices_ContainsFunc_LLbyte_Lbyte (s1 : (List (List UInt8))) (g2 : (List UInt8) → Option Bool) : Option Bool :=
  (X.slices_IndexFunc_LLbyte_Lbyte s1 g2).bind fun r5 =>
  some (decide (r5 ≥ (0 : Int)))

/-! cartridge/erasure.alike$1 -/
def erasure_alike_c1 (r1 : (List UInt8)) (c2 : (List (List UInt8))) : Option Bool :=
  (getI c2 (0 : Int)).bind fun e5 =>
  some ((r1.length : Int) != (e5.length : Int))

/-! cartridge/erasure.alike -/
def erasure_alike (l1 : (List (List UInt8))) : Option Bool :=
  (X.slices_ContainsFunc_LLbyte_Lbyte l1 (fun a1 => X.erasure_alike_c1 a1 l1)).bind fun r4 =>
  some (!r4)

/-! cartridge/gf.Add -/
def gf_Add (a1 : UInt8) (b2 : UInt8) : Option UInt8 :=
  some (a1 ^^^ b2)

/-! cartridge/gf.Mul -/
def gf_Mul_e6 (out10 : UInt8) : Option UInt8 :=
  some out10

def gf_Mul_j14 (b8 : UInt8) (a15 : UInt8) (out16 : UInt8) : Option ((UInt8 × UInt8 × UInt8) ⊕ UInt8) :=
  some (.inl (a15, (shr8 b8 1), out16))

def gf_Mul_j17 (a7 : UInt8) (b8 : UInt8) (out18 : UInt8) : Option ((UInt8 × UInt8 × UInt8) ⊕ UInt8) :=
  if ((a7 &&& (128 : UInt8)) != (0 : UInt8)) then
    X.gf_Mul_j14 b8 ((shl8 a7 1) ^^^ (29 : UInt8)) out18
  else
    X.gf_Mul_j14 b8 (shl8 a7 1) out18

def gf_Mul_s6 (s : (UInt8 × UInt8 × UInt8)) : Option ((UInt8 × UInt8 × UInt8) ⊕ UInt8) :=
  match s with
  | (a7, b8, out9) =>
    if (b8 != (0 : UInt8)) then
      if ((b8 &&& (1 : UInt8)) == (1 : UInt8)) then
        X.gf_Mul_j17 a7 b8 (out9 ^^^ a7)
      else
        X.gf_Mul_j17 a7 b8 out9
    else
      some (.inr out9)

def gf_Mul (a1 : UInt8) (b2 : UInt8) : Option UInt8 :=
  (run (X.gf_Mul_s6) (a1, b2, (0 : UInt8))).bind fun o6 => match o6 with
  | out10 => X.gf_Mul_e6 out10

/-! cartridge/gf.power -/
def gf_power_e6 (out10 : UInt8) : Option UInt8 :=
  some out10

def gf_power_j15 (a7 : UInt8) (n8 : Int) (out16 : UInt8) : Option ((UInt8 × Int × UInt8) ⊕ UInt8) :=
  (X.gf_Mul a7 a7).bind fun r17 =>
  some (.inl (r17, (shr64 n8 ((1 : UInt64).toNat : Int)), out16))

def gf_power_s6 (s : (UInt8 × Int × UInt8)) : Option ((UInt8 × Int × UInt8) ⊕ UInt8) :=
  match s with
  | (a7, n8, out9) =>
    if (decide (n8 > (0 : Int))) then
      if ((and64 n8 (1 : Int)) == (1 : Int)) then
        (X.gf_Mul out9 a7).bind fun r19 =>
        X.gf_power_j15 a7 n8 r19
      else
        X.gf_power_j15 a7 n8 out9
    else
      some (.inr out9)

def gf_power (a1 : UInt8) (n2 : Int) : Option UInt8 :=
  (run (X.gf_power_s6) (a1, n2, (1 : UInt8))).bind fun o6 => match o6 with
  | out10 => X.gf_power_e6 out10

/-! cartridge/gf.Inv -/
def gf_Inv (a1 : UInt8) : Option UInt8 :=
  (X.gf_power a1 (254 : Int)).bind fun r4 =>
  some r4

/-! cartridge/matrix.Cauchy -/
def matrix_Cauchy_e11 (l16 : List (List UInt8)) : Option ((List (List UInt8)) × Int) :=
  some (l16, (0 : Int))

def matrix_Cauchy_e26 (out13 : (List (List UInt8))) (x14 : Int) (l33 : List UInt8) : Option (((List (List UInt8)) × Int) ⊕ List (List UInt8)) :=
  (need ((out13.length + ([l33] : List (List UInt8)).length) * 24 ≤ 140737488355328)).bind fun u34 =>
  some (.inl ((out13 ++ ([l33] : List (List UInt8))), (wr (x14 + (1 : Int)))))

def matrix_Cauchy_s26 (data1 : Int) (x14 : Int) (parity2 : Int) (s : ((List UInt8) × Int)) : Option (((List UInt8) × Int) ⊕ List UInt8) :=
  match s with
  | (r29, x30) =>
    if (decide (x30 < data1)) then
      (X.gf_Add (u8 x14) (u8 (wr (parity2 + x30)))).bind fun r39 =>
      (X.gf_Inv r39).bind fun r40 =>
      (need ((r29.length + ([r40] : List UInt8).length) * 1 ≤ 140737488355328)).bind fun u41 =>
      some (.inl ((r29 ++ ([r40] : List UInt8)), (wr (x30 + (1 : Int)))))
    else
      some (.inr r29)

def matrix_Cauchy_s11 (parity2 : Int) (data1 : Int) (s : ((List (List UInt8)) × Int)) : Option (((List (List UInt8)) × Int) ⊕ List (List UInt8)) :=
  match s with
  | (out13, x14) =>
    if (decide (x14 < parity2)) then
      (run (X.matrix_Cauchy_s26 data1 x14 parity2) (([] : List UInt8), (0 : Int))).bind fun o26 => match o26 with
      | l33 => X.matrix_Cauchy_e26 out13 x14 l33
    else
      some (.inr out13)

def matrix_Cauchy (data1 : Int) (parity2 : Int) : Option ((List (List UInt8)) × Int) :=
  if ((((decide (data1 < (1 : Int))) || (decide (parity2 < (1 : Int)))) || (decide (data1 > (255 : Int)))) || (decide (parity2 > (wr ((255 : Int) - data1))))) then
    some (([] : (List (List UInt8))), (1 : Int))
  else
    (run (X.matrix_Cauchy_s11 parity2 data1) (([] : List (List UInt8)), (0 : Int))).bind fun o11 => match o11 with
    | l16 => X.matrix_Cauchy_e11 l16

/-! cartridge/matrix.Right$1 -/
def matrix_Right_c1 (r1 : (List UInt8)) (c2 : (List (List UInt8))) : Option Bool :=
  (getI c2 (0 : Int)).bind fun e5 =>
  some ((r1.length : Int) != (e5.length : Int))

/-! cartridge/matrix.Right -/
def matrix_Right (m1 : (List (List UInt8))) : Option Bool :=
  ((optG (!(((decide ((m1.length : Int) < (1 : Int))) || (decide ((m1.length : Int) > (255 : Int)))))) (getI m1 (0 : Int)))).bind fun e5 =>
  ((optG (!((((decide ((m1.length : Int) < (1 : Int))) || (decide ((m1.length : Int) > (255 : Int)))) || (decide ((e5.length : Int) < (1 : Int)))))) (getI m1 (0 : Int)))).bind fun e6 =>
  if ((((decide ((m1.length : Int) < (1 : Int))) || (decide ((m1.length : Int) > (255 : Int)))) || (decide ((e5.length : Int) < (1 : Int)))) || (decide ((e6.length : Int) > (255 : Int)))) then
    some false
  else
    (X.slices_ContainsFunc_LLbyte_Lbyte m1 (fun a1 => X.matrix_Right_c1 a1 m1)).bind fun r9 =>
    some (!r9)

/-! cartridge/matrix.apply -/
def matrix_apply_e9 (l14 : List UInt8) : Option (List UInt8) :=
  some l14

def matrix_apply_e22 (x12 : Int) (l27 : List UInt8) : Option (((List UInt8) × Int) ⊕ List UInt8) :=
  some (.inl (l27, (wr (x12 + (1 : Int)))))

def matrix_apply_s22 (e20 : (List UInt8)) (x12 : Int) (v2 : (List UInt8)) (s : ((List UInt8) × Int)) : Option (((List UInt8) × Int) ⊕ List UInt8) :=
  match s with
  | (out24, x25) =>
    if (decide (x25 < (e20.length : Int))) then
      (getI e20 x25).bind fun e32 =>
      (getI out24 x12).bind fun e33 =>
      (getI v2 x25).bind fun e34 =>
      (X.gf_Mul e32 e34).bind fun r35 =>
      (X.gf_Add e33 r35).bind fun r36 =>
      (getI out24 x12).bind fun e37 =>
      some (.inl ((out24.set x12.toNat r36), (wr (x25 + (1 : Int)))))
    else
      some (.inr out24)

def matrix_apply_s9 (m1 : (List (List UInt8))) (v2 : (List UInt8)) (s : ((List UInt8) × Int)) : Option (((List UInt8) × Int) ⊕ List UInt8) :=
  match s with
  | (out11, x12) =>
    if (decide (x12 < (m1.length : Int))) then
      (getI m1 x12).bind fun e20 =>
      (run (X.matrix_apply_s22 e20 x12 v2) (out11, (0 : Int))).bind fun o22 => match o22 with
      | l27 => X.matrix_apply_e22 x12 l27
    else
      some (.inr out11)

def matrix_apply (m1 : (List (List UInt8))) (v2 : (List UInt8)) : Option (List UInt8) :=
  (need (0 ≤ (m1.length : Int) ∧ (m1.length : Int) * 1 ≤ 281474976710656)).bind fun u5 =>
  (run (X.matrix_apply_s9 m1 v2) ((List.replicate (m1.length : Int).toNat (0 : UInt8)), (0 : Int))).bind fun o9 => match o9 with
  | l14 => X.matrix_apply_e9 l14

/-! cartridge/matrix.Apply -/
def matrix_Apply (m1 : (List (List UInt8))) (v2 : (List UInt8)) : Option ((List UInt8) × Int) :=
  (X.matrix_Right m1).bind fun r6 =>
  ((optG (!((!r6))) (getI m1 (0 : Int)))).bind fun e7 =>
  if ((!r6) || ((v2.length : Int) != (e7.length : Int))) then
    some (([] : (List UInt8)), (1 : Int))
  else
    (X.matrix_apply m1 v2).bind fun r10 =>
    some (r10, (0 : Int))

/-! cartridge/erasure.reckon -/
def erasure_reckon_e10 (l15 : List (List UInt8)) : Option (List (List UInt8)) :=
  some l15

def erasure_reckon_e36 (x13 : Int) (l41 : List (List UInt8)) : Option (((List (List UInt8)) × Int) ⊕ List (List UInt8)) :=
  some (.inl (l41, (wr (x13 + (1 : Int)))))

def erasure_reckon_s36 (r34 : ((List UInt8) × Int)) (s : ((List (List UInt8)) × Int)) : Option (((List (List UInt8)) × Int) ⊕ List (List UInt8)) :=
  match s with
  | (out38, x39) =>
    if (decide (x39 < (r34.1.length : Int))) then
      (getI r34.1 x39).bind fun e46 =>
      (getI out38 x39).bind fun e47 =>
      (need ((e47.length + ([e46] : List UInt8).length) * 1 ≤ 140737488355328)).bind fun u49 =>
      (getI out38 x39).bind fun e50 =>
      some (.inl ((out38.set x39.toNat (e47 ++ ([e46] : List UInt8))), (wr (x39 + (1 : Int)))))
    else
      some (.inr out38)

def erasure_reckon_e25 (m1 : (List (List UInt8))) (out12 : (List (List UInt8))) (x13 : Int) (l32 : List UInt8) : Option (((List (List UInt8)) × Int) ⊕ List (List UInt8)) :=
  (X.matrix_Apply m1 l32).bind fun r34 =>
  (run (X.erasure_reckon_s36 r34) (out12, (0 : Int))).bind fun o36 => match o36 with
  | l41 => X.erasure_reckon_e36 x13 l41

def erasure_reckon_s25 (l2 : (List (List UInt8))) (x13 : Int) (s : ((List UInt8) × Int)) : Option (((List UInt8) × Int) ⊕ List UInt8) :=
  match s with
  | (v28, x29) =>
    if (decide (x29 < (l2.length : Int))) then
      (getI l2 x29).bind fun e55 =>
      (getI e55 x13).bind fun e56 =>
      (need ((v28.length + ([e56] : List UInt8).length) * 1 ≤ 140737488355328)).bind fun u57 =>
      some (.inl ((v28 ++ ([e56] : List UInt8)), (wr (x29 + (1 : Int)))))
    else
      some (.inr v28)

def erasure_reckon_s10 (e9 : (List UInt8)) (l2 : (List (List UInt8))) (m1 : (List (List UInt8))) (s : ((List (List UInt8)) × Int)) : Option (((List (List UInt8)) × Int) ⊕ List (List UInt8)) :=
  match s with
  | (out12, x13) =>
    if (decide (x13 < (e9.length : Int))) then
      (run (X.erasure_reckon_s25 l2 x13) (([] : List UInt8), (0 : Int))).bind fun o25 => match o25 with
      | l32 => X.erasure_reckon_e25 m1 out12 x13 l32
    else
      some (.inr out12)

def erasure_reckon (m1 : (List (List UInt8))) (l2 : (List (List UInt8))) : Option (List (List UInt8)) :=
  (need (0 ≤ (m1.length : Int) ∧ (m1.length : Int) * 24 ≤ 281474976710656)).bind fun u5 =>
  (getI l2 (0 : Int)).bind fun e9 =>
  (run (X.erasure_reckon_s10 e9 l2 m1) ((List.replicate (m1.length : Int).toNat ([] : (List UInt8))), (0 : Int))).bind fun o10 => match o10 with
  | l15 => X.erasure_reckon_e10 l15

/-! cartridge/erasure.Encode -/
def erasure_Encode (data1 : (List (List UInt8))) (parity2 : Int) : Option ((List (List UInt8)) × Int) :=
  ((optG (!(((((decide ((data1.length : Int) < (1 : Int))) || (decide ((data1.length : Int) > (255 : Int)))) || (decide (parity2 < (0 : Int)))) || (decide (parity2 > (wr ((255 : Int) - (data1.length : Int)))))))) (X.erasure_alike data1))).bind fun r6 =>
  if (((((decide ((data1.length : Int) < (1 : Int))) || (decide ((data1.length : Int) > (255 : Int)))) || (decide (parity2 < (0 : Int)))) || (decide (parity2 > (wr ((255 : Int) - (data1.length : Int)))))) || (!r6)) then
    some (([] : (List (List UInt8))), (1 : Int))
  else
    if (parity2 == (0 : Int)) then
      some (([] : (List (List UInt8))), (0 : Int))
    else
      (X.matrix_Cauchy (data1.length : Int) parity2).bind fun r12 =>
      if (r12.2 != (0 : Int)) then
        some (([] : (List (List UInt8))), r12.2)
      else
        (X.erasure_reckon r12.1 data1).bind fun r17 =>
        some (r17, (0 : Int))

/-! cartridge/cartridgelaw3.num -/
def cartridgelaw3_num (e1 : Int) : Option Int :=
  some e1

/-! cartridge/erasure.rows -/
def erasure_rows_j14 (l16 : List (List UInt8)) : Option (List (List UInt8)) :=
  some l16

def erasure_rows_e8 (all2 : Int) (data1 : Int) (l13 : List (List UInt8)) : Option (List (List UInt8)) :=
  if (decide (all2 > data1)) then
    (X.matrix_Cauchy data1 (wr (all2 - data1))).bind fun r20 =>
    (need ((l13.length + r20.1.length) * 24 ≤ 140737488355328)).bind fun u21 =>
    X.erasure_rows_j14 (l13 ++ r20.1)
  else
    X.erasure_rows_j14 l13

def erasure_rows_s8 (data1 : Int) (s : ((List (List UInt8)) × Int)) : Option (((List (List UInt8)) × Int) ⊕ List (List UInt8)) :=
  match s with
  | (out10, x11) =>
    if (decide (x11 < data1)) then
      (need (0 ≤ data1 ∧ data1 * 1 ≤ 281474976710656)).bind fun u27 =>
      (getI (List.replicate data1.toNat (0 : UInt8)) x11).bind fun e30 =>
      (need ((out10.length + ([((List.replicate data1.toNat (0 : UInt8)).set x11.toNat (1 : UInt8))] : List (List UInt8)).length) * 24 ≤ 140737488355328)).bind fun u31 =>
      some (.inl ((out10 ++ ([((List.replicate data1.toNat (0 : UInt8)).set x11.toNat (1 : UInt8))] : List (List UInt8))), (wr (x11 + (1 : Int)))))
    else
      some (.inr out10)

def erasure_rows (data1 : Int) (all2 : Int) : Option (List (List UInt8)) :=
  (run (X.erasure_rows_s8 data1) (([] : List (List UInt8)), (0 : Int))).bind fun o8 => match o8 with
  | l13 => X.erasure_rows_e8 all2 data1 l13

/-! slices.Grow[[]byte,byte] -/
def slices_Grow_Lbyte_byte_nil_j5 (l9 : List UInt8) : Option (List UInt8) :=
  some l9

def slices_Grow_Lbyte_byte_nil (n1 : Int) : Option (List UInt8) :=
  if (decide (n1 < (0 : Int))) then
    none
  else
    if (decide ((wr (n1 - (wr ((0 : Int) - (0 : Int))))) > (0 : Int))) then
      (need (0 ≤ (wr (n1 - (wr ((0 : Int) - (0 : Int))))) ∧ (wr (n1 - (wr ((0 : Int) - (0 : Int))))).toNat * 1 ≤ 140737488355328)).bind fun u13 =>
      (need ((0 ≤ (0 : Int) ∧ (0 : Int) ≤ (0 : Int) ∧ (0 : Int) ≤ (List.replicate (wr (n1 - (wr ((0 : Int) - (0 : Int))))).toNat (0 : UInt8)).length) ∧ ((0 : Int) = 0 ∨ (0 : Int) < (List.replicate (wr (n1 - (wr ((0 : Int) - (0 : Int))))).toNat (0 : UInt8)).length))).bind fun u15 =>
      X.slices_Grow_Lbyte_byte_nil_j5 (slc (List.replicate (wr (n1 - (wr ((0 : Int) - (0 : Int))))).toNat (0 : UInt8)) (0 : Int) (0 : Int))
    else
      X.slices_Grow_Lbyte_byte_nil_j5 ([] : List UInt8)

/-! slices.Concat[[]byte,byte] -/
def slices_Concat_Lbyte_byte_e15 (l20 : List UInt8) : Option (List UInt8) :=
  some l20

def slices_Concat_Lbyte_byte_s15 (slices1 : (List (List UInt8))) (s : ((List UInt8) × Int)) : Option (((List UInt8) × Int) ⊕ List UInt8) :=
  match s with
  | (newslice17, x18) =>
    if (decide (x18 < (slices1.length : Int))) then
      (getI slices1 x18).bind fun e26 =>
      (need ((newslice17.length + e26.length) * 1 ≤ 140737488355328)).bind fun u27 =>
      some (.inl ((newslice17 ++ e26), (wr (x18 + (1 : Int)))))
    else
      some (.inr newslice17)

def slices_Concat_Lbyte_byte_e6 (slices1 : (List (List UInt8))) (size9 : Int) : Option (List UInt8) :=
  (X.slices_Grow_Lbyte_byte_nil size9).bind fun r11 =>
  (run (X.slices_Concat_Lbyte_byte_s15 slices1) (r11, (0 : Int))).bind fun o15 => match o15 with
  | l20 => X.slices_Concat_Lbyte_byte_e15 l20

def slices_Concat_Lbyte_byte_s6 (slices1 : (List (List UInt8))) (s : (Int × Int)) : Option ((Int × Int) ⊕ Int) :=
  match s with
  | (size7, x8) =>
    if (decide (x8 < (slices1.length : Int))) then
      (getI slices1 x8).bind fun e32 =>
      if (decide ((wr (size7 + (e32.length : Int))) < (0 : Int))) then
        none
      else
        some (.inl ((wr (size7 + (e32.length : Int))), (wr (x8 + (1 : Int)))))
    else
      some (.inr size7)

def slices_Concat_Lbyte_byte (slices1 : (List (List UInt8))) : Option (List UInt8) :=
  (run (X.slices_Concat_Lbyte_byte_s6 slices1) ((0 : Int), (0 : Int))).bind fun o6 => match o6 with
  | size9 => X.slices_Concat_Lbyte_byte_e6 slices1 size9

/-! cartridge/matrix.beside -/
def matrix_beside_e7 (l12 : List (List UInt8)) : Option (List (List UInt8)) :=
  some l12

def matrix_beside_s7 (m1 : (List (List UInt8))) (s : ((List (List UInt8)) × Int)) : Option (((List (List UInt8)) × Int) ⊕ List (List UInt8)) :=
  match s with
  | (out9, x10) =>
    if (decide (x10 < (m1.length : Int))) then
      (getI m1 x10).bind fun e18 =>
      (need (0 ≤ (m1.length : Int) ∧ (m1.length : Int) * 1 ≤ 281474976710656)).bind fun u20 =>
      (getI (List.replicate (m1.length : Int).toNat (0 : UInt8)) x10).bind fun e23 =>
      (X.slices_Concat_Lbyte_byte ([e18, ((List.replicate (m1.length : Int).toNat (0 : UInt8)).set x10.toNat (1 : UInt8))] : List (List UInt8))).bind fun r24 =>
      (need ((out9.length + ([r24] : List (List UInt8)).length) * 24 ≤ 140737488355328)).bind fun u25 =>
      some (.inl ((out9 ++ ([r24] : List (List UInt8))), (wr (x10 + (1 : Int)))))
    else
      some (.inr out9)

def matrix_beside (m1 : (List (List UInt8))) : Option (List (List UInt8)) :=
  (run (X.matrix_beside_s7 m1) (([] : List (List UInt8)), (0 : Int))).bind fun o7 => match o7 with
  | l12 => X.matrix_beside_e7 l12

/-! cartridge/matrix.Inverse$1 -/
def matrix_Inverse_c1 (r1 : (List UInt8)) (c2 : Int) : Option Bool :=
  (getI r1 c2).bind fun e5 =>
  some (e5 != (0 : UInt8))

/-! cartridge/matrix.scaled -/
def matrix_scaled_e9 (l14 : List UInt8) : Option (List UInt8) :=
  some l14

def matrix_scaled_s9 (r1 : (List UInt8)) (by2 : UInt8) (s : ((List UInt8) × Int)) : Option (((List UInt8) × Int) ⊕ List UInt8) :=
  match s with
  | (out11, x12) =>
    if (decide (x12 < (r1.length : Int))) then
      (getI r1 x12).bind fun e20 =>
      (X.gf_Mul e20 by2).bind fun r21 =>
      (getI out11 x12).bind fun e22 =>
      some (.inl ((out11.set x12.toNat r21), (wr (x12 + (1 : Int)))))
    else
      some (.inr out11)

def matrix_scaled (r1 : (List UInt8)) (by2 : UInt8) : Option (List UInt8) :=
  (need (0 ≤ (r1.length : Int) ∧ (r1.length : Int) * 1 ≤ 281474976710656)).bind fun u5 =>
  (run (X.matrix_scaled_s9 r1 by2) ((List.replicate (r1.length : Int).toNat (0 : UInt8)), (0 : Int))).bind fun o9 => match o9 with
  | l14 => X.matrix_scaled_e9 l14

/-! cartridge/matrix.sum -/
def matrix_sum_e9 (l14 : List UInt8) : Option (List UInt8) :=
  some l14

def matrix_sum_s9 (a1 : (List UInt8)) (b2 : (List UInt8)) (s : ((List UInt8) × Int)) : Option (((List UInt8) × Int) ⊕ List UInt8) :=
  match s with
  | (out11, x12) =>
    if (decide (x12 < (a1.length : Int))) then
      (getI a1 x12).bind fun e20 =>
      (getI b2 x12).bind fun e21 =>
      (X.gf_Add e20 e21).bind fun r22 =>
      (getI out11 x12).bind fun e23 =>
      some (.inl ((out11.set x12.toNat r22), (wr (x12 + (1 : Int)))))
    else
      some (.inr out11)

def matrix_sum (a1 : (List UInt8)) (b2 : (List UInt8)) : Option (List UInt8) :=
  (need (0 ≤ (a1.length : Int) ∧ (a1.length : Int) * 1 ≤ 281474976710656)).bind fun u5 =>
  (run (X.matrix_sum_s9 a1 b2) ((List.replicate (a1.length : Int).toNat (0 : UInt8)), (0 : Int))).bind fun o9 => match o9 with
  | l14 => X.matrix_sum_e9 l14

/-! slices.Clone[[]byte,byte] -/
def slices_Clone_Lbyte_byte (s1 : (List UInt8)) : Option (List UInt8) :=
  nilU s1 fun z5 =>
  if z5 then
    some ([] : (List UInt8))
  else
    (need (s1.length * 1 ≤ 140737488355328)).bind fun u8 =>
    some s1

/-! cartridge/matrix.Inverse -/
def matrix_Inverse_e23 (l29 : List (List UInt8)) : Option ((List (List UInt8)) × Int) :=
  some (l29, (0 : Int))

def matrix_Inverse_s23 (l18 : List (List UInt8)) (m1 : (List (List UInt8))) (s : ((List (List UInt8)) × Int)) : Option (((List (List UInt8)) × Int) ⊕ List (List UInt8)) :=
  match s with
  | (out25, x27) =>
    if (decide (x27 < (l18.length : Int))) then
      (getI l18 x27).bind fun e35 =>
      (need (0 ≤ (m1.length : Int) ∧ (m1.length : Int) ≤ (e35.length : Int) ∧ (e35.length : Int) ≤ e35.length)).bind fun u36 =>
      (X.slices_Clone_Lbyte_byte (slc e35 (m1.length : Int) (e35.length : Int))).bind fun r37 =>
      (need ((out25.length + ([r37] : List (List UInt8)).length) * 24 ≤ 140737488355328)).bind fun u38 =>
      some (.inl ((out25 ++ ([r37] : List (List UInt8))), (wr (x27 + (1 : Int)))))
    else
      some (.inr out25)

def matrix_Inverse_e13 (m1 : (List (List UInt8))) (l18 : List (List UInt8)) : Option ((List (List UInt8)) × Int) :=
  (run (X.matrix_Inverse_s23 l18 m1) (([] : List (List UInt8)), (0 : Int))).bind fun o23 => match o23 with
  | l29 => X.matrix_Inverse_e23 l29

def matrix_Inverse_e63 (x16 : Int) (l68 : List (List UInt8)) : Option (((List (List UInt8)) × Int) ⊕ (List (List UInt8) ⊕ ((List (List UInt8)) × Int))) :=
  some (.inl (l68, (wr (x16 + (1 : Int)))))

def matrix_Inverse_s63 (l15 : (List (List UInt8))) (x16 : Int) (e51 : (List UInt8)) (r46 : Int) (e52 : (List UInt8)) (r60 : (List UInt8)) (s : ((List (List UInt8)) × Int)) : Option (((List (List UInt8)) × Int) ⊕ List (List UInt8)) :=
  match s with
  | (l65, x66) =>
    if (decide (x66 < ((((l15.set x16.toNat e51).set (wr (x16 + r46)).toNat e52).set x16.toNat r60).length : Int))) then
      ((optG ((x66 != x16)) (getI l65 x66))).bind fun e74 =>
      ((optG ((x66 != x16)) (getI e74 x16))).bind fun e75 =>
      if ((x66 != x16) && (e75 != (0 : UInt8))) then
        (getI l65 x66).bind fun e76 =>
        (getI l65 x16).bind fun e77 =>
        (getI l65 x66).bind fun e78 =>
        (getI e78 x16).bind fun e79 =>
        (X.matrix_scaled e77 e79).bind fun r80 =>
        (X.matrix_sum e76 r80).bind fun r81 =>
        (getI l65 x66).bind fun e82 =>
        some (.inl ((l65.set x66.toNat r81), (wr (x66 + (1 : Int)))))
      else
        some (.inl (l65, (wr (x66 + (1 : Int)))))
    else
      some (.inr l65)

def matrix_Inverse_s13 (r9 : (List (List UInt8))) (s : ((List (List UInt8)) × Int)) : Option (((List (List UInt8)) × Int) ⊕ (List (List UInt8) ⊕ ((List (List UInt8)) × Int))) :=
  match s with
  | (l15, x16) =>
    if (decide (x16 < (r9.length : Int))) then
      (need ((0 ≤ x16 ∧ x16 ≤ (l15.length : Int) ∧ (l15.length : Int) ≤ l15.length) ∧ (x16 = 0 ∨ x16 < l15.length))).bind fun u45 =>
      (X.slices_IndexFunc_LLbyte_Lbyte (slc l15 x16 (l15.length : Int)) (fun a1 => X.matrix_Inverse_c1 a1 x16)).bind fun r46 =>
      if (decide (r46 < (0 : Int))) then
        some (.inr (.inr (([] : (List (List UInt8))), (12 : Int))))
      else
        (getI l15 (wr (x16 + r46))).bind fun e51 =>
        (getI l15 x16).bind fun e52 =>
        (getI l15 x16).bind fun e53 =>
        (getI (l15.set x16.toNat e51) (wr (x16 + r46))).bind fun e54 =>
        (getI ((l15.set x16.toNat e51).set (wr (x16 + r46)).toNat e52) x16).bind fun e56 =>
        (getI ((l15.set x16.toNat e51).set (wr (x16 + r46)).toNat e52) x16).bind fun e57 =>
        (getI e57 x16).bind fun e58 =>
        (X.gf_Inv e58).bind fun r59 =>
        (X.matrix_scaled e56 r59).bind fun r60 =>
        (getI ((l15.set x16.toNat e51).set (wr (x16 + r46)).toNat e52) x16).bind fun e61 =>
        (run (X.matrix_Inverse_s63 l15 x16 e51 r46 e52 r60) ((((l15.set x16.toNat e51).set (wr (x16 + r46)).toNat e52).set x16.toNat r60), (0 : Int))).bind fun o63 => match o63 with
        | l68 => X.matrix_Inverse_e63 x16 l68
    else
      some (.inr (.inl l15))

def matrix_Inverse (m1 : (List (List UInt8))) : Option ((List (List UInt8)) × Int) :=
  (X.matrix_Right m1).bind fun r5 =>
  ((optG (!((!r5))) (getI m1 (0 : Int)))).bind fun e6 =>
  if ((!r5) || ((m1.length : Int) != (e6.length : Int))) then
    some (([] : (List (List UInt8))), (1 : Int))
  else
    (X.matrix_beside m1).bind fun r9 =>
    (run (X.matrix_Inverse_s13 r9) (r9, (0 : Int))).bind fun o13 => match o13 with
    | .inl l18 => X.matrix_Inverse_e13 m1 l18
    | .inr rv13 => some rv13

/-! cartridge/erasure.Decode -/
def erasure_Decode_e25 (data2 : Int) (l13 : List (List UInt8)) (l32 : List (List UInt8)) : Option ((List (List UInt8)) × Int) :=
  (X.matrix_Inverse l32).bind fun r34 =>
  if (r34.2 != (0 : Int)) then
    some (([] : (List (List UInt8))), r34.2)
  else
    (need ((0 ≤ (0 : Int) ∧ (0 : Int) ≤ data2 ∧ data2 ≤ l13.length) ∧ ((0 : Int) = 0 ∨ (0 : Int) < l13.length))).bind fun u39 =>
    (X.erasure_reckon r34.1 (slc l13 (0 : Int) data2)).bind fun r40 =>
    some (r40, (0 : Int))

def erasure_Decode_s25 (r24 : (List (List UInt8))) (have1 : (List (List UInt8))) (data2 : Int) (s : ((List (List UInt8)) × Int)) : Option (((List (List UInt8)) × Int) ⊕ List (List UInt8)) :=
  match s with
  | (m28, x29) =>
    if (decide (x29 < (r24.length : Int))) then
      (getI r24 x29).bind fun e45 =>
      (getI have1 x29).bind fun e47 =>
      if ((decide ((e47.length : Int) > (0 : Int))) && (decide ((m28.length : Int) < data2))) then
        (need ((m28.length + ([e45] : List (List UInt8)).length) * 24 ≤ 140737488355328)).bind fun u48 =>
        some (.inl ((m28 ++ ([e45] : List (List UInt8))), (wr (x29 + (1 : Int)))))
      else
        some (.inl (m28, (wr (x29 + (1 : Int)))))
    else
      some (.inr m28)

def erasure_Decode_e8 (data2 : Int) (have1 : (List (List UInt8))) (l13 : List (List UInt8)) : Option ((List (List UInt8)) × Int) :=
  ((optG (!(((((decide (data2 < (1 : Int))) || (decide (data2 > (have1.length : Int)))) || (decide ((have1.length : Int) > (255 : Int)))) || ((l13.length : Int) == (0 : Int))))) (X.erasure_alike l13))).bind fun r16 =>
  if (((((decide (data2 < (1 : Int))) || (decide (data2 > (have1.length : Int)))) || (decide ((have1.length : Int) > (255 : Int)))) || ((l13.length : Int) == (0 : Int))) || (!r16)) then
    some (([] : (List (List UInt8))), (1 : Int))
  else
    if (decide ((l13.length : Int) < data2)) then
      some (([] : (List (List UInt8))), (10 : Int))
    else
      (X.erasure_rows data2 (have1.length : Int)).bind fun r24 =>
      (run (X.erasure_Decode_s25 r24 have1 data2) (([] : List (List UInt8)), (0 : Int))).bind fun o25 => match o25 with
      | l32 => X.erasure_Decode_e25 data2 l13 l32

def erasure_Decode_s8 (have1 : (List (List UInt8))) (s : ((List (List UInt8)) × Int)) : Option (((List (List UInt8)) × Int) ⊕ List (List UInt8)) :=
  match s with
  | (there10, x11) =>
    if (decide (x11 < (have1.length : Int))) then
      (getI have1 x11).bind fun e53 =>
      if (decide ((e53.length : Int) > (0 : Int))) then
        (need ((there10.length + ([e53] : List (List UInt8)).length) * 24 ≤ 140737488355328)).bind fun u55 =>
        some (.inl ((there10 ++ ([e53] : List (List UInt8))), (wr (x11 + (1 : Int)))))
      else
        some (.inl (there10, (wr (x11 + (1 : Int)))))
    else
      some (.inr there10)

def erasure_Decode (have1 : (List (List UInt8))) (data2 : Int) : Option ((List (List UInt8)) × Int) :=
  (run (X.erasure_Decode_s8 have1) (([] : List (List UInt8)), (0 : Int))).bind fun o8 => match o8 with
  | l13 => X.erasure_Decode_e8 data2 have1 l13

/-! cartridge/cartridgelaw3.alive -/
def cartridgelaw3_alive  : Option Bool :=
  (X.erasure_Encode ([([(97 : UInt8), (98 : UInt8)] : List UInt8)] : List (List UInt8)) (1 : Int)).bind fun r4 =>
  (X.cartridgelaw3_num r4.2).bind fun r7 =>
  if ((r7 != (0 : Int)) || ((r4.1.length : Int) != (1 : Int))) then
    some false
  else
    (getI r4.1 (0 : Int)).bind fun e10 =>
    (X.erasure_Decode ([([] : (List UInt8)), e10] : List (List UInt8)) (1 : Int)).bind fun r11 =>
    (X.cartridgelaw3_num r11.2).bind fun r13 =>
    ((optG (((r13 == (0 : Int)) && ((r11.1.length : Int) == (1 : Int)))) (getI r11.1 (0 : Int)))).bind fun e14 =>
    some (((r13 == (0 : Int)) && ((r11.1.length : Int) == (1 : Int))) && ((Str.mk e14).l == (Str.mk [97, 98]).l))

/-! cartridge/cartridgelaw2.Few -/
def cartridgelaw2_Few_e6 (n9 : Int) : Option Bool :=
  some (decide (n9 ≤ (2000 : Int)))

def cartridgelaw2_Few_s6 (m1 : (List (List UInt8))) (s : (Int × Int)) : Option ((Int × Int) ⊕ Int) :=
  match s with
  | (n7, i8) =>
    if ((decide (i8 < (m1.length : Int))) && (decide (n7 ≤ (2000 : Int)))) then
      (getI m1 i8).bind fun e14 =>
      some (.inl ((wr ((wr (n7 + (1 : Int))) + (e14.length : Int))), (wr (i8 + (1 : Int)))))
    else
      some (.inr n7)

def cartridgelaw2_Few (m1 : (List (List UInt8))) : Option Bool :=
  (run (X.cartridgelaw2_Few_s6 m1) ((0 : Int), (0 : Int))).bind fun o6 => match o6 with
  | n9 => X.cartridgelaw2_Few_e6 n9

/-! cartridge/cartridgeref1.Mul -/
def cartridgeref1_Mul_e13 (x16 : Int) : Option UInt8 :=
  some (u8 x16)

def cartridgeref1_Mul_j20 (i15 : Int) (x21 : Int) : Option ((Int × Int) ⊕ Int) :=
  some (.inl (x21, (wr (i15 - (1 : Int)))))

def cartridgeref1_Mul_s13 (s : (Int × Int)) : Option ((Int × Int) ⊕ Int) :=
  match s with
  | (x14, i15) =>
    if (decide (i15 ≥ (8 : Int))) then
      if ((and64 (shr64 x14 ((u64 i15).toNat : Int)) (1 : Int)) == (1 : Int)) then
        X.cartridgeref1_Mul_j20 i15 (xor64 x14 (shl64 (285 : Int) ((u64 (wr (i15 - (8 : Int)))).toNat : Int)))
      else
        X.cartridgeref1_Mul_j20 i15 x14
    else
      some (.inr x14)

def cartridgeref1_Mul_e7 (x10 : Int) : Option UInt8 :=
  (run (X.cartridgeref1_Mul_s13) (x10, (14 : Int))).bind fun o13 => match o13 with
  | x16 => X.cartridgeref1_Mul_e13 x16

def cartridgeref1_Mul_j25 (i9 : Int) (x26 : Int) : Option ((Int × Int) ⊕ Int) :=
  some (.inl (x26, (wr (i9 + (1 : Int)))))

def cartridgeref1_Mul_s7 (b2 : UInt8) (a1 : UInt8) (s : (Int × Int)) : Option ((Int × Int) ⊕ Int) :=
  match s with
  | (x8, i9) =>
    if (decide (i9 < (8 : Int))) then
      if (((shr8 b2 (u64 i9).toNat) &&& (1 : UInt8)) == (1 : UInt8)) then
        X.cartridgeref1_Mul_j25 i9 (xor64 x8 (shl64 (a1.toNat : Int) ((u64 i9).toNat : Int)))
      else
        X.cartridgeref1_Mul_j25 i9 x8
    else
      some (.inr x8)

def cartridgeref1_Mul (a1 : UInt8) (b2 : UInt8) : Option UInt8 :=
  (run (X.cartridgeref1_Mul_s7 b2 a1) ((0 : Int), (0 : Int))).bind fun o7 => match o7 with
  | x10 => X.cartridgeref1_Mul_e7 x10

/-! cartridge/cartridgeref1.Inv -/
def cartridgeref1_Inv_e6 (x9 : UInt8) : Option UInt8 :=
  some x9

def cartridgeref1_Inv_s6 (a1 : UInt8) (s : (UInt8 × Int)) : Option ((UInt8 × Int) ⊕ UInt8) :=
  match s with
  | (x7, i8) =>
    if (decide (i8 < (254 : Int))) then
      (X.cartridgeref1_Mul x7 a1).bind fun r14 =>
      some (.inl (r14, (wr (i8 + (1 : Int)))))
    else
      some (.inr x7)

def cartridgeref1_Inv (a1 : UInt8) : Option UInt8 :=
  (run (X.cartridgeref1_Inv_s6 a1) ((1 : UInt8), (0 : Int))).bind fun o6 => match o6 with
  | x9 => X.cartridgeref1_Inv_e6 x9

/-! cartridge/cartridgeref1.Cauchy -/
def cartridgeref1_Cauchy_e11 (l16 : List (List UInt8)) : Option ((List (List UInt8)) × Int) :=
  some (l16, (0 : Int))

def cartridgeref1_Cauchy_e25 (out13 : (List (List UInt8))) (i14 : Int) (l32 : List UInt8) : Option (((List (List UInt8)) × Int) ⊕ List (List UInt8)) :=
  (need ((out13.length + ([l32] : List (List UInt8)).length) * 24 ≤ 140737488355328)).bind fun u33 =>
  some (.inl ((out13 ++ ([l32] : List (List UInt8))), (wr (i14 + (1 : Int)))))

def cartridgeref1_Cauchy_s25 (data1 : Int) (i14 : Int) (parity2 : Int) (s : ((List UInt8) × Int)) : Option (((List UInt8) × Int) ⊕ List UInt8) :=
  match s with
  | (row28, j29) =>
    if (decide (j29 < data1)) then
      (X.cartridgeref1_Inv ((u8 i14) ^^^ (u8 (wr (parity2 + j29))))).bind fun r37 =>
      (need ((row28.length + ([r37] : List UInt8).length) * 1 ≤ 140737488355328)).bind fun u38 =>
      some (.inl ((row28 ++ ([r37] : List UInt8)), (wr (j29 + (1 : Int)))))
    else
      some (.inr row28)

def cartridgeref1_Cauchy_s11 (parity2 : Int) (data1 : Int) (s : ((List (List UInt8)) × Int)) : Option (((List (List UInt8)) × Int) ⊕ List (List UInt8)) :=
  match s with
  | (out13, i14) =>
    if (decide (i14 < parity2)) then
      (run (X.cartridgeref1_Cauchy_s25 data1 i14 parity2) (([] : List UInt8), (0 : Int))).bind fun o25 => match o25 with
      | l32 => X.cartridgeref1_Cauchy_e25 out13 i14 l32
    else
      some (.inr out13)

def cartridgeref1_Cauchy (data1 : Int) (parity2 : Int) : Option ((List (List UInt8)) × Int) :=
  if (((((decide (data1 < (1 : Int))) || (decide (parity2 < (1 : Int)))) || (decide (data1 > (255 : Int)))) || (decide (parity2 > (255 : Int)))) || (decide ((wr (data1 + parity2)) > (255 : Int)))) then
    some (([] : (List (List UInt8))), (1 : Int))
  else
    (run (X.cartridgeref1_Cauchy_s11 parity2 data1) (([] : List (List UInt8)), (0 : Int))).bind fun o11 => match o11 with
    | l16 => X.cartridgeref1_Cauchy_e11 l16

/-! cartridge/cartridgeref1.Encode -/
def cartridgeref1_Encode_e20 (l25 : List (List UInt8)) : Option ((List (List UInt8)) × Int) :=
  some (l25, (0 : Int))

def cartridgeref1_Encode_e36 (out22 : (List (List UInt8))) (i23 : Int) (l43 : List UInt8) : Option (((List (List UInt8)) × Int) ⊕ List (List UInt8)) :=
  (need ((out22.length + ([l43] : List (List UInt8)).length) * 24 ≤ 140737488355328)).bind fun u44 =>
  some (.inl ((out22 ++ ([l43] : List (List UInt8))), (wr (i23 + (1 : Int)))))

def cartridgeref1_Encode_e49 (k40 : Int) (l56 : List UInt8) : Option (((List UInt8) × Int) ⊕ List UInt8) :=
  some (.inl (l56, (wr (k40 + (1 : Int)))))

def cartridgeref1_Encode_s49 (data1 : (List (List UInt8))) (k40 : Int) (r15 : ((List (List UInt8)) × Int)) (i23 : Int) (s : ((List UInt8) × Int)) : Option (((List UInt8) × Int) ⊕ List UInt8) :=
  match s with
  | (row52, j53) =>
    if (decide (j53 < (data1.length : Int))) then
      (getI row52 k40).bind fun e60 =>
      (getI r15.1 i23).bind fun e61 =>
      (getI e61 j53).bind fun e62 =>
      (getI data1 j53).bind fun e63 =>
      (getI e63 k40).bind fun e64 =>
      (X.cartridgeref1_Mul e62 e64).bind fun r65 =>
      (getI row52 k40).bind fun e66 =>
      some (.inl ((row52.set k40.toNat (e60 ^^^ r65)), (wr (j53 + (1 : Int)))))
    else
      some (.inr row52)

def cartridgeref1_Encode_s36 (data1 : (List (List UInt8))) (r15 : ((List (List UInt8)) × Int)) (i23 : Int) (s : ((List UInt8) × Int)) : Option (((List UInt8) × Int) ⊕ List UInt8) :=
  match s with
  | (row39, k40) =>
    if (decide (k40 < (row39.length : Int))) then
      (run (X.cartridgeref1_Encode_s49 data1 k40 r15 i23) (row39, (0 : Int))).bind fun o49 => match o49 with
      | l56 => X.cartridgeref1_Encode_e49 k40 l56
    else
      some (.inr row39)

def cartridgeref1_Encode_s20 (parity2 : Int) (data1 : (List (List UInt8))) (r15 : ((List (List UInt8)) × Int)) (s : ((List (List UInt8)) × Int)) : Option (((List (List UInt8)) × Int) ⊕ List (List UInt8)) :=
  match s with
  | (out22, i23) =>
    if (decide (i23 < parity2)) then
      (getI data1 (0 : Int)).bind fun e31 =>
      (need (0 ≤ (e31.length : Int) ∧ (e31.length : Int) * 1 ≤ 281474976710656)).bind fun u32 =>
      (run (X.cartridgeref1_Encode_s36 data1 r15 i23) ((List.replicate (e31.length : Int).toNat (0 : UInt8)), (0 : Int))).bind fun o36 => match o36 with
      | l43 => X.cartridgeref1_Encode_e36 out22 i23 l43
    else
      some (.inr out22)

def cartridgeref1_Encode_e9 (parity2 : Int) (data1 : (List (List UInt8))) : Option ((List (List UInt8)) × Int) :=
  if (parity2 == (0 : Int)) then
    some (([] : (List (List UInt8))), (0 : Int))
  else
    (X.cartridgeref1_Cauchy (data1.length : Int) parity2).bind fun r15 =>
    (run (X.cartridgeref1_Encode_s20 parity2 data1 r15) (([] : List (List UInt8)), (0 : Int))).bind fun o20 => match o20 with
    | l25 => X.cartridgeref1_Encode_e20 l25

def cartridgeref1_Encode_s9 (data1 : (List (List UInt8))) (s : Int) : Option (Int ⊕ (Unit ⊕ ((List (List UInt8)) × Int))) :=
  match s with
  | i10 =>
    if (decide (i10 < (data1.length : Int))) then
      (getI data1 i10).bind fun e71 =>
      (getI data1 (0 : Int)).bind fun e72 =>
      if ((e71.length : Int) != (e72.length : Int)) then
        some (.inr (.inr (([] : (List (List UInt8))), (1 : Int))))
      else
        some (.inl (wr (i10 + (1 : Int))))
    else
      some (.inr (.inl ()))

def cartridgeref1_Encode (data1 : (List (List UInt8))) (parity2 : Int) : Option ((List (List UInt8)) × Int) :=
  if ((((decide ((data1.length : Int) < (1 : Int))) || (decide (parity2 < (0 : Int)))) || (decide (parity2 > (255 : Int)))) || (decide ((wr ((data1.length : Int) + parity2)) > (255 : Int)))) then
    some (([] : (List (List UInt8))), (1 : Int))
  else
    (run (X.cartridgeref1_Encode_s9 data1) (1 : Int)).bind fun o9 => match o9 with
    | .inl _ => X.cartridgeref1_Encode_e9 parity2 data1
    | .inr rv9 => some rv9

/-! cartridge/cartridgeref1.RightMatrix -/
def cartridgeref1_RightMatrix_e10  : Option Bool :=
  some true

def cartridgeref1_RightMatrix_s10 (m1 : (List (List UInt8))) (s : Int) : Option (Int ⊕ (Unit ⊕ Bool)) :=
  match s with
  | i11 =>
    if (decide (i11 < (m1.length : Int))) then
      (getI m1 i11).bind fun e17 =>
      (getI m1 (0 : Int)).bind fun e18 =>
      if ((e17.length : Int) != (e18.length : Int)) then
        some (.inr (.inr false))
      else
        some (.inl (wr (i11 + (1 : Int))))
    else
      some (.inr (.inl ()))

def cartridgeref1_RightMatrix (m1 : (List (List UInt8))) : Option Bool :=
  ((optG (!(((decide ((m1.length : Int) < (1 : Int))) || (decide ((m1.length : Int) > (255 : Int)))))) (getI m1 (0 : Int)))).bind fun e5 =>
  ((optG (!((((decide ((m1.length : Int) < (1 : Int))) || (decide ((m1.length : Int) > (255 : Int)))) || (decide ((e5.length : Int) < (1 : Int)))))) (getI m1 (0 : Int)))).bind fun e6 =>
  if ((((decide ((m1.length : Int) < (1 : Int))) || (decide ((m1.length : Int) > (255 : Int)))) || (decide ((e5.length : Int) < (1 : Int)))) || (decide ((e6.length : Int) > (255 : Int)))) then
    some false
  else
    (run (X.cartridgeref1_RightMatrix_s10 m1) (1 : Int)).bind fun o10 => match o10 with
    | .inl _ => X.cartridgeref1_RightMatrix_e10
    | .inr rv10 => some rv10

/-! cartridge/cartridgeref1.Inverse -/
def cartridgeref1_Inverse_e35 (l41 : List (List UInt8)) : Option ((List (List UInt8)) × Int) :=
  some (l41, (0 : Int))

def cartridgeref1_Inverse_s35 (m1 : (List (List UInt8))) (ix29 : List Nat) (pl30 : List (List UInt8)) (s : ((List (List UInt8)) × Int)) : Option (((List (List UInt8)) × Int) ⊕ List (List UInt8)) :=
  match s with
  | (out38, i39) =>
    if (decide (i39 < (m1.length : Int))) then
      (getI ix29 i39).bind fun q46 =>
      (need ((0 ≤ (m1.length : Int) ∧ (m1.length : Int) ≤ ((pl30.getD q46 []).length : Int) ∧ ((pl30.getD q46 []).length : Int) ≤ (pl30.getD q46 []).length) ∧ ((m1.length : Int) = 0 ∨ (m1.length : Int) < (pl30.getD q46 []).length))).bind fun u47 =>
      (need ((slc (pl30.getD q46 []) (m1.length : Int) ((pl30.getD q46 []).length : Int)).length * 1 ≤ 140737488355328)).bind fun u48 =>
      (need ((out38.length + ([(slc (pl30.getD q46 []) (m1.length : Int) ((pl30.getD q46 []).length : Int))] : List (List UInt8)).length) * 24 ≤ 140737488355328)).bind fun u50 =>
      some (.inl ((out38 ++ ([(slc (pl30.getD q46 []) (m1.length : Int) ((pl30.getD q46 []).length : Int))] : List (List UInt8))), (wr (i39 + (1 : Int)))))
    else
      some (.inr out38)

def cartridgeref1_Inverse_e23 (m1 : (List (List UInt8))) (ix29 : List Nat) (pl30 : List (List UInt8)) : Option ((List (List UInt8)) × Int) :=
  (run (X.cartridgeref1_Inverse_s35 m1 ix29 pl30) (([] : List (List UInt8)), (0 : Int))).bind fun o35 => match o35 with
  | l41 => X.cartridgeref1_Inverse_e35 l41

def cartridgeref1_Inverse_e85 (ix25 : (List Nat)) (p60 : Int) (q67 : Nat) (c27 : Int) (q65 : Nat) (pl91 : List (List UInt8)) : Option (((List Nat) × (List (List UInt8)) × Int) ⊕ ((List Nat × List (List UInt8)) ⊕ ((List (List UInt8)) × Int))) :=
  some (.inl (((ix25.set p60.toNat q67).set c27.toNat q65), pl91, (wr (c27 + (1 : Int)))))

def cartridgeref1_Inverse_e99 (i89 : Int) (pl105 : List (List UInt8)) : Option (((List (List UInt8)) × Int) ⊕ List (List UInt8)) :=
  some (.inl (pl105, (wr (i89 + (1 : Int)))))

def cartridgeref1_Inverse_s99 (m1 : (List (List UInt8))) (i89 : Int) (c27 : Int) (e97 : UInt8) (ix25 : (List Nat)) (p60 : Int) (q67 : Nat) (q65 : Nat) (s : ((List (List UInt8)) × Int)) : Option (((List (List UInt8)) × Int) ⊕ List (List UInt8)) :=
  match s with
  | (a101, k103) =>
    if (((decide (k103 < (wr ((2 : Int) * (m1.length : Int))))) && (i89 != c27)) && (e97 != (0 : UInt8))) then
      (getI ((ix25.set p60.toNat q67).set c27.toNat q65) i89).bind fun q110 =>
      (getI ((ix25.set p60.toNat q67).set c27.toNat q65) i89).bind fun q111 =>
      (getI (a101.getD q111 []) k103).bind fun e112 =>
      (getI (a101.getD q65 []) k103).bind fun e113 =>
      (X.cartridgeref1_Mul e97 e113).bind fun r114 =>
      (getI (a101.getD q110 []) k103).bind fun e115 =>
      some (.inl ((a101.set q110 ((a101.getD q110 []).set k103.toNat (e112 ^^^ r114))), (wr (k103 + (1 : Int)))))
    else
      some (.inr a101)

def cartridgeref1_Inverse_s85 (m1 : (List (List UInt8))) (ix25 : (List Nat)) (p60 : Int) (q67 : Nat) (c27 : Int) (q65 : Nat) (s : ((List (List UInt8)) × Int)) : Option (((List (List UInt8)) × Int) ⊕ List (List UInt8)) :=
  match s with
  | (a87, i89) =>
    if (decide (i89 < (m1.length : Int))) then
      (getI ((ix25.set p60.toNat q67).set c27.toNat q65) i89).bind fun q96 =>
      (getI (a87.getD q96 []) c27).bind fun e97 =>
      (run (X.cartridgeref1_Inverse_s99 m1 i89 c27 e97 ix25 p60 q67 q65) (a87, (0 : Int))).bind fun o99 => match o99 with
      | pl105 => X.cartridgeref1_Inverse_e99 i89 pl105
    else
      some (.inr a87)

def cartridgeref1_Inverse_e74 (ix25 : (List Nat)) (p60 : Int) (q67 : Nat) (c27 : Int) (m1 : (List (List UInt8))) (q65 : Nat) (pl80 : List (List UInt8)) : Option (((List Nat) × (List (List UInt8)) × Int) ⊕ ((List Nat × List (List UInt8)) ⊕ ((List (List UInt8)) × Int))) :=
  (getI (ix25.set p60.toNat q67) c27).bind fun q83 =>
  (run (X.cartridgeref1_Inverse_s85 m1 ix25 p60 q67 c27 q65) (pl80, (0 : Int))).bind fun o85 => match o85 with
  | pl91 => X.cartridgeref1_Inverse_e85 ix25 p60 q67 c27 q65 pl91

def cartridgeref1_Inverse_s74 (m1 : (List (List UInt8))) (q65 : Nat) (r71 : UInt8) (s : ((List (List UInt8)) × Int)) : Option (((List (List UInt8)) × Int) ⊕ List (List UInt8)) :=
  match s with
  | (a76, k78) =>
    if (decide (k78 < (wr ((2 : Int) * (m1.length : Int))))) then
      (getI (a76.getD q65 []) k78).bind fun e119 =>
      (X.cartridgeref1_Mul e119 r71).bind fun r120 =>
      (getI (a76.getD q65 []) k78).bind fun e121 =>
      some (.inl ((a76.set q65 ((a76.getD q65 []).set k78.toNat r120)), (wr (k78 + (1 : Int)))))
    else
      some (.inr a76)

def cartridgeref1_Inverse_e56 (m1 : (List (List UInt8))) (ix25 : (List Nat)) (c27 : Int) (a26 : (List (List UInt8))) (p60 : Int) : Option (((List Nat) × (List (List UInt8)) × Int) ⊕ ((List Nat × List (List UInt8)) ⊕ ((List (List UInt8)) × Int))) :=
  if (p60 == (m1.length : Int)) then
    some (.inr (.inr (([] : (List (List UInt8))), (12 : Int))))
  else
    (getI ix25 p60).bind fun q65 =>
    (getI ix25 c27).bind fun q67 =>
    (getI ix25 p60).bind fun q68 =>
    (getI (a26.getD q65 []) c27).bind fun e70 =>
    (X.cartridgeref1_Inv e70).bind fun r71 =>
    (run (X.cartridgeref1_Inverse_s74 m1 q65 r71) (a26, (0 : Int))).bind fun o74 => match o74 with
    | pl80 => X.cartridgeref1_Inverse_e74 ix25 p60 q67 c27 m1 q65 pl80

def cartridgeref1_Inverse_s56 (m1 : (List (List UInt8))) (ix25 : (List Nat)) (a26 : (List (List UInt8))) (c27 : Int) (s : Int) : Option (Int ⊕ Int) :=
  match s with
  | p58 =>
    ((optG ((decide (p58 < (m1.length : Int)))) (getI ix25 p58))).bind fun q124 =>
    ((optG ((decide (p58 < (m1.length : Int)))) (getI (a26.getD q124 []) c27))).bind fun e125 =>
    if ((decide (p58 < (m1.length : Int))) && (e125 == (0 : UInt8))) then
      some (.inl (wr (p58 + (1 : Int))))
    else
      some (.inr p58)

def cartridgeref1_Inverse_s23 (m1 : (List (List UInt8))) (s : ((List Nat) × (List (List UInt8)) × Int)) : Option (((List Nat) × (List (List UInt8)) × Int) ⊕ ((List Nat × List (List UInt8)) ⊕ ((List (List UInt8)) × Int))) :=
  match s with
  | (ix25, a26, c27) =>
    if (decide (c27 < (m1.length : Int))) then
      (run (X.cartridgeref1_Inverse_s56 m1 ix25 a26 c27) c27).bind fun o56 => match o56 with
      | p60 => X.cartridgeref1_Inverse_e56 m1 ix25 c27 a26 p60
    else
      some (.inr (.inl (ix25, a26)))

def cartridgeref1_Inverse_e13 (m1 : (List (List UInt8))) (ix19 : List Nat) (pl20 : List (List UInt8)) : Option ((List (List UInt8)) × Int) :=
  (run (X.cartridgeref1_Inverse_s23 m1) (ix19, pl20, (0 : Int))).bind fun o23 => match o23 with
  | .inl (ix29, pl30) => X.cartridgeref1_Inverse_e23 m1 ix29 pl30
  | .inr rv23 => some rv23

def cartridgeref1_Inverse_s13 (m1 : (List (List UInt8))) (s : ((List Nat) × (List (List UInt8)) × Int)) : Option (((List Nat) × (List (List UInt8)) × Int) ⊕ (List Nat × List (List UInt8))) :=
  match s with
  | (ix15, a16, i17) =>
    if (decide (i17 < (m1.length : Int))) then
      (getI m1 i17).bind fun e130 =>
      (need (e130.length * 1 ≤ 140737488355328)).bind fun u131 =>
      (need (0 ≤ (m1.length : Int) ∧ (e130.length + (m1.length : Int).toNat) * 1 ≤ 140737488355328)).bind fun u133 =>
      (getI (e130 ++ (List.replicate (m1.length : Int).toNat (0 : UInt8))) (wr ((m1.length : Int) + i17))).bind fun e135 =>
      (need ((ix15.length + 1) * 24 ≤ 140737488355328)).bind fun u136 =>
      some (.inl ((ix15 ++ [a16.length]), (a16 ++ [((e130 ++ (List.replicate (m1.length : Int).toNat (0 : UInt8))).set (wr ((m1.length : Int) + i17)).toNat (1 : UInt8))]), (wr (i17 + (1 : Int)))))
    else
      some (.inr (ix15, a16))

def cartridgeref1_Inverse (m1 : (List (List UInt8))) : Option ((List (List UInt8)) × Int) :=
  (X.cartridgeref1_RightMatrix m1).bind fun r5 =>
  ((optG (!((!r5))) (getI m1 (0 : Int)))).bind fun e6 =>
  if ((!r5) || ((m1.length : Int) != (e6.length : Int))) then
    some (([] : (List (List UInt8))), (1 : Int))
  else
    (run (X.cartridgeref1_Inverse_s13 m1) (([] : List Nat), ([] : List (List UInt8)), (0 : Int))).bind fun o13 => match o13 with
    | (ix19, pl20) => X.cartridgeref1_Inverse_e13 m1 ix19 pl20

/-! cartridge/cartridgeref1.Decode -/
def cartridgeref1_Decode_e49 (l55 : List (List UInt8)) : Option ((List (List UInt8)) × Int) :=
  some (l55, (0 : Int))

def cartridgeref1_Decode_e65 (out52 : (List (List UInt8))) (j53 : Int) (l74 : List UInt8) : Option (((List (List UInt8)) × Int) ⊕ List (List UInt8)) :=
  (need ((out52.length + ([l74] : List (List UInt8)).length) * 24 ≤ 140737488355328)).bind fun u75 =>
  some (.inl ((out52 ++ ([l74] : List (List UInt8))), (wr (j53 + (1 : Int)))))

def cartridgeref1_Decode_e80 (k70 : Int) (l89 : List UInt8) : Option (((List UInt8) × Int) ⊕ List UInt8) :=
  some (.inl (l89, (wr (k70 + (1 : Int)))))

def cartridgeref1_Decode_s80 (data2 : Int) (k70 : Int) (r41 : ((List (List UInt8)) × Int)) (j53 : Int) (l18 : List Int) (have1 : (List (List UInt8))) (s : ((List UInt8) × Int)) : Option (((List UInt8) × Int) ⊕ List UInt8) :=
  match s with
  | (row84, i85) =>
    if (decide (i85 < data2)) then
      (getI row84 k70).bind fun e93 =>
      (getI r41.1 j53).bind fun e94 =>
      (getI e94 i85).bind fun e95 =>
      (getI l18 i85).bind fun e96 =>
      (getI have1 e96).bind fun e97 =>
      (getI e97 k70).bind fun e98 =>
      (X.cartridgeref1_Mul e95 e98).bind fun r99 =>
      (getI row84 k70).bind fun e100 =>
      some (.inl ((row84.set k70.toNat (e93 ^^^ r99)), (wr (i85 + (1 : Int)))))
    else
      some (.inr row84)

def cartridgeref1_Decode_s65 (size19 : Int) (data2 : Int) (r41 : ((List (List UInt8)) × Int)) (j53 : Int) (l18 : List Int) (have1 : (List (List UInt8))) (s : ((List UInt8) × Int)) : Option (((List UInt8) × Int) ⊕ List UInt8) :=
  match s with
  | (row69, k70) =>
    if (decide (k70 < size19)) then
      (run (X.cartridgeref1_Decode_s80 data2 k70 r41 j53 l18 have1) (row69, (0 : Int))).bind fun o80 => match o80 with
      | l89 => X.cartridgeref1_Decode_e80 k70 l89
    else
      some (.inr row69)

def cartridgeref1_Decode_s49 (data2 : Int) (size19 : Int) (r41 : ((List (List UInt8)) × Int)) (l18 : List Int) (have1 : (List (List UInt8))) (s : ((List (List UInt8)) × Int)) : Option (((List (List UInt8)) × Int) ⊕ List (List UInt8)) :=
  match s with
  | (out52, j53) =>
    if (decide (j53 < data2)) then
      (need (0 ≤ size19 ∧ size19 * 1 ≤ 281474976710656)).bind fun u61 =>
      (run (X.cartridgeref1_Decode_s65 size19 data2 r41 j53 l18 have1) ((List.replicate size19.toNat (0 : UInt8)), (0 : Int))).bind fun o65 => match o65 with
      | l74 => X.cartridgeref1_Decode_e65 out52 j53 l74
    else
      some (.inr out52)

def cartridgeref1_Decode_e32 (data2 : Int) (size19 : Int) (l18 : List Int) (have1 : (List (List UInt8))) (l39 : List (List UInt8)) : Option ((List (List UInt8)) × Int) :=
  (X.cartridgeref1_Inverse l39).bind fun r41 =>
  if (r41.2 != (0 : Int)) then
    some (([] : (List (List UInt8))), r41.2)
  else
    (run (X.cartridgeref1_Decode_s49 data2 size19 r41 l18 have1) (([] : List (List UInt8)), (0 : Int))).bind fun o49 => match o49 with
    | l55 => X.cartridgeref1_Decode_e49 l55

def cartridgeref1_Decode_j103 (i36 : Int) (l106 : List (List UInt8)) : Option (((List (List UInt8)) × Int) ⊕ List (List UInt8)) :=
  some (.inl (l106, (wr (i36 + (1 : Int)))))

def cartridgeref1_Decode_s32 (data2 : Int) (l18 : List Int) (r29 : ((List (List UInt8)) × Int)) (s : ((List (List UInt8)) × Int)) : Option (((List (List UInt8)) × Int) ⊕ List (List UInt8)) :=
  match s with
  | (m35, i36) =>
    if (decide (i36 < data2)) then
      (getI l18 i36).bind fun e108 =>
      if (decide (e108 < data2)) then
        (need (0 ≤ data2 ∧ data2 * 1 ≤ 281474976710656)).bind fun u110 =>
        (getI l18 i36).bind fun e113 =>
        (getI (List.replicate data2.toNat (0 : UInt8)) e113).bind fun e114 =>
        (need ((m35.length + ([((List.replicate data2.toNat (0 : UInt8)).set e113.toNat (1 : UInt8))] : List (List UInt8)).length) * 24 ≤ 140737488355328)).bind fun u115 =>
        X.cartridgeref1_Decode_j103 i36 (m35 ++ ([((List.replicate data2.toNat (0 : UInt8)).set e113.toNat (1 : UInt8))] : List (List UInt8)))
      else
        (getI l18 i36).bind fun e116 =>
        (getI r29.1 (wr (e116 - data2))).bind fun e117 =>
        (need ((m35.length + ([e117] : List (List UInt8)).length) * 24 ≤ 140737488355328)).bind fun u118 =>
        X.cartridgeref1_Decode_j103 i36 (m35 ++ ([e117] : List (List UInt8)))
    else
      some (.inr m35)

def cartridgeref1_Decode_e12 (data2 : Int) (have1 : (List (List UInt8))) (l18 : List Int) (size19 : Int) : Option ((List (List UInt8)) × Int) :=
  if ((l18.length : Int) == (0 : Int)) then
    some (([] : (List (List UInt8))), (1 : Int))
  else
    if (decide ((l18.length : Int) < data2)) then
      some (([] : (List (List UInt8))), (10 : Int))
    else
      (X.cartridgeref1_Cauchy data2 (wr ((have1.length : Int) - data2))).bind fun r29 =>
      (run (X.cartridgeref1_Decode_s32 data2 l18 r29) (([] : List (List UInt8)), (0 : Int))).bind fun o32 => match o32 with
      | l39 => X.cartridgeref1_Decode_e32 data2 size19 l18 have1 l39

def cartridgeref1_Decode_j121 (i16 : Int) (l123 : List Int) (size124 : Int) : Option (((List Int) × Int × Int) ⊕ ((List Int × Int) ⊕ ((List (List UInt8)) × Int))) :=
  some (.inl (l123, size124, (wr (i16 + (1 : Int)))))

def cartridgeref1_Decode_s12 (have1 : (List (List UInt8))) (s : ((List Int) × Int × Int)) : Option (((List Int) × Int × Int) ⊕ ((List Int × Int) ⊕ ((List (List UInt8)) × Int))) :=
  match s with
  | (at14, size15, i16) =>
    if (decide (i16 < (have1.length : Int))) then
      (getI have1 i16).bind fun e127 =>
      if ((e127.length : Int) == (0 : Int)) then
        X.cartridgeref1_Decode_j121 i16 at14 size15
      else
        ((optG ((decide (size15 > (0 : Int)))) (getI have1 i16))).bind fun e130 =>
        if ((decide (size15 > (0 : Int))) && ((e130.length : Int) != size15)) then
          some (.inr (.inr (([] : (List (List UInt8))), (1 : Int))))
        else
          (getI have1 i16).bind fun e133 =>
          (need ((at14.length + ([i16] : List Int).length) * 8 ≤ 140737488355328)).bind fun u134 =>
          X.cartridgeref1_Decode_j121 i16 (at14 ++ ([i16] : List Int)) (e133.length : Int)
    else
      some (.inr (.inl (at14, size15)))

def cartridgeref1_Decode (have1 : (List (List UInt8))) (data2 : Int) : Option ((List (List UInt8)) × Int) :=
  if (((decide (data2 < (1 : Int))) || (decide (data2 > (have1.length : Int)))) || (decide ((have1.length : Int) > (255 : Int)))) then
    some (([] : (List (List UInt8))), (1 : Int))
  else
    (run (X.cartridgeref1_Decode_s12 have1) (([] : List Int), (0 : Int), (0 : Int))).bind fun o12 => match o12 with
    | .inl (l18, size19) => X.cartridgeref1_Decode_e12 data2 have1 l18 size19
    | .inr rv12 => some rv12

/-! cartridge/cartridgeref1.SameRows -/
def cartridgeref1_SameRows_e9  : Option Bool :=
  some true

def cartridgeref1_SameRows_s9 (a1 : (List (List UInt8))) (b2 : (List (List UInt8))) (s : Int) : Option (Int ⊕ (Unit ⊕ Bool)) :=
  match s with
  | i10 =>
    if (decide (i10 < (a1.length : Int))) then
      (getI a1 i10).bind fun e16 =>
      (getI b2 i10).bind fun e17 =>
      if (!((Str.mk e16).l == (Str.mk e17).l)) then
        some (.inr (.inr false))
      else
        some (.inl (wr (i10 + (1 : Int))))
    else
      some (.inr (.inl ()))

def cartridgeref1_SameRows (a1 : (List (List UInt8))) (b2 : (List (List UInt8))) : Option Bool :=
  if ((a1.length : Int) != (b2.length : Int)) then
    some false
  else
    (run (X.cartridgeref1_SameRows_s9 a1 b2) (0 : Int)).bind fun o9 => match o9 with
    | .inl _ => X.cartridgeref1_SameRows_e9
    | .inr rv9 => some rv9

/-! cartridge/cartridgelaw3.ErasureTells -/
def cartridgelaw3_ErasureTells (l1 : (List (List UInt8))) (parity2 : Int) (data3 : Int) : Option Bool :=
  (X.cartridgelaw3_alive).bind fun r6 =>
  ((optG (!((!r6))) (X.cartridgelaw2_Few l1))).bind fun r9 =>
  if ((((!r6) || (!r9)) || (decide ((l1.length : Int) > (30 : Int)))) || (decide (parity2 > (20 : Int)))) then
    some r6
  else
    (X.erasure_Encode l1 parity2).bind fun r12 =>
    (X.cartridgeref1_Encode l1 parity2).bind fun r14 =>
    (X.erasure_Decode l1 data3).bind fun r16 =>
    (X.cartridgeref1_Decode l1 data3).bind fun r18 =>
    (X.cartridgeref1_SameRows r12.1 r14.1).bind fun r20 =>
    ((optG r20 (X.cartridgelaw3_num r12.2))).bind fun r21 =>
    ((optG ((r20 && (r21 == r14.2))) (X.cartridgeref1_SameRows r16.1 r18.1))).bind fun r22 =>
    ((optG (((r20 && (r21 == r14.2)) && r22)) (X.cartridgelaw3_num r16.2))).bind fun r23 =>
    some (((r20 && (r21 == r14.2)) && r22) && (r23 == r18.2))

end X
end Go.AX
