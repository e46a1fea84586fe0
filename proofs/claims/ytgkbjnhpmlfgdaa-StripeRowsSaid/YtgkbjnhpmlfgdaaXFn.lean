import Derived.Test.YtgkbjnhpmlfgdaaXT
/- What the Go functions compute. -/
set_option linter.unusedVariables false
namespace Go.AX
open Go.AM
namespace X

/-! slices.Clone[[]byte,byte] -/
def slices_Clone_Lbyte_byte (s1 : (List UInt8)) : Option (List UInt8) :=
  nilU s1 fun z5 =>
  if z5 then
    some ([] : (List UInt8))
  else
    (need (s1.length * 1 ≤ 140737488355328)).bind fun u8 =>
    some s1

/-! cartridge/stripe.cell -/
def stripe_cell (t1 : Tape_api) (n2 : Int) : Option (List UInt8) :=
  if ((t1.Lost || (decide (n2 < (0 : Int)))) || (decide (n2 ≥ (t1.Blocks.length : Int)))) then
    (need (0 ≤ (79 : Int) ∧ (79 : Int) * 1 ≤ 281474976710656)).bind fun u7 =>
    some (List.replicate (79 : Int).toNat (0 : UInt8))
  else
    (getI t1.Blocks n2).bind fun e10 =>
    if ((e10.length : Int) != (79 : Int)) then
      some ([] : (List UInt8))
    else
      (getI t1.Blocks n2).bind fun e13 =>
      (X.slices_Clone_Lbyte_byte e13).bind fun r14 =>
      some r14

/-! cartridge/stripe.Row -/
def stripe_Row_e8 (l13 : List (List UInt8)) : Option (List (List UInt8)) :=
  some l13

def stripe_Row_s8 (l1 : (List Tape_api)) (n2 : Int) (s : ((List (List UInt8)) × Int)) : Option (((List (List UInt8)) × Int) ⊕ List (List UInt8)) :=
  match s with
  | (out10, x11) =>
    if (decide (x11 < (l1.length : Int))) then
      (getI l1 x11).bind fun e19 =>
      (X.stripe_cell e19 n2).bind fun r21 =>
      (need ((out10.length + ([r21] : List (List UInt8)).length) * 24 ≤ 140737488355328)).bind fun u22 =>
      some (.inl ((out10 ++ ([r21] : List (List UInt8))), (wr (x11 + (1 : Int)))))
    else
      some (.inr out10)

def stripe_Row (l1 : (List Tape_api)) (n2 : Int) : Option (List (List UInt8)) :=
  (run (X.stripe_Row_s8 l1 n2) (([] : List (List UInt8)), (0 : Int))).bind fun o8 => match o8 with
  | l13 => X.stripe_Row_e8 l13

/-! slices.IndexFunc[[][]byte,[]byte] -/
def slices_IndexFunc_LLbyte_Lbyte_e6  : Option Int :=
  some ((-1) : Int)

def slices_IndexFunc_LLbyte_Lbyte_s6 (s1 : (List (List UInt8))) (g2 : (List UInt8) → Option Bool) (s : Int) : Option (Int ⊕ (Unit ⊕ Int)) :=
  match s with
  | x7 =>
    if (decide (x7 < (s1.length : Int))) then
      (getI s1 x7).bind fun e14 =>
      (g2 e14).bind fun r15 =>
      if r15 then
        some (.inr (.inr x7))
      else
        some (.inl (wr (x7 + (1 : Int))))
    else
      some (.inr (.inl ()))

def slices_IndexFunc_LLbyte_Lbyte (s1 : (List (List UInt8))) (g2 : (List UInt8) → Option Bool) : Option Int :=
  (run (X.slices_IndexFunc_LLbyte_Lbyte_s6 s1 g2) (0 : Int)).bind fun o6 => match o6 with
  | .inl _ => X.slices_IndexFunc_LLbyte_Lbyte_e6
  | .inr rv6 => some rv6

/-! slices.ContainsFunc[[][]byte,[]byte] -/
def slices_ContainsFunc_LLbyte_Lbyte (s1 : (List (List UInt8))) (g2 : (List UInt8) → Option Bool) : Option Bool :=
  (X.slices_IndexFunc_LLbyte_Lbyte s1 g2).bind fun r5 =>
  some (decide (r5 ≥ (0 : Int)))

/-! cartridge/erasure.alike$1 -/
def erasure_alike_c1 (r1 : (List UInt8)) (c2 : (List (List UInt8))) : Option Bool :=
  (getI c2 (0 : Int)).bind fun e5 =>
  some ((r1.length : Int) != (e5.length : Int))

/-! cartridge/erasure.alike -/
def erasure_alike (l1 : (List (List UInt8))) : Option Bool :=
  (X.slices_ContainsFunc_LLbyte_Lbyte l1 (fun a1 => X.erasure_alike_c1 a1 l1)).bind fun r4 =>
  some (!r4)

/-! cartridge/gf.Add -/
def gf_Add (a1 : UInt8) (b2 : UInt8) : Option UInt8 :=
  some (a1 ^^^ b2)

/-! cartridge/gf.Mul -/
def gf_Mul_e6 (out10 : UInt8) : Option UInt8 :=
  some out10

def gf_Mul_j14 (b8 : UInt8) (a15 : UInt8) (out16 : UInt8) : Option ((UInt8 × UInt8 × UInt8) ⊕ UInt8) :=
  some (.inl (a15, (shr8 b8 1), out16))

def gf_Mul_j17 (a7 : UInt8) (b8 : UInt8) (out18 : UInt8) : Option ((UInt8 × UInt8 × UInt8) ⊕ UInt8) :=
  if ((a7 &&& (128 : UInt8)) != (0 : UInt8)) then
    X.gf_Mul_j14 b8 ((shl8 a7 1) ^^^ (29 : UInt8)) out18
  else
    X.gf_Mul_j14 b8 (shl8 a7 1) out18

def gf_Mul_s6 (s : (UInt8 × UInt8 × UInt8)) : Option ((UInt8 × UInt8 × UInt8) ⊕ UInt8) :=
  match s with
  | (a7, b8, out9) =>
    if (b8 != (0 : UInt8)) then
      if ((b8 &&& (1 : UInt8)) == (1 : UInt8)) then
        X.gf_Mul_j17 a7 b8 (out9 ^^^ a7)
      else
        X.gf_Mul_j17 a7 b8 out9
    else
      some (.inr out9)

def gf_Mul (a1 : UInt8) (b2 : UInt8) : Option UInt8 :=
  (run (X.gf_Mul_s6) (a1, b2, (0 : UInt8))).bind fun o6 => match o6 with
  | out10 => X.gf_Mul_e6 out10

/-! cartridge/gf.power -/
def gf_power_e6 (out10 : UInt8) : Option UInt8 :=
  some out10

def gf_power_j15 (a7 : UInt8) (n8 : Int) (out16 : UInt8) : Option ((UInt8 × Int × UInt8) ⊕ UInt8) :=
  (X.gf_Mul a7 a7).bind fun r17 =>
  some (.inl (r17, (shr64 n8 ((1 : UInt64).toNat : Int)), out16))

def gf_power_s6 (s : (UInt8 × Int × UInt8)) : Option ((UInt8 × Int × UInt8) ⊕ UInt8) :=
  match s with
  | (a7, n8, out9) =>
    if (decide (n8 > (0 : Int))) then
      if ((and64 n8 (1 : Int)) == (1 : Int)) then
        (X.gf_Mul out9 a7).bind fun r19 =>
        X.gf_power_j15 a7 n8 r19
      else
        X.gf_power_j15 a7 n8 out9
    else
      some (.inr out9)

def gf_power (a1 : UInt8) (n2 : Int) : Option UInt8 :=
  (run (X.gf_power_s6) (a1, n2, (1 : UInt8))).bind fun o6 => match o6 with
  | out10 => X.gf_power_e6 out10

/-! cartridge/gf.Inv -/
def gf_Inv (a1 : UInt8) : Option UInt8 :=
  (X.gf_power a1 (254 : Int)).bind fun r4 =>
  some r4

/-! cartridge/matrix.Cauchy -/
def matrix_Cauchy_e11 (l16 : List (List UInt8)) : Option ((List (List UInt8)) × Int) :=
  some (l16, (0 : Int))

def matrix_Cauchy_e26 (out13 : (List (List UInt8))) (x14 : Int) (l33 : List UInt8) : Option (((List (List UInt8)) × Int) ⊕ List (List UInt8)) :=
  (need ((out13.length + ([l33] : List (List UInt8)).length) * 24 ≤ 140737488355328)).bind fun u34 =>
  some (.inl ((out13 ++ ([l33] : List (List UInt8))), (wr (x14 + (1 : Int)))))

def matrix_Cauchy_s26 (data1 : Int) (x14 : Int) (parity2 : Int) (s : ((List UInt8) × Int)) : Option (((List UInt8) × Int) ⊕ List UInt8) :=
  match s with
  | (r29, x30) =>
    if (decide (x30 < data1)) then
      (X.gf_Add (u8 x14) (u8 (wr (parity2 + x30)))).bind fun r39 =>
      (X.gf_Inv r39).bind fun r40 =>
      (need ((r29.length + ([r40] : List UInt8).length) * 1 ≤ 140737488355328)).bind fun u41 =>
      some (.inl ((r29 ++ ([r40] : List UInt8)), (wr (x30 + (1 : Int)))))
    else
      some (.inr r29)

def matrix_Cauchy_s11 (parity2 : Int) (data1 : Int) (s : ((List (List UInt8)) × Int)) : Option (((List (List UInt8)) × Int) ⊕ List (List UInt8)) :=
  match s with
  | (out13, x14) =>
    if (decide (x14 < parity2)) then
      (run (X.matrix_Cauchy_s26 data1 x14 parity2) (([] : List UInt8), (0 : Int))).bind fun o26 => match o26 with
      | l33 => X.matrix_Cauchy_e26 out13 x14 l33
    else
      some (.inr out13)

def matrix_Cauchy (data1 : Int) (parity2 : Int) : Option ((List (List UInt8)) × Int) :=
  if ((((decide (data1 < (1 : Int))) || (decide (parity2 < (1 : Int)))) || (decide (data1 > (255 : Int)))) || (decide (parity2 > (wr ((255 : Int) - data1))))) then
    some (([] : (List (List UInt8))), (1 : Int))
  else
    (run (X.matrix_Cauchy_s11 parity2 data1) (([] : List (List UInt8)), (0 : Int))).bind fun o11 => match o11 with
    | l16 => X.matrix_Cauchy_e11 l16

/-! cartridge/matrix.Right$1 -/
def matrix_Right_c1 (r1 : (List UInt8)) (c2 : (List (List UInt8))) : Option Bool :=
  (getI c2 (0 : Int)).bind fun e5 =>
  some ((r1.length : Int) != (e5.length : Int))

/-! cartridge/matrix.Right -/
def matrix_Right (m1 : (List (List UInt8))) : Option Bool :=
  ((optG (!(((decide ((m1.length : Int) < (1 : Int))) || (decide ((m1.length : Int) > (255 : Int)))))) (getI m1 (0 : Int)))).bind fun e5 =>
  ((optG (!((((decide ((m1.length : Int) < (1 : Int))) || (decide ((m1.length : Int) > (255 : Int)))) || (decide ((e5.length : Int) < (1 : Int)))))) (getI m1 (0 : Int)))).bind fun e6 =>
  if ((((decide ((m1.length : Int) < (1 : Int))) || (decide ((m1.length : Int) > (255 : Int)))) || (decide ((e5.length : Int) < (1 : Int)))) || (decide ((e6.length : Int) > (255 : Int)))) then
    some false
  else
    (X.slices_ContainsFunc_LLbyte_Lbyte m1 (fun a1 => X.matrix_Right_c1 a1 m1)).bind fun r9 =>
    some (!r9)

/-! cartridge/matrix.apply -/
def matrix_apply_e9 (l14 : List UInt8) : Option (List UInt8) :=
  some l14

def matrix_apply_e22 (x12 : Int) (l27 : List UInt8) : Option (((List UInt8) × Int) ⊕ List UInt8) :=
  some (.inl (l27, (wr (x12 + (1 : Int)))))

def matrix_apply_s22 (e20 : (List UInt8)) (x12 : Int) (v2 : (List UInt8)) (s : ((List UInt8) × Int)) : Option (((List UInt8) × Int) ⊕ List UInt8) :=
  match s with
  | (out24, x25) =>
    if (decide (x25 < (e20.length : Int))) then
      (getI e20 x25).bind fun e32 =>
      (getI out24 x12).bind fun e33 =>
      (getI v2 x25).bind fun e34 =>
      (X.gf_Mul e32 e34).bind fun r35 =>
      (X.gf_Add e33 r35).bind fun r36 =>
      (getI out24 x12).bind fun e37 =>
      some (.inl ((out24.set x12.toNat r36), (wr (x25 + (1 : Int)))))
    else
      some (.inr out24)

def matrix_apply_s9 (m1 : (List (List UInt8))) (v2 : (List UInt8)) (s : ((List UInt8) × Int)) : Option (((List UInt8) × Int) ⊕ List UInt8) :=
  match s with
  | (out11, x12) =>
    if (decide (x12 < (m1.length : Int))) then
      (getI m1 x12).bind fun e20 =>
      (run (X.matrix_apply_s22 e20 x12 v2) (out11, (0 : Int))).bind fun o22 => match o22 with
      | l27 => X.matrix_apply_e22 x12 l27
    else
      some (.inr out11)

def matrix_apply (m1 : (List (List UInt8))) (v2 : (List UInt8)) : Option (List UInt8) :=
  (need (0 ≤ (m1.length : Int) ∧ (m1.length : Int) * 1 ≤ 281474976710656)).bind fun u5 =>
  (run (X.matrix_apply_s9 m1 v2) ((List.replicate (m1.length : Int).toNat (0 : UInt8)), (0 : Int))).bind fun o9 => match o9 with
  | l14 => X.matrix_apply_e9 l14

/-! cartridge/matrix.Apply -/
def matrix_Apply (m1 : (List (List UInt8))) (v2 : (List UInt8)) : Option ((List UInt8) × Int) :=
  (X.matrix_Right m1).bind fun r6 =>
  ((optG (!((!r6))) (getI m1 (0 : Int)))).bind fun e7 =>
  if ((!r6) || ((v2.length : Int) != (e7.length : Int))) then
    some (([] : (List UInt8)), (1 : Int))
  else
    (X.matrix_apply m1 v2).bind fun r10 =>
    some (r10, (0 : Int))

/-! cartridge/erasure.reckon -/
def erasure_reckon_e10 (l15 : List (List UInt8)) : Option (List (List UInt8)) :=
  some l15

def erasure_reckon_e36 (x13 : Int) (l41 : List (List UInt8)) : Option (((List (List UInt8)) × Int) ⊕ List (List UInt8)) :=
  some (.inl (l41, (wr (x13 + (1 : Int)))))

def erasure_reckon_s36 (r34 : ((List UInt8) × Int)) (s : ((List (List UInt8)) × Int)) : Option (((List (List UInt8)) × Int) ⊕ List (List UInt8)) :=
  match s with
  | (out38, x39) =>
    if (decide (x39 < (r34.1.length : Int))) then
      (getI r34.1 x39).bind fun e46 =>
      (getI out38 x39).bind fun e47 =>
      (need ((e47.length + ([e46] : List UInt8).length) * 1 ≤ 140737488355328)).bind fun u49 =>
      (getI out38 x39).bind fun e50 =>
      some (.inl ((out38.set x39.toNat (e47 ++ ([e46] : List UInt8))), (wr (x39 + (1 : Int)))))
    else
      some (.inr out38)

def erasure_reckon_e25 (m1 : (List (List UInt8))) (out12 : (List (List UInt8))) (x13 : Int) (l32 : List UInt8) : Option (((List (List UInt8)) × Int) ⊕ List (List UInt8)) :=
  (X.matrix_Apply m1 l32).bind fun r34 =>
  (run (X.erasure_reckon_s36 r34) (out12, (0 : Int))).bind fun o36 => match o36 with
  | l41 => X.erasure_reckon_e36 x13 l41

def erasure_reckon_s25 (l2 : (List (List UInt8))) (x13 : Int) (s : ((List UInt8) × Int)) : Option (((List UInt8) × Int) ⊕ List UInt8) :=
  match s with
  | (v28, x29) =>
    if (decide (x29 < (l2.length : Int))) then
      (getI l2 x29).bind fun e55 =>
      (getI e55 x13).bind fun e56 =>
      (need ((v28.length + ([e56] : List UInt8).length) * 1 ≤ 140737488355328)).bind fun u57 =>
      some (.inl ((v28 ++ ([e56] : List UInt8)), (wr (x29 + (1 : Int)))))
    else
      some (.inr v28)

def erasure_reckon_s10 (e9 : (List UInt8)) (l2 : (List (List UInt8))) (m1 : (List (List UInt8))) (s : ((List (List UInt8)) × Int)) : Option (((List (List UInt8)) × Int) ⊕ List (List UInt8)) :=
  match s with
  | (out12, x13) =>
    if (decide (x13 < (e9.length : Int))) then
      (run (X.erasure_reckon_s25 l2 x13) (([] : List UInt8), (0 : Int))).bind fun o25 => match o25 with
      | l32 => X.erasure_reckon_e25 m1 out12 x13 l32
    else
      some (.inr out12)

def erasure_reckon (m1 : (List (List UInt8))) (l2 : (List (List UInt8))) : Option (List (List UInt8)) :=
  (need (0 ≤ (m1.length : Int) ∧ (m1.length : Int) * 24 ≤ 281474976710656)).bind fun u5 =>
  (getI l2 (0 : Int)).bind fun e9 =>
  (run (X.erasure_reckon_s10 e9 l2 m1) ((List.replicate (m1.length : Int).toNat ([] : (List UInt8))), (0 : Int))).bind fun o10 => match o10 with
  | l15 => X.erasure_reckon_e10 l15

/-! cartridge/erasure.Encode -/
def erasure_Encode (data1 : (List (List UInt8))) (parity2 : Int) : Option ((List (List UInt8)) × Int) :=
  ((optG (!(((((decide ((data1.length : Int) < (1 : Int))) || (decide ((data1.length : Int) > (255 : Int)))) || (decide (parity2 < (0 : Int)))) || (decide (parity2 > (wr ((255 : Int) - (data1.length : Int)))))))) (X.erasure_alike data1))).bind fun r6 =>
  if (((((decide ((data1.length : Int) < (1 : Int))) || (decide ((data1.length : Int) > (255 : Int)))) || (decide (parity2 < (0 : Int)))) || (decide (parity2 > (wr ((255 : Int) - (data1.length : Int)))))) || (!r6)) then
    some (([] : (List (List UInt8))), (1 : Int))
  else
    if (parity2 == (0 : Int)) then
      some (([] : (List (List UInt8))), (0 : Int))
    else
      (X.matrix_Cauchy (data1.length : Int) parity2).bind fun r12 =>
      if (r12.2 != (0 : Int)) then
        some (([] : (List (List UInt8))), r12.2)
      else
        (X.erasure_reckon r12.1 data1).bind fun r17 =>
        some (r17, (0 : Int))

/-! cartridge/stripe.Len -/
def stripe_Len_e6 (n9 : Int) : Option Int :=
  some n9

def stripe_Len_s6 (l1 : (List Tape_api)) (s : (Int × Int)) : Option ((Int × Int) ⊕ Int) :=
  match s with
  | (n7, x8) =>
    if (decide (x8 < (l1.length : Int))) then
      (getI l1 x8).bind fun e15 =>
      if (!e15.Lost) then
        some (.inl ((max n7 (e15.Blocks.length : Int)), (wr (x8 + (1 : Int)))))
      else
        some (.inl (n7, (wr (x8 + (1 : Int)))))
    else
      some (.inr n7)

def stripe_Len (l1 : (List Tape_api)) : Option Int :=
  (run (X.stripe_Len_s6 l1) ((0 : Int), (0 : Int))).bind fun o6 => match o6 with
  | n9 => X.stripe_Len_e6 n9

/-! cartridge/stripe.Parity$1 -/
def stripe_Parity_c1 (b1 : (List UInt8)) : Option Bool :=
  some ((b1.length : Int) == (0 : Int))

/-! cartridge/stripe.Parity -/
def stripe_Parity_e16 (l21 : List (List (List UInt8))) : Option ((List (List (List UInt8))) × Int) :=
  some (l21, (0 : Int))

def stripe_Parity_e39 (x19 : Int) (l44 : List (List (List UInt8))) : Option (((List (List (List UInt8))) × Int) ⊕ (List (List (List UInt8)) ⊕ ((List (List (List UInt8))) × Int))) :=
  some (.inl (l44, (wr (x19 + (1 : Int)))))

def stripe_Parity_s39 (r34 : ((List (List UInt8)) × Int)) (s : ((List (List (List UInt8))) × Int)) : Option (((List (List (List UInt8))) × Int) ⊕ List (List (List UInt8))) :=
  match s with
  | (out41, x42) =>
    if (decide (x42 < (r34.1.length : Int))) then
      (getI r34.1 x42).bind fun e49 =>
      (getI out41 x42).bind fun e50 =>
      (need ((e50.length + ([e49] : List (List UInt8)).length) * 24 ≤ 140737488355328)).bind fun u52 =>
      (getI out41 x42).bind fun e53 =>
      some (.inl ((out41.set x42.toNat (e50 ++ ([e49] : List (List UInt8)))), (wr (x42 + (1 : Int)))))
    else
      some (.inr out41)

def stripe_Parity_s16 (r15 : Int) (l1 : (List Tape_api)) (parity2 : Int) (s : ((List (List (List UInt8))) × Int)) : Option (((List (List (List UInt8))) × Int) ⊕ (List (List (List UInt8)) ⊕ ((List (List (List UInt8))) × Int))) :=
  match s with
  | (out18, x19) =>
    if (decide (x19 < r15)) then
      (X.stripe_Row l1 x19).bind fun r28 =>
      (X.slices_ContainsFunc_LLbyte_Lbyte r28 (fun a1 => X.stripe_Parity_c1 a1)).bind fun r31 =>
      if r31 then
        some (.inr (.inr (([] : (List (List (List UInt8)))), (1 : Int))))
      else
        (X.erasure_Encode r28 parity2).bind fun r34 =>
        if (r34.2 != (0 : Int)) then
          some (.inr (.inr (([] : (List (List (List UInt8)))), r34.2)))
        else
          (run (X.stripe_Parity_s39 r34) (out18, (0 : Int))).bind fun o39 => match o39 with
          | l44 => X.stripe_Parity_e39 x19 l44
    else
      some (.inr (.inl out18))

def stripe_Parity (l1 : (List Tape_api)) (parity2 : Int) : Option ((List (List (List UInt8))) × Int) :=
  (X.stripe_Row l1 ((-1) : Int)).bind fun r6 =>
  (X.erasure_Encode r6 parity2).bind fun r7 =>
  if (r7.2 != (0 : Int)) then
    some (([] : (List (List (List UInt8)))), r7.2)
  else
    (need (0 ≤ parity2 ∧ parity2 * 24 ≤ 281474976710656)).bind fun u11 =>
    (X.stripe_Len l1).bind fun r15 =>
    (run (X.stripe_Parity_s16 r15 l1 parity2) ((List.replicate parity2.toNat ([] : (List (List UInt8)))), (0 : Int))).bind fun o16 => match o16 with
    | .inl l21 => X.stripe_Parity_e16 l21
    | .inr rv16 => some rv16

/-! cartridge/cartridgelaw13.num -/
def cartridgelaw13_num (e1 : Int) : Option Int :=
  some e1

/-! cartridge/cartridgelaw13.alive -/
def cartridgelaw13_alive  : Option Bool :=
  (need (0 ≤ (79 : Int) ∧ (79 : Int) * 1 ≤ 281474976710656)).bind fun u3 =>
  (X.stripe_Parity ([(Tape_api.mk (1 : Int) (1 : Int) ([(List.replicate (79 : Int).toNat (0 : UInt8))] : List (List UInt8)) false)] : List Tape_api) (1 : Int)).bind fun r5 =>
  (X.stripe_Len ([] : List Tape_api)).bind fun r7 =>
  ((optG ((r7 == (0 : Int))) (X.stripe_Len ([(Tape_api.mk (1 : Int) (1 : Int) ([(List.replicate (79 : Int).toNat (0 : UInt8))] : List (List UInt8)) false)] : List Tape_api)))).bind fun r8 =>
  ((optG (((r7 == (0 : Int)) && (r8 == (1 : Int)))) (X.stripe_Row ([(Tape_api.mk (1 : Int) (1 : Int) ([(List.replicate (79 : Int).toNat (0 : UInt8))] : List (List UInt8)) false)] : List Tape_api) (0 : Int)))).bind fun r9 =>
  ((optG ((((r7 == (0 : Int)) && (r8 == (1 : Int))) && ((r9.length : Int) == (1 : Int)))) (X.cartridgelaw13_num r5.2))).bind fun r10 =>
  some (((((r7 == (0 : Int)) && (r8 == (1 : Int))) && ((r9.length : Int) == (1 : Int))) && (r10 == (0 : Int))) && ((r5.1.length : Int) == (1 : Int)))

/-! cartridge/cartridgeref1.Mul -/
def cartridgeref1_Mul_e13 (x16 : Int) : Option UInt8 :=
  some (u8 x16)

def cartridgeref1_Mul_j20 (i15 : Int) (x21 : Int) : Option ((Int × Int) ⊕ Int) :=
  some (.inl (x21, (wr (i15 - (1 : Int)))))

def cartridgeref1_Mul_s13 (s : (Int × Int)) : Option ((Int × Int) ⊕ Int) :=
  match s with
  | (x14, i15) =>
    if (decide (i15 ≥ (8 : Int))) then
      if ((and64 (shr64 x14 ((u64 i15).toNat : Int)) (1 : Int)) == (1 : Int)) then
        X.cartridgeref1_Mul_j20 i15 (xor64 x14 (shl64 (285 : Int) ((u64 (wr (i15 - (8 : Int)))).toNat : Int)))
      else
        X.cartridgeref1_Mul_j20 i15 x14
    else
      some (.inr x14)

def cartridgeref1_Mul_e7 (x10 : Int) : Option UInt8 :=
  (run (X.cartridgeref1_Mul_s13) (x10, (14 : Int))).bind fun o13 => match o13 with
  | x16 => X.cartridgeref1_Mul_e13 x16

def cartridgeref1_Mul_j25 (i9 : Int) (x26 : Int) : Option ((Int × Int) ⊕ Int) :=
  some (.inl (x26, (wr (i9 + (1 : Int)))))

def cartridgeref1_Mul_s7 (b2 : UInt8) (a1 : UInt8) (s : (Int × Int)) : Option ((Int × Int) ⊕ Int) :=
  match s with
  | (x8, i9) =>
    if (decide (i9 < (8 : Int))) then
      if (((shr8 b2 (u64 i9).toNat) &&& (1 : UInt8)) == (1 : UInt8)) then
        X.cartridgeref1_Mul_j25 i9 (xor64 x8 (shl64 (a1.toNat : Int) ((u64 i9).toNat : Int)))
      else
        X.cartridgeref1_Mul_j25 i9 x8
    else
      some (.inr x8)

def cartridgeref1_Mul (a1 : UInt8) (b2 : UInt8) : Option UInt8 :=
  (run (X.cartridgeref1_Mul_s7 b2 a1) ((0 : Int), (0 : Int))).bind fun o7 => match o7 with
  | x10 => X.cartridgeref1_Mul_e7 x10

/-! cartridge/cartridgeref1.Inv -/
def cartridgeref1_Inv_e6 (x9 : UInt8) : Option UInt8 :=
  some x9

def cartridgeref1_Inv_s6 (a1 : UInt8) (s : (UInt8 × Int)) : Option ((UInt8 × Int) ⊕ UInt8) :=
  match s with
  | (x7, i8) =>
    if (decide (i8 < (254 : Int))) then
      (X.cartridgeref1_Mul x7 a1).bind fun r14 =>
      some (.inl (r14, (wr (i8 + (1 : Int)))))
    else
      some (.inr x7)

def cartridgeref1_Inv (a1 : UInt8) : Option UInt8 :=
  (run (X.cartridgeref1_Inv_s6 a1) ((1 : UInt8), (0 : Int))).bind fun o6 => match o6 with
  | x9 => X.cartridgeref1_Inv_e6 x9

/-! cartridge/cartridgeref1.Cauchy -/
def cartridgeref1_Cauchy_e11 (l16 : List (List UInt8)) : Option ((List (List UInt8)) × Int) :=
  some (l16, (0 : Int))

def cartridgeref1_Cauchy_e25 (out13 : (List (List UInt8))) (i14 : Int) (l32 : List UInt8) : Option (((List (List UInt8)) × Int) ⊕ List (List UInt8)) :=
  (need ((out13.length + ([l32] : List (List UInt8)).length) * 24 ≤ 140737488355328)).bind fun u33 =>
  some (.inl ((out13 ++ ([l32] : List (List UInt8))), (wr (i14 + (1 : Int)))))

def cartridgeref1_Cauchy_s25 (data1 : Int) (i14 : Int) (parity2 : Int) (s : ((List UInt8) × Int)) : Option (((List UInt8) × Int) ⊕ List UInt8) :=
  match s with
  | (row28, j29) =>
    if (decide (j29 < data1)) then
      (X.cartridgeref1_Inv ((u8 i14) ^^^ (u8 (wr (parity2 + j29))))).bind fun r37 =>
      (need ((row28.length + ([r37] : List UInt8).length) * 1 ≤ 140737488355328)).bind fun u38 =>
      some (.inl ((row28 ++ ([r37] : List UInt8)), (wr (j29 + (1 : Int)))))
    else
      some (.inr row28)

def cartridgeref1_Cauchy_s11 (parity2 : Int) (data1 : Int) (s : ((List (List UInt8)) × Int)) : Option (((List (List UInt8)) × Int) ⊕ List (List UInt8)) :=
  match s with
  | (out13, i14) =>
    if (decide (i14 < parity2)) then
      (run (X.cartridgeref1_Cauchy_s25 data1 i14 parity2) (([] : List UInt8), (0 : Int))).bind fun o25 => match o25 with
      | l32 => X.cartridgeref1_Cauchy_e25 out13 i14 l32
    else
      some (.inr out13)

def cartridgeref1_Cauchy (data1 : Int) (parity2 : Int) : Option ((List (List UInt8)) × Int) :=
  if (((((decide (data1 < (1 : Int))) || (decide (parity2 < (1 : Int)))) || (decide (data1 > (255 : Int)))) || (decide (parity2 > (255 : Int)))) || (decide ((wr (data1 + parity2)) > (255 : Int)))) then
    some (([] : (List (List UInt8))), (1 : Int))
  else
    (run (X.cartridgeref1_Cauchy_s11 parity2 data1) (([] : List (List UInt8)), (0 : Int))).bind fun o11 => match o11 with
    | l16 => X.cartridgeref1_Cauchy_e11 l16

/-! cartridge/cartridgeref1.RightMatrix -/
def cartridgeref1_RightMatrix_e10  : Option Bool :=
  some true

def cartridgeref1_RightMatrix_s10 (m1 : (List (List UInt8))) (s : Int) : Option (Int ⊕ (Unit ⊕ Bool)) :=
  match s with
  | i11 =>
    if (decide (i11 < (m1.length : Int))) then
      (getI m1 i11).bind fun e17 =>
      (getI m1 (0 : Int)).bind fun e18 =>
      if ((e17.length : Int) != (e18.length : Int)) then
        some (.inr (.inr false))
      else
        some (.inl (wr (i11 + (1 : Int))))
    else
      some (.inr (.inl ()))

def cartridgeref1_RightMatrix (m1 : (List (List UInt8))) : Option Bool :=
  ((optG (!(((decide ((m1.length : Int) < (1 : Int))) || (decide ((m1.length : Int) > (255 : Int)))))) (getI m1 (0 : Int)))).bind fun e5 =>
  ((optG (!((((decide ((m1.length : Int) < (1 : Int))) || (decide ((m1.length : Int) > (255 : Int)))) || (decide ((e5.length : Int) < (1 : Int)))))) (getI m1 (0 : Int)))).bind fun e6 =>
  if ((((decide ((m1.length : Int) < (1 : Int))) || (decide ((m1.length : Int) > (255 : Int)))) || (decide ((e5.length : Int) < (1 : Int)))) || (decide ((e6.length : Int) > (255 : Int)))) then
    some false
  else
    (run (X.cartridgeref1_RightMatrix_s10 m1) (1 : Int)).bind fun o10 => match o10 with
    | .inl _ => X.cartridgeref1_RightMatrix_e10
    | .inr rv10 => some rv10

/-! cartridge/cartridgeref1.Inverse -/
def cartridgeref1_Inverse_e35 (l41 : List (List UInt8)) : Option ((List (List UInt8)) × Int) :=
  some (l41, (0 : Int))

def cartridgeref1_Inverse_s35 (m1 : (List (List UInt8))) (ix29 : List Nat) (pl30 : List (List UInt8)) (s : ((List (List UInt8)) × Int)) : Option (((List (List UInt8)) × Int) ⊕ List (List UInt8)) :=
  match s with
  | (out38, i39) =>
    if (decide (i39 < (m1.length : Int))) then
      (getI ix29 i39).bind fun q46 =>
      (need ((0 ≤ (m1.length : Int) ∧ (m1.length : Int) ≤ ((pl30.getD q46 []).length : Int) ∧ ((pl30.getD q46 []).length : Int) ≤ (pl30.getD q46 []).length) ∧ ((m1.length : Int) = 0 ∨ (m1.length : Int) < (pl30.getD q46 []).length))).bind fun u47 =>
      (need ((slc (pl30.getD q46 []) (m1.length : Int) ((pl30.getD q46 []).length : Int)).length * 1 ≤ 140737488355328)).bind fun u48 =>
      (need ((out38.length + ([(slc (pl30.getD q46 []) (m1.length : Int) ((pl30.getD q46 []).length : Int))] : List (List UInt8)).length) * 24 ≤ 140737488355328)).bind fun u50 =>
      some (.inl ((out38 ++ ([(slc (pl30.getD q46 []) (m1.length : Int) ((pl30.getD q46 []).length : Int))] : List (List UInt8))), (wr (i39 + (1 : Int)))))
    else
      some (.inr out38)

def cartridgeref1_Inverse_e23 (m1 : (List (List UInt8))) (ix29 : List Nat) (pl30 : List (List UInt8)) : Option ((List (List UInt8)) × Int) :=
  (run (X.cartridgeref1_Inverse_s35 m1 ix29 pl30) (([] : List (List UInt8)), (0 : Int))).bind fun o35 => match o35 with
  | l41 => X.cartridgeref1_Inverse_e35 l41

def cartridgeref1_Inverse_e85 (ix25 : (List Nat)) (p60 : Int) (q67 : Nat) (c27 : Int) (q65 : Nat) (pl91 : List (List UInt8)) : Option (((List Nat) × (List (List UInt8)) × Int) ⊕ ((List Nat × List (List UInt8)) ⊕ ((List (List UInt8)) × Int))) :=
  some (.inl (((ix25.set p60.toNat q67).set c27.toNat q65), pl91, (wr (c27 + (1 : Int)))))

def cartridgeref1_Inverse_e99 (i89 : Int) (pl105 : List (List UInt8)) : Option (((List (List UInt8)) × Int) ⊕ List (List UInt8)) :=
  some (.inl (pl105, (wr (i89 + (1 : Int)))))

def cartridgeref1_Inverse_s99 (m1 : (List (List UInt8))) (i89 : Int) (c27 : Int) (e97 : UInt8) (ix25 : (List Nat)) (p60 : Int) (q67 : Nat) (q65 : Nat) (s : ((List (List UInt8)) × Int)) : Option (((List (List UInt8)) × Int) ⊕ List (List UInt8)) :=
  match s with
  | (a101, k103) =>
    if (((decide (k103 < (wr ((2 : Int) * (m1.length : Int))))) && (i89 != c27)) && (e97 != (0 : UInt8))) then
      (getI ((ix25.set p60.toNat q67).set c27.toNat q65) i89).bind fun q110 =>
      (getI ((ix25.set p60.toNat q67).set c27.toNat q65) i89).bind fun q111 =>
      (getI (a101.getD q111 []) k103).bind fun e112 =>
      (getI (a101.getD q65 []) k103).bind fun e113 =>
      (X.cartridgeref1_Mul e97 e113).bind fun r114 =>
      (getI (a101.getD q110 []) k103).bind fun e115 =>
      some (.inl ((a101.set q110 ((a101.getD q110 []).set k103.toNat (e112 ^^^ r114))), (wr (k103 + (1 : Int)))))
    else
      some (.inr a101)

def cartridgeref1_Inverse_s85 (m1 : (List (List UInt8))) (ix25 : (List Nat)) (p60 : Int) (q67 : Nat) (c27 : Int) (q65 : Nat) (s : ((List (List UInt8)) × Int)) : Option (((List (List UInt8)) × Int) ⊕ List (List UInt8)) :=
  match s with
  | (a87, i89) =>
    if (decide (i89 < (m1.length : Int))) then
      (getI ((ix25.set p60.toNat q67).set c27.toNat q65) i89).bind fun q96 =>
      (getI (a87.getD q96 []) c27).bind fun e97 =>
      (run (X.cartridgeref1_Inverse_s99 m1 i89 c27 e97 ix25 p60 q67 q65) (a87, (0 : Int))).bind fun o99 => match o99 with
      | pl105 => X.cartridgeref1_Inverse_e99 i89 pl105
    else
      some (.inr a87)

def cartridgeref1_Inverse_e74 (ix25 : (List Nat)) (p60 : Int) (q67 : Nat) (c27 : Int) (m1 : (List (List UInt8))) (q65 : Nat) (pl80 : List (List UInt8)) : Option (((List Nat) × (List (List UInt8)) × Int) ⊕ ((List Nat × List (List UInt8)) ⊕ ((List (List UInt8)) × Int))) :=
  (getI (ix25.set p60.toNat q67) c27).bind fun q83 =>
  (run (X.cartridgeref1_Inverse_s85 m1 ix25 p60 q67 c27 q65) (pl80, (0 : Int))).bind fun o85 => match o85 with
  | pl91 => X.cartridgeref1_Inverse_e85 ix25 p60 q67 c27 q65 pl91

def cartridgeref1_Inverse_s74 (m1 : (List (List UInt8))) (q65 : Nat) (r71 : UInt8) (s : ((List (List UInt8)) × Int)) : Option (((List (List UInt8)) × Int) ⊕ List (List UInt8)) :=
  match s with
  | (a76, k78) =>
    if (decide (k78 < (wr ((2 : Int) * (m1.length : Int))))) then
      (getI (a76.getD q65 []) k78).bind fun e119 =>
      (X.cartridgeref1_Mul e119 r71).bind fun r120 =>
      (getI (a76.getD q65 []) k78).bind fun e121 =>
      some (.inl ((a76.set q65 ((a76.getD q65 []).set k78.toNat r120)), (wr (k78 + (1 : Int)))))
    else
      some (.inr a76)

def cartridgeref1_Inverse_e56 (m1 : (List (List UInt8))) (ix25 : (List Nat)) (c27 : Int) (a26 : (List (List UInt8))) (p60 : Int) : Option (((List Nat) × (List (List UInt8)) × Int) ⊕ ((List Nat × List (List UInt8)) ⊕ ((List (List UInt8)) × Int))) :=
  if (p60 == (m1.length : Int)) then
    some (.inr (.inr (([] : (List (List UInt8))), (12 : Int))))
  else
    (getI ix25 p60).bind fun q65 =>
    (getI ix25 c27).bind fun q67 =>
    (getI ix25 p60).bind fun q68 =>
    (getI (a26.getD q65 []) c27).bind fun e70 =>
    (X.cartridgeref1_Inv e70).bind fun r71 =>
    (run (X.cartridgeref1_Inverse_s74 m1 q65 r71) (a26, (0 : Int))).bind fun o74 => match o74 with
    | pl80 => X.cartridgeref1_Inverse_e74 ix25 p60 q67 c27 m1 q65 pl80

def cartridgeref1_Inverse_s56 (m1 : (List (List UInt8))) (ix25 : (List Nat)) (a26 : (List (List UInt8))) (c27 : Int) (s : Int) : Option (Int ⊕ Int) :=
  match s with
  | p58 =>
    ((optG ((decide (p58 < (m1.length : Int)))) (getI ix25 p58))).bind fun q124 =>
    ((optG ((decide (p58 < (m1.length : Int)))) (getI (a26.getD q124 []) c27))).bind fun e125 =>
    if ((decide (p58 < (m1.length : Int))) && (e125 == (0 : UInt8))) then
      some (.inl (wr (p58 + (1 : Int))))
    else
      some (.inr p58)

def cartridgeref1_Inverse_s23 (m1 : (List (List UInt8))) (s : ((List Nat) × (List (List UInt8)) × Int)) : Option (((List Nat) × (List (List UInt8)) × Int) ⊕ ((List Nat × List (List UInt8)) ⊕ ((List (List UInt8)) × Int))) :=
  match s with
  | (ix25, a26, c27) =>
    if (decide (c27 < (m1.length : Int))) then
      (run (X.cartridgeref1_Inverse_s56 m1 ix25 a26 c27) c27).bind fun o56 => match o56 with
      | p60 => X.cartridgeref1_Inverse_e56 m1 ix25 c27 a26 p60
    else
      some (.inr (.inl (ix25, a26)))

def cartridgeref1_Inverse_e13 (m1 : (List (List UInt8))) (ix19 : List Nat) (pl20 : List (List UInt8)) : Option ((List (List UInt8)) × Int) :=
  (run (X.cartridgeref1_Inverse_s23 m1) (ix19, pl20, (0 : Int))).bind fun o23 => match o23 with
  | .inl (ix29, pl30) => X.cartridgeref1_Inverse_e23 m1 ix29 pl30
  | .inr rv23 => some rv23

def cartridgeref1_Inverse_s13 (m1 : (List (List UInt8))) (s : ((List Nat) × (List (List UInt8)) × Int)) : Option (((List Nat) × (List (List UInt8)) × Int) ⊕ (List Nat × List (List UInt8))) :=
  match s with
  | (ix15, a16, i17) =>
    if (decide (i17 < (m1.length : Int))) then
      (getI m1 i17).bind fun e130 =>
      (need (e130.length * 1 ≤ 140737488355328)).bind fun u131 =>
      (need (0 ≤ (m1.length : Int) ∧ (e130.length + (m1.length : Int).toNat) * 1 ≤ 140737488355328)).bind fun u133 =>
      (getI (e130 ++ (List.replicate (m1.length : Int).toNat (0 : UInt8))) (wr ((m1.length : Int) + i17))).bind fun e135 =>
      (need ((ix15.length + 1) * 24 ≤ 140737488355328)).bind fun u136 =>
      some (.inl ((ix15 ++ [a16.length]), (a16 ++ [((e130 ++ (List.replicate (m1.length : Int).toNat (0 : UInt8))).set (wr ((m1.length : Int) + i17)).toNat (1 : UInt8))]), (wr (i17 + (1 : Int)))))
    else
      some (.inr (ix15, a16))

def cartridgeref1_Inverse (m1 : (List (List UInt8))) : Option ((List (List UInt8)) × Int) :=
  (X.cartridgeref1_RightMatrix m1).bind fun r5 =>
  ((optG (!((!r5))) (getI m1 (0 : Int)))).bind fun e6 =>
  if ((!r5) || ((m1.length : Int) != (e6.length : Int))) then
    some (([] : (List (List UInt8))), (1 : Int))
  else
    (run (X.cartridgeref1_Inverse_s13 m1) (([] : List Nat), ([] : List (List UInt8)), (0 : Int))).bind fun o13 => match o13 with
    | (ix19, pl20) => X.cartridgeref1_Inverse_e13 m1 ix19 pl20

/-! cartridge/cartridgeref1.Decode -/
def cartridgeref1_Decode_e49 (l55 : List (List UInt8)) : Option ((List (List UInt8)) × Int) :=
  some (l55, (0 : Int))

def cartridgeref1_Decode_e65 (out52 : (List (List UInt8))) (j53 : Int) (l74 : List UInt8) : Option (((List (List UInt8)) × Int) ⊕ List (List UInt8)) :=
  (need ((out52.length + ([l74] : List (List UInt8)).length) * 24 ≤ 140737488355328)).bind fun u75 =>
  some (.inl ((out52 ++ ([l74] : List (List UInt8))), (wr (j53 + (1 : Int)))))

def cartridgeref1_Decode_e80 (k70 : Int) (l89 : List UInt8) : Option (((List UInt8) × Int) ⊕ List UInt8) :=
  some (.inl (l89, (wr (k70 + (1 : Int)))))

def cartridgeref1_Decode_s80 (data2 : Int) (k70 : Int) (r41 : ((List (List UInt8)) × Int)) (j53 : Int) (l18 : List Int) (have1 : (List (List UInt8))) (s : ((List UInt8) × Int)) : Option (((List UInt8) × Int) ⊕ List UInt8) :=
  match s with
  | (row84, i85) =>
    if (decide (i85 < data2)) then
      (getI row84 k70).bind fun e93 =>
      (getI r41.1 j53).bind fun e94 =>
      (getI e94 i85).bind fun e95 =>
      (getI l18 i85).bind fun e96 =>
      (getI have1 e96).bind fun e97 =>
      (getI e97 k70).bind fun e98 =>
      (X.cartridgeref1_Mul e95 e98).bind fun r99 =>
      (getI row84 k70).bind fun e100 =>
      some (.inl ((row84.set k70.toNat (e93 ^^^ r99)), (wr (i85 + (1 : Int)))))
    else
      some (.inr row84)

def cartridgeref1_Decode_s65 (size19 : Int) (data2 : Int) (r41 : ((List (List UInt8)) × Int)) (j53 : Int) (l18 : List Int) (have1 : (List (List UInt8))) (s : ((List UInt8) × Int)) : Option (((List UInt8) × Int) ⊕ List UInt8) :=
  match s with
  | (row69, k70) =>
    if (decide (k70 < size19)) then
      (run (X.cartridgeref1_Decode_s80 data2 k70 r41 j53 l18 have1) (row69, (0 : Int))).bind fun o80 => match o80 with
      | l89 => X.cartridgeref1_Decode_e80 k70 l89
    else
      some (.inr row69)

def cartridgeref1_Decode_s49 (data2 : Int) (size19 : Int) (r41 : ((List (List UInt8)) × Int)) (l18 : List Int) (have1 : (List (List UInt8))) (s : ((List (List UInt8)) × Int)) : Option (((List (List UInt8)) × Int) ⊕ List (List UInt8)) :=
  match s with
  | (out52, j53) =>
    if (decide (j53 < data2)) then
      (need (0 ≤ size19 ∧ size19 * 1 ≤ 281474976710656)).bind fun u61 =>
      (run (X.cartridgeref1_Decode_s65 size19 data2 r41 j53 l18 have1) ((List.replicate size19.toNat (0 : UInt8)), (0 : Int))).bind fun o65 => match o65 with
      | l74 => X.cartridgeref1_Decode_e65 out52 j53 l74
    else
      some (.inr out52)

def cartridgeref1_Decode_e32 (data2 : Int) (size19 : Int) (l18 : List Int) (have1 : (List (List UInt8))) (l39 : List (List UInt8)) : Option ((List (List UInt8)) × Int) :=
  (X.cartridgeref1_Inverse l39).bind fun r41 =>
  if (r41.2 != (0 : Int)) then
    some (([] : (List (List UInt8))), r41.2)
  else
    (run (X.cartridgeref1_Decode_s49 data2 size19 r41 l18 have1) (([] : List (List UInt8)), (0 : Int))).bind fun o49 => match o49 with
    | l55 => X.cartridgeref1_Decode_e49 l55

def cartridgeref1_Decode_j103 (i36 : Int) (l106 : List (List UInt8)) : Option (((List (List UInt8)) × Int) ⊕ List (List UInt8)) :=
  some (.inl (l106, (wr (i36 + (1 : Int)))))

def cartridgeref1_Decode_s32 (data2 : Int) (l18 : List Int) (r29 : ((List (List UInt8)) × Int)) (s : ((List (List UInt8)) × Int)) : Option (((List (List UInt8)) × Int) ⊕ List (List UInt8)) :=
  match s with
  | (m35, i36) =>
    if (decide (i36 < data2)) then
      (getI l18 i36).bind fun e108 =>
      if (decide (e108 < data2)) then
        (need (0 ≤ data2 ∧ data2 * 1 ≤ 281474976710656)).bind fun u110 =>
        (getI l18 i36).bind fun e113 =>
        (getI (List.replicate data2.toNat (0 : UInt8)) e113).bind fun e114 =>
        (need ((m35.length + ([((List.replicate data2.toNat (0 : UInt8)).set e113.toNat (1 : UInt8))] : List (List UInt8)).length) * 24 ≤ 140737488355328)).bind fun u115 =>
        X.cartridgeref1_Decode_j103 i36 (m35 ++ ([((List.replicate data2.toNat (0 : UInt8)).set e113.toNat (1 : UInt8))] : List (List UInt8)))
      else
        (getI l18 i36).bind fun e116 =>
        (getI r29.1 (wr (e116 - data2))).bind fun e117 =>
        (need ((m35.length + ([e117] : List (List UInt8)).length) * 24 ≤ 140737488355328)).bind fun u118 =>
        X.cartridgeref1_Decode_j103 i36 (m35 ++ ([e117] : List (List UInt8)))
    else
      some (.inr m35)

def cartridgeref1_Decode_e12 (data2 : Int) (have1 : (List (List UInt8))) (l18 : List Int) (size19 : Int) : Option ((List (List UInt8)) × Int) :=
  if ((l18.length : Int) == (0 : Int)) then
    some (([] : (List (List UInt8))), (1 : Int))
  else
    if (decide ((l18.length : Int) < data2)) then
      some (([] : (List (List UInt8))), (10 : Int))
    else
      (X.cartridgeref1_Cauchy data2 (wr ((have1.length : Int) - data2))).bind fun r29 =>
      (run (X.cartridgeref1_Decode_s32 data2 l18 r29) (([] : List (List UInt8)), (0 : Int))).bind fun o32 => match o32 with
      | l39 => X.cartridgeref1_Decode_e32 data2 size19 l18 have1 l39

def cartridgeref1_Decode_j121 (i16 : Int) (l123 : List Int) (size124 : Int) : Option (((List Int) × Int × Int) ⊕ ((List Int × Int) ⊕ ((List (List UInt8)) × Int))) :=
  some (.inl (l123, size124, (wr (i16 + (1 : Int)))))

def cartridgeref1_Decode_s12 (have1 : (List (List UInt8))) (s : ((List Int) × Int × Int)) : Option (((List Int) × Int × Int) ⊕ ((List Int × Int) ⊕ ((List (List UInt8)) × Int))) :=
  match s with
  | (at14, size15, i16) =>
    if (decide (i16 < (have1.length : Int))) then
      (getI have1 i16).bind fun e127 =>
      if ((e127.length : Int) == (0 : Int)) then
        X.cartridgeref1_Decode_j121 i16 at14 size15
      else
        ((optG ((decide (size15 > (0 : Int)))) (getI have1 i16))).bind fun e130 =>
        if ((decide (size15 > (0 : Int))) && ((e130.length : Int) != size15)) then
          some (.inr (.inr (([] : (List (List UInt8))), (1 : Int))))
        else
          (getI have1 i16).bind fun e133 =>
          (need ((at14.length + ([i16] : List Int).length) * 8 ≤ 140737488355328)).bind fun u134 =>
          X.cartridgeref1_Decode_j121 i16 (at14 ++ ([i16] : List Int)) (e133.length : Int)
    else
      some (.inr (.inl (at14, size15)))

def cartridgeref1_Decode (have1 : (List (List UInt8))) (data2 : Int) : Option ((List (List UInt8)) × Int) :=
  if (((decide (data2 < (1 : Int))) || (decide (data2 > (have1.length : Int)))) || (decide ((have1.length : Int) > (255 : Int)))) then
    some (([] : (List (List UInt8))), (1 : Int))
  else
    (run (X.cartridgeref1_Decode_s12 have1) (([] : List Int), (0 : Int), (0 : Int))).bind fun o12 => match o12 with
    | .inl (l18, size19) => X.cartridgeref1_Decode_e12 data2 have1 l18 size19
    | .inr rv12 => some rv12

/-! cartridge/cartridgeref1.SameRows -/
def cartridgeref1_SameRows_e9  : Option Bool :=
  some true

def cartridgeref1_SameRows_s9 (a1 : (List (List UInt8))) (b2 : (List (List UInt8))) (s : Int) : Option (Int ⊕ (Unit ⊕ Bool)) :=
  match s with
  | i10 =>
    if (decide (i10 < (a1.length : Int))) then
      (getI a1 i10).bind fun e16 =>
      (getI b2 i10).bind fun e17 =>
      if (!((Str.mk e16).l == (Str.mk e17).l)) then
        some (.inr (.inr false))
      else
        some (.inl (wr (i10 + (1 : Int))))
    else
      some (.inr (.inl ()))

def cartridgeref1_SameRows (a1 : (List (List UInt8))) (b2 : (List (List UInt8))) : Option Bool :=
  if ((a1.length : Int) != (b2.length : Int)) then
    some false
  else
    (run (X.cartridgeref1_SameRows_s9 a1 b2) (0 : Int)).bind fun o9 => match o9 with
    | .inl _ => X.cartridgeref1_SameRows_e9
    | .inr rv9 => some rv9

/-! cartridge/cartridgelaw13.StripeRows -/
def cartridgelaw13_StripeRows_e28  : Option Bool :=
  some true

def cartridgelaw13_StripeRows_e54 (l19 : List Tape_api) (r36 : (List (List UInt8))) (n29 : Int) (l60 : List (List UInt8)) : Option (Int ⊕ (Unit ⊕ Bool)) :=
  (X.cartridgeref1_Decode l60 (l19.length : Int)).bind fun r62 =>
  ((optG (!((r62.2 != (0 : Int)))) (X.cartridgeref1_SameRows r62.1 r36))).bind fun r64 =>
  if ((r62.2 != (0 : Int)) || (!r64)) then
    some (.inr (.inr false))
  else
    some (.inl (wr (n29 + (1 : Int))))

def cartridgelaw13_StripeRows_j72 (have56 : (List (List UInt8))) (e70 : Int) (i58 : Int) (k74 : Int) : Option (((List (List UInt8)) × Int × Int) ⊕ List (List UInt8)) :=
  (getI have56 ((and64 e70 (1023 : Int)).tmod (have56.length : Int))).bind fun e75 =>
  some (.inl ((have56.set ((and64 e70 (1023 : Int)).tmod (have56.length : Int)).toNat ([] : (List UInt8))), k74, (wr (i58 + (1 : Int)))))

def cartridgelaw13_StripeRows_s54 (gone3 : (List Int)) (parity2 : Int) (s : ((List (List UInt8)) × Int × Int)) : Option (((List (List UInt8)) × Int × Int) ⊕ List (List UInt8)) :=
  match s with
  | (have56, k57, i58) =>
    if ((decide (i58 < (gone3.length : Int))) && (decide (k57 < parity2))) then
      (getI gone3 i58).bind fun e70 =>
      (need ((have56.length : Int) ≠ 0)).bind fun u71 =>
      (getI have56 ((and64 e70 (1023 : Int)).tmod (have56.length : Int))).bind fun e77 =>
      if (decide ((e77.length : Int) > (0 : Int))) then
        X.cartridgelaw13_StripeRows_j72 have56 e70 i58 (wr (k57 + (1 : Int)))
      else
        X.cartridgelaw13_StripeRows_j72 have56 e70 i58 k57
    else
      some (.inr have56)

def cartridgelaw13_StripeRows_e45 (gone3 : (List Int)) (parity2 : Int) (l19 : List Tape_api) (r36 : (List (List UInt8))) (n29 : Int) (l50 : List (List UInt8)) : Option (Int ⊕ (Unit ⊕ Bool)) :=
  (run (X.cartridgelaw13_StripeRows_s54 gone3 parity2) (l50, (0 : Int), (0 : Int))).bind fun o54 => match o54 with
  | l60 => X.cartridgelaw13_StripeRows_e54 l19 r36 n29 l60

def cartridgelaw13_StripeRows_s45 (parity2 : Int) (r21 : ((List (List (List UInt8))) × Int)) (n29 : Int) (s : ((List (List UInt8)) × Int)) : Option (((List (List UInt8)) × Int) ⊕ (List (List UInt8) ⊕ Bool)) :=
  match s with
  | (have47, i48) =>
    if (decide (i48 < parity2)) then
      (getI r21.1 i48).bind fun e83 =>
      if (decide (n29 ≥ (e83.length : Int))) then
        some (.inr (.inr false))
      else
        (getI r21.1 i48).bind fun e85 =>
        (getI e85 n29).bind fun e86 =>
        (need ((have47.length + ([e86] : List (List UInt8)).length) * 24 ≤ 140737488355328)).bind fun u87 =>
        some (.inl ((have47 ++ ([e86] : List (List UInt8))), (wr (i48 + (1 : Int)))))
    else
      some (.inr (.inl have47))

def cartridgelaw13_StripeRows_s28 (l19 : List Tape_api) (parity2 : Int) (r21 : ((List (List (List UInt8))) × Int)) (gone3 : (List Int)) (s : Int) : Option (Int ⊕ (Unit ⊕ Bool)) :=
  match s with
  | n29 =>
    (X.stripe_Len l19).bind fun r33 =>
    if (decide (n29 < r33)) then
      (X.stripe_Row l19 n29).bind fun r36 =>
      if ((r36.length : Int) != (l19.length : Int)) then
        some (.inr (.inr false))
      else
        (need (r36.length * 24 ≤ 140737488355328)).bind fun u41 =>
        (run (X.cartridgelaw13_StripeRows_s45 parity2 r21 n29) (r36, (0 : Int))).bind fun o45 => match o45 with
        | .inl l50 => X.cartridgelaw13_StripeRows_e45 gone3 parity2 l19 r36 n29 l50
        | .inr rv45 => some (.inr (.inr rv45))
    else
      some (.inr (.inl ()))

def cartridgelaw13_StripeRows_e14 (parity2 : Int) (gone3 : (List Int)) (l19 : List Tape_api) : Option Bool :=
  (X.stripe_Parity l19 parity2).bind fun r21 =>
  (X.cartridgelaw13_num r21.2).bind fun r24 =>
  if ((r24 != (0 : Int)) || ((r21.1.length : Int) != parity2)) then
    some false
  else
    (run (X.cartridgelaw13_StripeRows_s28 l19 parity2 r21 gone3) (0 : Int)).bind fun o28 => match o28 with
    | .inl _ => X.cartridgelaw13_StripeRows_e28
    | .inr rv28 => some rv28

def cartridgelaw13_StripeRows_e96 (l16 : (List Tape_api)) (i17 : Int) (c107 : Int) (c108 : Int) (l110 : List (List UInt8)) (c111 : Bool) : Option (((List Tape_api) × Int) ⊕ List Tape_api) :=
  (need ((l16.length + ([(Tape_api.mk c107 c108 l110 c111)] : List Tape_api).length) * 48 ≤ 140737488355328)).bind fun u112 =>
  some (.inl ((l16 ++ ([(Tape_api.mk c107 c108 l110 c111)] : List Tape_api)), (wr (i17 + (1 : Int)))))

def cartridgelaw13_StripeRows_s96 (sizes1 : (List Int)) (i17 : Int) (s : (Int × Int × (List (List UInt8)) × Bool × Int)) : Option ((Int × Int × (List (List UInt8)) × Bool × Int) ⊕ (Int × Int × List (List UInt8) × Bool)) :=
  match s with
  | (c99, c100, l102, c103, k104) =>
    (getI sizes1 i17).bind fun e115 =>
    if (decide (k104 < (and64 e115 (7 : Int)))) then
      (need (0 ≤ (79 : Int) ∧ (79 : Int) * 1 ≤ 281474976710656)).bind fun u118 =>
      (getI (List.replicate (79 : Int).toNat (0 : UInt8)) k104).bind fun e121 =>
      (need ((l102.length + ([((List.replicate (79 : Int).toNat (0 : UInt8)).set k104.toNat (u8 (wr (i17 + (1 : Int)))))] : List (List UInt8)).length) * 24 ≤ 140737488355328)).bind fun u122 =>
      some (.inl (c99, c100, (l102 ++ ([((List.replicate (79 : Int).toNat (0 : UInt8)).set k104.toNat (u8 (wr (i17 + (1 : Int)))))] : List (List UInt8))), c103, (wr (k104 + (1 : Int)))))
    else
      some (.inr (c99, c100, l102, c103))

def cartridgelaw13_StripeRows_s14 (sizes1 : (List Int)) (s : ((List Tape_api) × Int)) : Option (((List Tape_api) × Int) ⊕ List Tape_api) :=
  match s with
  | (l16, i17) =>
    if (decide (i17 < (sizes1.length : Int))) then
      (run (X.cartridgelaw13_StripeRows_s96 sizes1 i17) ((wr (i17 + (1 : Int))), (20 : Int), ([] : List (List UInt8)), false, (0 : Int))).bind fun o96 => match o96 with
      | (c107, c108, l110, c111) => X.cartridgelaw13_StripeRows_e96 l16 i17 c107 c108 l110 c111
    else
      some (.inr l16)

def cartridgelaw13_StripeRows (sizes1 : (List Int)) (parity2 : Int) (gone3 : (List Int)) : Option Bool :=
  (X.cartridgelaw13_alive).bind fun r6 =>
  if ((((((!r6) || (decide ((sizes1.length : Int) < (1 : Int)))) || (decide ((sizes1.length : Int) > (6 : Int)))) || (decide (parity2 < (1 : Int)))) || (decide (parity2 > (4 : Int)))) || (decide ((gone3.length : Int) > (10 : Int)))) then
    some r6
  else
    (run (X.cartridgelaw13_StripeRows_s14 sizes1) (([] : List Tape_api), (0 : Int))).bind fun o14 => match o14 with
    | l19 => X.cartridgelaw13_StripeRows_e14 parity2 gone3 l19

end X
end Go.AX
