import Derived.Test.YtgkbjnhpmlfgdaaXT
/- What the Go functions compute. -/
set_option linter.unusedVariables false
namespace Go.AX
open Go.AM
namespace X

/-! slices.Clone[[]byte,byte] -/
def slices_Clone_Lbyte_byte (s1 : (List UInt8)) : Option (List UInt8) :=
  nilU s1 fun z5 =>
  if z5 then
    some ([] : (List UInt8))
  else
    (need (s1.length * 1 ≤ 140737488355328)).bind fun u8 =>
    some s1

/-! cartridge/stripe.cell -/
def stripe_cell (t1 : Tape_api) (n2 : Int) : Option (List UInt8) :=
  if ((t1.Lost || (decide (n2 < (0 : Int)))) || (decide (n2 ≥ (t1.Blocks.length : Int)))) then
    (need (0 ≤ (79 : Int) ∧ (79 : Int) * 1 ≤ 281474976710656)).bind fun u7 =>
    some (List.replicate (79 : Int).toNat (0 : UInt8))
  else
    (getI t1.Blocks n2).bind fun e10 =>
    if ((e10.length : Int) != (79 : Int)) then
      some ([] : (List UInt8))
    else
      (getI t1.Blocks n2).bind fun e13 =>
      (X.slices_Clone_Lbyte_byte e13).bind fun r14 =>
      some r14

/-! cartridge/stripe.Row -/
def stripe_Row_e8 (l13 : List (List UInt8)) : Option (List (List UInt8)) :=
  some l13

def stripe_Row_s8 (l1 : (List Tape_api)) (n2 : Int) (s : ((List (List UInt8)) × Int)) : Option (((List (List UInt8)) × Int) ⊕ List (List UInt8)) :=
  match s with
  | (out10, x11) =>
    if (decide (x11 < (l1.length : Int))) then
      (getI l1 x11).bind fun e19 =>
      (X.stripe_cell e19 n2).bind fun r21 =>
      (need ((out10.length + ([r21] : List (List UInt8)).length) * 24 ≤ 140737488355328)).bind fun u22 =>
      some (.inl ((out10 ++ ([r21] : List (List UInt8))), (wr (x11 + (1 : Int)))))
    else
      some (.inr out10)

def stripe_Row (l1 : (List Tape_api)) (n2 : Int) : Option (List (List UInt8)) :=
  (run (X.stripe_Row_s8 l1 n2) (([] : List (List UInt8)), (0 : Int))).bind fun o8 => match o8 with
  | l13 => X.stripe_Row_e8 l13

/-! slices.IndexFunc[[][]byte,[]byte] -/
def slices_IndexFunc_LLbyte_Lbyte_e6  : Option Int :=
  some ((-1) : Int)

def slices_IndexFunc_LLbyte_Lbyte_s6 (s1 : (List (List UInt8))) (g2 : (List UInt8) → Option Bool) (s : Int) : Option (Int ⊕ (Unit ⊕ Int)) :=
  match s with
  | x7 =>
    if (decide (x7 < (s1.length : Int))) then
      (getI s1 x7).bind fun e14 =>
      (g2 e14).bind fun r15 =>
      if r15 then
        some (.inr (.inr x7))
      else
        some (.inl (wr (x7 + (1 : Int))))
    else
      some (.inr (.inl ()))

def slices_IndexFunc_LLbyte_Lbyte (s1 : (List (List UInt8))) (g2 : (List UInt8) → Option Bool) : Option Int :=
  (run (X.slices_IndexFunc_LLbyte_Lbyte_s6 s1 g2) (0 : Int)).bind fun o6 => match o6 with
  | .inl _ => X.slices_IndexFunc_LLbyte_Lbyte_e6
  | .inr rv6 => some rv6

/-! slices.ContainsFunc[[][]byte,[]byte] -/
def slices_ContainsFunc_LLbyte_Lbyte (s1 : (List (List UInt8))) (g2 : (List UInt8) → Option Bool) : Option Bool :=
  (X.slices_IndexFunc_LLbyte_Lbyte s1 g2).bind fun r5 =>
  some (decide (r5 ≥ (0 : Int)))

/-! cartridge/erasure.alike$1 -/
def erasure_alike_c1 (r1 : (List UInt8)) (c2 : (List (List UInt8))) : Option Bool :=
  (getI c2 (0 : Int)).bind fun e5 =>
  some ((r1.length : Int) != (e5.length : Int))

/-! cartridge/erasure.alike -/
def erasure_alike (l1 : (List (List UInt8))) : Option Bool :=
  (X.slices_ContainsFunc_LLbyte_Lbyte l1 (fun a1 => X.erasure_alike_c1 a1 l1)).bind fun r4 =>
  some (!r4)

/-! cartridge/gf.Add -/
def gf_Add (a1 : UInt8) (b2 : UInt8) : Option UInt8 :=
  some (a1 ^^^ b2)

/-! cartridge/gf.Mul -/
def gf_Mul_e6 (out10 : UInt8) : Option UInt8 :=
  some out10

def gf_Mul_j14 (b8 : UInt8) (a15 : UInt8) (out16 : UInt8) : Option ((UInt8 × UInt8 × UInt8) ⊕ UInt8) :=
  some (.inl (a15, (shr8 b8 1), out16))

def gf_Mul_j17 (a7 : UInt8) (b8 : UInt8) (out18 : UInt8) : Option ((UInt8 × UInt8 × UInt8) ⊕ UInt8) :=
  if ((a7 &&& (128 : UInt8)) != (0 : UInt8)) then
    X.gf_Mul_j14 b8 ((shl8 a7 1) ^^^ (29 : UInt8)) out18
  else
    X.gf_Mul_j14 b8 (shl8 a7 1) out18

def gf_Mul_s6 (s : (UInt8 × UInt8 × UInt8)) : Option ((UInt8 × UInt8 × UInt8) ⊕ UInt8) :=
  match s with
  | (a7, b8, out9) =>
    if (b8 != (0 : UInt8)) then
      if ((b8 &&& (1 : UInt8)) == (1 : UInt8)) then
        X.gf_Mul_j17 a7 b8 (out9 ^^^ a7)
      else
        X.gf_Mul_j17 a7 b8 out9
    else
      some (.inr out9)

def gf_Mul (a1 : UInt8) (b2 : UInt8) : Option UInt8 :=
  (run (X.gf_Mul_s6) (a1, b2, (0 : UInt8))).bind fun o6 => match o6 with
  | out10 => X.gf_Mul_e6 out10

/-! cartridge/gf.power -/
def gf_power_e6 (out10 : UInt8) : Option UInt8 :=
  some out10

def gf_power_j15 (a7 : UInt8) (n8 : Int) (out16 : UInt8) : Option ((UInt8 × Int × UInt8) ⊕ UInt8) :=
  (X.gf_Mul a7 a7).bind fun r17 =>
  some (.inl (r17, (shr64 n8 ((1 : UInt64).toNat : Int)), out16))

def gf_power_s6 (s : (UInt8 × Int × UInt8)) : Option ((UInt8 × Int × UInt8) ⊕ UInt8) :=
  match s with
  | (a7, n8, out9) =>
    if (decide (n8 > (0 : Int))) then
      if ((and64 n8 (1 : Int)) == (1 : Int)) then
        (X.gf_Mul out9 a7).bind fun r19 =>
        X.gf_power_j15 a7 n8 r19
      else
        X.gf_power_j15 a7 n8 out9
    else
      some (.inr out9)

def gf_power (a1 : UInt8) (n2 : Int) : Option UInt8 :=
  (run (X.gf_power_s6) (a1, n2, (1 : UInt8))).bind fun o6 => match o6 with
  | out10 => X.gf_power_e6 out10

/-! cartridge/gf.Inv -/
def gf_Inv (a1 : UInt8) : Option UInt8 :=
  (X.gf_power a1 (254 : Int)).bind fun r4 =>
  some r4

/-! cartridge/matrix.Cauchy -/
def matrix_Cauchy_e11 (l16 : List (List UInt8)) : Option ((List (List UInt8)) × Int) :=
  some (l16, (0 : Int))

def matrix_Cauchy_e26 (out13 : (List (List UInt8))) (x14 : Int) (l33 : List UInt8) : Option (((List (List UInt8)) × Int) ⊕ List (List UInt8)) :=
  (need ((out13.length + ([l33] : List (List UInt8)).length) * 24 ≤ 140737488355328)).bind fun u34 =>
  some (.inl ((out13 ++ ([l33] : List (List UInt8))), (wr (x14 + (1 : Int)))))

def matrix_Cauchy_s26 (data1 : Int) (x14 : Int) (parity2 : Int) (s : ((List UInt8) × Int)) : Option (((List UInt8) × Int) ⊕ List UInt8) :=
  match s with
  | (r29, x30) =>
    if (decide (x30 < data1)) then
      (X.gf_Add (u8 x14) (u8 (wr (parity2 + x30)))).bind fun r39 =>
      (X.gf_Inv r39).bind fun r40 =>
      (need ((r29.length + ([r40] : List UInt8).length) * 1 ≤ 140737488355328)).bind fun u41 =>
      some (.inl ((r29 ++ ([r40] : List UInt8)), (wr (x30 + (1 : Int)))))
    else
      some (.inr r29)

def matrix_Cauchy_s11 (parity2 : Int) (data1 : Int) (s : ((List (List UInt8)) × Int)) : Option (((List (List UInt8)) × Int) ⊕ List (List UInt8)) :=
  match s with
  | (out13, x14) =>
    if (decide (x14 < parity2)) then
      (run (X.matrix_Cauchy_s26 data1 x14 parity2) (([] : List UInt8), (0 : Int))).bind fun o26 => match o26 with
      | l33 => X.matrix_Cauchy_e26 out13 x14 l33
    else
      some (.inr out13)

def matrix_Cauchy (data1 : Int) (parity2 : Int) : Option ((List (List UInt8)) × Int) :=
  if ((((decide (data1 < (1 : Int))) || (decide (parity2 < (1 : Int)))) || (decide (data1 > (255 : Int)))) || (decide (parity2 > (wr ((255 : Int) - data1))))) then
    some (([] : (List (List UInt8))), (1 : Int))
  else
    (run (X.matrix_Cauchy_s11 parity2 data1) (([] : List (List UInt8)), (0 : Int))).bind fun o11 => match o11 with
    | l16 => X.matrix_Cauchy_e11 l16

/-! cartridge/matrix.Right$1 -/
def matrix_Right_c1 (r1 : (List UInt8)) (c2 : (List (List UInt8))) : Option Bool :=
  (getI c2 (0 : Int)).bind fun e5 =>
  some ((r1.length : Int) != (e5.length : Int))

/-! cartridge/matrix.Right -/
def matrix_Right (m1 : (List (List UInt8))) : Option Bool :=
  ((optG (!(((decide ((m1.length : Int) < (1 : Int))) || (decide ((m1.length : Int) > (255 : Int)))))) (getI m1 (0 : Int)))).bind fun e5 =>
  ((optG (!((((decide ((m1.length : Int) < (1 : Int))) || (decide ((m1.length : Int) > (255 : Int)))) || (decide ((e5.length : Int) < (1 : Int)))))) (getI m1 (0 : Int)))).bind fun e6 =>
  if ((((decide ((m1.length : Int) < (1 : Int))) || (decide ((m1.length : Int) > (255 : Int)))) || (decide ((e5.length : Int) < (1 : Int)))) || (decide ((e6.length : Int) > (255 : Int)))) then
    some false
  else
    (X.slices_ContainsFunc_LLbyte_Lbyte m1 (fun a1 => X.matrix_Right_c1 a1 m1)).bind fun r9 =>
    some (!r9)

/-! cartridge/matrix.apply -/
def matrix_apply_e9 (l14 : List UInt8) : Option (List UInt8) :=
  some l14

def matrix_apply_e22 (x12 : Int) (l27 : List UInt8) : Option (((List UInt8) × Int) ⊕ List UInt8) :=
  some (.inl (l27, (wr (x12 + (1 : Int)))))

def matrix_apply_s22 (e20 : (List UInt8)) (x12 : Int) (v2 : (List UInt8)) (s : ((List UInt8) × Int)) : Option (((List UInt8) × Int) ⊕ List UInt8) :=
  match s with
  | (out24, x25) =>
    if (decide (x25 < (e20.length : Int))) then
      (getI e20 x25).bind fun e32 =>
      (getI out24 x12).bind fun e33 =>
      (getI v2 x25).bind fun e34 =>
      (X.gf_Mul e32 e34).bind fun r35 =>
      (X.gf_Add e33 r35).bind fun r36 =>
      (getI out24 x12).bind fun e37 =>
      some (.inl ((out24.set x12.toNat r36), (wr (x25 + (1 : Int)))))
    else
      some (.inr out24)

def matrix_apply_s9 (m1 : (List (List UInt8))) (v2 : (List UInt8)) (s : ((List UInt8) × Int)) : Option (((List UInt8) × Int) ⊕ List UInt8) :=
  match s with
  | (out11, x12) =>
    if (decide (x12 < (m1.length : Int))) then
      (getI m1 x12).bind fun e20 =>
      (run (X.matrix_apply_s22 e20 x12 v2) (out11, (0 : Int))).bind fun o22 => match o22 with
      | l27 => X.matrix_apply_e22 x12 l27
    else
      some (.inr out11)

def matrix_apply (m1 : (List (List UInt8))) (v2 : (List UInt8)) : Option (List UInt8) :=
  (need (0 ≤ (m1.length : Int) ∧ (m1.length : Int) * 1 ≤ 281474976710656)).bind fun u5 =>
  (run (X.matrix_apply_s9 m1 v2) ((List.replicate (m1.length : Int).toNat (0 : UInt8)), (0 : Int))).bind fun o9 => match o9 with
  | l14 => X.matrix_apply_e9 l14

/-! cartridge/matrix.Apply -/
def matrix_Apply (m1 : (List (List UInt8))) (v2 : (List UInt8)) : Option ((List UInt8) × Int) :=
  (X.matrix_Right m1).bind fun r6 =>
  ((optG (!((!r6))) (getI m1 (0 : Int)))).bind fun e7 =>
  if ((!r6) || ((v2.length : Int) != (e7.length : Int))) then
    some (([] : (List UInt8)), (1 : Int))
  else
    (X.matrix_apply m1 v2).bind fun r10 =>
    some (r10, (0 : Int))

/-! cartridge/erasure.reckon -/
def erasure_reckon_e10 (l15 : List (List UInt8)) : Option (List (List UInt8)) :=
  some l15

def erasure_reckon_e36 (x13 : Int) (l41 : List (List UInt8)) : Option (((List (List UInt8)) × Int) ⊕ List (List UInt8)) :=
  some (.inl (l41, (wr (x13 + (1 : Int)))))

def erasure_reckon_s36 (r34 : ((List UInt8) × Int)) (s : ((List (List UInt8)) × Int)) : Option (((List (List UInt8)) × Int) ⊕ List (List UInt8)) :=
  match s with
  | (out38, x39) =>
    if (decide (x39 < (r34.1.length : Int))) then
      (getI r34.1 x39).bind fun e46 =>
      (getI out38 x39).bind fun e47 =>
      (need ((e47.length + ([e46] : List UInt8).length) * 1 ≤ 140737488355328)).bind fun u49 =>
      (getI out38 x39).bind fun e50 =>
      some (.inl ((out38.set x39.toNat (e47 ++ ([e46] : List UInt8))), (wr (x39 + (1 : Int)))))
    else
      some (.inr out38)

def erasure_reckon_e25 (m1 : (List (List UInt8))) (out12 : (List (List UInt8))) (x13 : Int) (l32 : List UInt8) : Option (((List (List UInt8)) × Int) ⊕ List (List UInt8)) :=
  (X.matrix_Apply m1 l32).bind fun r34 =>
  (run (X.erasure_reckon_s36 r34) (out12, (0 : Int))).bind fun o36 => match o36 with
  | l41 => X.erasure_reckon_e36 x13 l41

def erasure_reckon_s25 (l2 : (List (List UInt8))) (x13 : Int) (s : ((List UInt8) × Int)) : Option (((List UInt8) × Int) ⊕ List UInt8) :=
  match s with
  | (v28, x29) =>
    if (decide (x29 < (l2.length : Int))) then
      (getI l2 x29).bind fun e55 =>
      (getI e55 x13).bind fun e56 =>
      (need ((v28.length + ([e56] : List UInt8).length) * 1 ≤ 140737488355328)).bind fun u57 =>
      some (.inl ((v28 ++ ([e56] : List UInt8)), (wr (x29 + (1 : Int)))))
    else
      some (.inr v28)

def erasure_reckon_s10 (e9 : (List UInt8)) (l2 : (List (List UInt8))) (m1 : (List (List UInt8))) (s : ((List (List UInt8)) × Int)) : Option (((List (List UInt8)) × Int) ⊕ List (List UInt8)) :=
  match s with
  | (out12, x13) =>
    if (decide (x13 < (e9.length : Int))) then
      (run (X.erasure_reckon_s25 l2 x13) (([] : List UInt8), (0 : Int))).bind fun o25 => match o25 with
      | l32 => X.erasure_reckon_e25 m1 out12 x13 l32
    else
      some (.inr out12)

def erasure_reckon (m1 : (List (List UInt8))) (l2 : (List (List UInt8))) : Option (List (List UInt8)) :=
  (need (0 ≤ (m1.length : Int) ∧ (m1.length : Int) * 24 ≤ 281474976710656)).bind fun u5 =>
  (getI l2 (0 : Int)).bind fun e9 =>
  (run (X.erasure_reckon_s10 e9 l2 m1) ((List.replicate (m1.length : Int).toNat ([] : (List UInt8))), (0 : Int))).bind fun o10 => match o10 with
  | l15 => X.erasure_reckon_e10 l15

/-! cartridge/erasure.Encode -/
def erasure_Encode (data1 : (List (List UInt8))) (parity2 : Int) : Option ((List (List UInt8)) × Int) :=
  ((optG (!(((((decide ((data1.length : Int) < (1 : Int))) || (decide ((data1.length : Int) > (255 : Int)))) || (decide (parity2 < (0 : Int)))) || (decide (parity2 > (wr ((255 : Int) - (data1.length : Int)))))))) (X.erasure_alike data1))).bind fun r6 =>
  if (((((decide ((data1.length : Int) < (1 : Int))) || (decide ((data1.length : Int) > (255 : Int)))) || (decide (parity2 < (0 : Int)))) || (decide (parity2 > (wr ((255 : Int) - (data1.length : Int)))))) || (!r6)) then
    some (([] : (List (List UInt8))), (1 : Int))
  else
    if (parity2 == (0 : Int)) then
      some (([] : (List (List UInt8))), (0 : Int))
    else
      (X.matrix_Cauchy (data1.length : Int) parity2).bind fun r12 =>
      if (r12.2 != (0 : Int)) then
        some (([] : (List (List UInt8))), r12.2)
      else
        (X.erasure_reckon r12.1 data1).bind fun r17 =>
        some (r17, (0 : Int))

/-! cartridge/stripe.Len -/
def stripe_Len_e6 (n9 : Int) : Option Int :=
  some n9

def stripe_Len_s6 (l1 : (List Tape_api)) (s : (Int × Int)) : Option ((Int × Int) ⊕ Int) :=
  match s with
  | (n7, x8) =>
    if (decide (x8 < (l1.length : Int))) then
      (getI l1 x8).bind fun e15 =>
      if (!e15.Lost) then
        some (.inl ((max n7 (e15.Blocks.length : Int)), (wr (x8 + (1 : Int)))))
      else
        some (.inl (n7, (wr (x8 + (1 : Int)))))
    else
      some (.inr n7)

def stripe_Len (l1 : (List Tape_api)) : Option Int :=
  (run (X.stripe_Len_s6 l1) ((0 : Int), (0 : Int))).bind fun o6 => match o6 with
  | n9 => X.stripe_Len_e6 n9

/-! cartridge/stripe.Parity$1 -/
def stripe_Parity_c1 (b1 : (List UInt8)) : Option Bool :=
  some ((b1.length : Int) == (0 : Int))

/-! cartridge/stripe.Parity -/
def stripe_Parity_e16 (l21 : List (List (List UInt8))) : Option ((List (List (List UInt8))) × Int) :=
  some (l21, (0 : Int))

def stripe_Parity_e39 (x19 : Int) (l44 : List (List (List UInt8))) : Option (((List (List (List UInt8))) × Int) ⊕ (List (List (List UInt8)) ⊕ ((List (List (List UInt8))) × Int))) :=
  some (.inl (l44, (wr (x19 + (1 : Int)))))

def stripe_Parity_s39 (r34 : ((List (List UInt8)) × Int)) (s : ((List (List (List UInt8))) × Int)) : Option (((List (List (List UInt8))) × Int) ⊕ List (List (List UInt8))) :=
  match s with
  | (out41, x42) =>
    if (decide (x42 < (r34.1.length : Int))) then
      (getI r34.1 x42).bind fun e49 =>
      (getI out41 x42).bind fun e50 =>
      (need ((e50.length + ([e49] : List (List UInt8)).length) * 24 ≤ 140737488355328)).bind fun u52 =>
      (getI out41 x42).bind fun e53 =>
      some (.inl ((out41.set x42.toNat (e50 ++ ([e49] : List (List UInt8)))), (wr (x42 + (1 : Int)))))
    else
      some (.inr out41)

def stripe_Parity_s16 (r15 : Int) (l1 : (List Tape_api)) (parity2 : Int) (s : ((List (List (List UInt8))) × Int)) : Option (((List (List (List UInt8))) × Int) ⊕ (List (List (List UInt8)) ⊕ ((List (List (List UInt8))) × Int))) :=
  match s with
  | (out18, x19) =>
    if (decide (x19 < r15)) then
      (X.stripe_Row l1 x19).bind fun r28 =>
      (X.slices_ContainsFunc_LLbyte_Lbyte r28 (fun a1 => X.stripe_Parity_c1 a1)).bind fun r31 =>
      if r31 then
        some (.inr (.inr (([] : (List (List (List UInt8)))), (1 : Int))))
      else
        (X.erasure_Encode r28 parity2).bind fun r34 =>
        if (r34.2 != (0 : Int)) then
          some (.inr (.inr (([] : (List (List (List UInt8)))), r34.2)))
        else
          (run (X.stripe_Parity_s39 r34) (out18, (0 : Int))).bind fun o39 => match o39 with
          | l44 => X.stripe_Parity_e39 x19 l44
    else
      some (.inr (.inl out18))

def stripe_Parity (l1 : (List Tape_api)) (parity2 : Int) : Option ((List (List (List UInt8))) × Int) :=
  (X.stripe_Row l1 ((-1) : Int)).bind fun r6 =>
  (X.erasure_Encode r6 parity2).bind fun r7 =>
  if (r7.2 != (0 : Int)) then
    some (([] : (List (List (List UInt8)))), r7.2)
  else
    (need (0 ≤ parity2 ∧ parity2 * 24 ≤ 281474976710656)).bind fun u11 =>
    (X.stripe_Len l1).bind fun r15 =>
    (run (X.stripe_Parity_s16 r15 l1 parity2) ((List.replicate parity2.toNat ([] : (List (List UInt8)))), (0 : Int))).bind fun o16 => match o16 with
    | .inl l21 => X.stripe_Parity_e16 l21
    | .inr rv16 => some rv16

/-! cartridge/cartridgelaw13.num -/
def cartridgelaw13_num (e1 : Int) : Option Int :=
  some e1

/-! cartridge/cartridgelaw13.alive -/
def cartridgelaw13_alive  : Option Bool :=
  (need (0 ≤ (79 : Int) ∧ (79 : Int) * 1 ≤ 281474976710656)).bind fun u3 =>
  (X.stripe_Parity ([(Tape_api.mk (1 : Int) (1 : Int) ([(List.replicate (79 : Int).toNat (0 : UInt8))] : List (List UInt8)) false)] : List Tape_api) (1 : Int)).bind fun r5 =>
  (X.stripe_Len ([] : List Tape_api)).bind fun r7 =>
  ((optG ((r7 == (0 : Int))) (X.stripe_Len ([(Tape_api.mk (1 : Int) (1 : Int) ([(List.replicate (79 : Int).toNat (0 : UInt8))] : List (List UInt8)) false)] : List Tape_api)))).bind fun r8 =>
  ((optG (((r7 == (0 : Int)) && (r8 == (1 : Int)))) (X.stripe_Row ([(Tape_api.mk (1 : Int) (1 : Int) ([(List.replicate (79 : Int).toNat (0 : UInt8))] : List (List UInt8)) false)] : List Tape_api) (0 : Int)))).bind fun r9 =>
  ((optG ((((r7 == (0 : Int)) && (r8 == (1 : Int))) && ((r9.length : Int) == (1 : Int)))) (X.cartridgelaw13_num r5.2))).bind fun r10 =>
  some (((((r7 == (0 : Int)) && (r8 == (1 : Int))) && ((r9.length : Int) == (1 : Int))) && (r10 == (0 : Int))) && ((r5.1.length : Int) == (1 : Int)))

/-! cartridge/cartridgelaw8.Few -/
def cartridgelaw8_Few_e5 (t1 : Tape_api) : Option Bool :=
  some (decide ((t1.Blocks.length : Int) ≤ (90 : Int)))

def cartridgelaw8_Few_s5 (t1 : Tape_api) (s : Int) : Option (Int ⊕ (Unit ⊕ Bool)) :=
  match s with
  | i6 =>
    if ((decide (i6 < (t1.Blocks.length : Int))) && (decide (i6 < (100 : Int)))) then
      (getI t1.Blocks i6).bind fun e12 =>
      if (decide ((e12.length : Int) > (300 : Int))) then
        some (.inr (.inr false))
      else
        some (.inl (wr (i6 + (1 : Int))))
    else
      some (.inr (.inl ()))

def cartridgelaw8_Few (t1 : Tape_api) : Option Bool :=
  (run (X.cartridgelaw8_Few_s5 t1) (0 : Int)).bind fun o5 => match o5 with
  | .inl _ => X.cartridgelaw8_Few_e5 t1
  | .inr rv5 => some rv5

/-! cartridge/cartridgelaw13.Few -/
def cartridgelaw13_Few_e6 (l1 : (List Tape_api)) (n9 : Int) : Option Bool :=
  some ((decide ((l1.length : Int) ≤ (14 : Int))) && (decide (n9 ≤ (300 : Int))))

def cartridgelaw13_Few_s6 (l1 : (List Tape_api)) (s : (Int × Int)) : Option ((Int × Int) ⊕ (Int ⊕ Bool)) :=
  match s with
  | (n7, i8) =>
    if ((decide (i8 < (l1.length : Int))) && (decide (i8 < (20 : Int)))) then
      (getI l1 i8).bind fun e16 =>
      (X.cartridgelaw8_Few e16).bind fun r17 =>
      if (!r17) then
        some (.inr (.inr false))
      else
        (getI l1 i8).bind fun e19 =>
        some (.inl ((wr (n7 + (e19.Blocks.length : Int))), (wr (i8 + (1 : Int)))))
    else
      some (.inr (.inl n7))

def cartridgelaw13_Few (l1 : (List Tape_api)) : Option Bool :=
  (run (X.cartridgelaw13_Few_s6 l1) ((0 : Int), (0 : Int))).bind fun o6 => match o6 with
  | .inl n9 => X.cartridgelaw13_Few_e6 l1 n9
  | .inr rv6 => some rv6

/-! cartridge/cartridgeref10.StripeLen -/
def cartridgeref10_StripeLen_e6 (n9 : Int) : Option Int :=
  some n9

def cartridgeref10_StripeLen_j13 (i8 : Int) (n14 : Int) : Option ((Int × Int) ⊕ Int) :=
  some (.inl (n14, (wr (i8 + (1 : Int)))))

def cartridgeref10_StripeLen_s6 (l1 : (List Tape_api)) (s : (Int × Int)) : Option ((Int × Int) ⊕ Int) :=
  match s with
  | (n7, i8) =>
    if (decide (i8 < (l1.length : Int))) then
      (getI l1 i8).bind fun e16 =>
      ((optG ((!e16.Lost)) (getI l1 i8))).bind fun e17 =>
      if ((!e16.Lost) && (decide ((e17.Blocks.length : Int) > n7))) then
        (getI l1 i8).bind fun e18 =>
        X.cartridgeref10_StripeLen_j13 i8 (e18.Blocks.length : Int)
      else
        X.cartridgeref10_StripeLen_j13 i8 n7
    else
      some (.inr n7)

def cartridgeref10_StripeLen (l1 : (List Tape_api)) : Option Int :=
  (run (X.cartridgeref10_StripeLen_s6 l1) ((0 : Int), (0 : Int))).bind fun o6 => match o6 with
  | n9 => X.cartridgeref10_StripeLen_e6 n9

/-! cartridge/cartridgeref10.Row -/
def cartridgeref10_Row_e8 (l13 : List (List UInt8)) : Option (List (List UInt8)) :=
  some l13

def cartridgeref10_Row_j17 (i11 : Int) (l19 : List (List UInt8)) : Option (((List (List UInt8)) × Int) ⊕ List (List UInt8)) :=
  some (.inl (l19, (wr (i11 + (1 : Int)))))

def cartridgeref10_Row_s8 (l1 : (List Tape_api)) (n2 : Int) (s : ((List (List UInt8)) × Int)) : Option (((List (List UInt8)) × Int) ⊕ List (List UInt8)) :=
  match s with
  | (out10, i11) =>
    if (decide (i11 < (l1.length : Int))) then
      (getI l1 i11).bind fun e21 =>
      ((optG (!((e21.Lost || (decide (n2 < (0 : Int)))))) (getI l1 i11))).bind fun e22 =>
      if ((e21.Lost || (decide (n2 < (0 : Int)))) || (decide (n2 ≥ (e22.Blocks.length : Int)))) then
        (need (0 ≤ (79 : Int) ∧ (79 : Int) * 1 ≤ 281474976710656)).bind fun u23 =>
        (need ((out10.length + ([(List.replicate (79 : Int).toNat (0 : UInt8))] : List (List UInt8)).length) * 24 ≤ 140737488355328)).bind fun u24 =>
        X.cartridgeref10_Row_j17 i11 (out10 ++ ([(List.replicate (79 : Int).toNat (0 : UInt8))] : List (List UInt8)))
      else
        (getI l1 i11).bind fun e26 =>
        (getI e26.Blocks n2).bind fun e27 =>
        if ((e27.length : Int) == (79 : Int)) then
          (getI l1 i11).bind fun e28 =>
          (getI e28.Blocks n2).bind fun e29 =>
          (need (e29.length * 1 ≤ 140737488355328)).bind fun u30 =>
          (need ((out10.length + ([e29] : List (List UInt8)).length) * 24 ≤ 140737488355328)).bind fun u32 =>
          X.cartridgeref10_Row_j17 i11 (out10 ++ ([e29] : List (List UInt8)))
        else
          (need ((out10.length + ([([] : (List UInt8))] : List (List UInt8)).length) * 24 ≤ 140737488355328)).bind fun u33 =>
          X.cartridgeref10_Row_j17 i11 (out10 ++ ([([] : (List UInt8))] : List (List UInt8)))
    else
      some (.inr out10)

def cartridgeref10_Row (l1 : (List Tape_api)) (n2 : Int) : Option (List (List UInt8)) :=
  (run (X.cartridgeref10_Row_s8 l1 n2) (([] : List (List UInt8)), (0 : Int))).bind fun o8 => match o8 with
  | l13 => X.cartridgeref10_Row_e8 l13

/-! cartridge/cartridgeref1.Mul -/
def cartridgeref1_Mul_e13 (x16 : Int) : Option UInt8 :=
  some (u8 x16)

def cartridgeref1_Mul_j20 (i15 : Int) (x21 : Int) : Option ((Int × Int) ⊕ Int) :=
  some (.inl (x21, (wr (i15 - (1 : Int)))))

def cartridgeref1_Mul_s13 (s : (Int × Int)) : Option ((Int × Int) ⊕ Int) :=
  match s with
  | (x14, i15) =>
    if (decide (i15 ≥ (8 : Int))) then
      if ((and64 (shr64 x14 ((u64 i15).toNat : Int)) (1 : Int)) == (1 : Int)) then
        X.cartridgeref1_Mul_j20 i15 (xor64 x14 (shl64 (285 : Int) ((u64 (wr (i15 - (8 : Int)))).toNat : Int)))
      else
        X.cartridgeref1_Mul_j20 i15 x14
    else
      some (.inr x14)

def cartridgeref1_Mul_e7 (x10 : Int) : Option UInt8 :=
  (run (X.cartridgeref1_Mul_s13) (x10, (14 : Int))).bind fun o13 => match o13 with
  | x16 => X.cartridgeref1_Mul_e13 x16

def cartridgeref1_Mul_j25 (i9 : Int) (x26 : Int) : Option ((Int × Int) ⊕ Int) :=
  some (.inl (x26, (wr (i9 + (1 : Int)))))

def cartridgeref1_Mul_s7 (b2 : UInt8) (a1 : UInt8) (s : (Int × Int)) : Option ((Int × Int) ⊕ Int) :=
  match s with
  | (x8, i9) =>
    if (decide (i9 < (8 : Int))) then
      if (((shr8 b2 (u64 i9).toNat) &&& (1 : UInt8)) == (1 : UInt8)) then
        X.cartridgeref1_Mul_j25 i9 (xor64 x8 (shl64 (a1.toNat : Int) ((u64 i9).toNat : Int)))
      else
        X.cartridgeref1_Mul_j25 i9 x8
    else
      some (.inr x8)

def cartridgeref1_Mul (a1 : UInt8) (b2 : UInt8) : Option UInt8 :=
  (run (X.cartridgeref1_Mul_s7 b2 a1) ((0 : Int), (0 : Int))).bind fun o7 => match o7 with
  | x10 => X.cartridgeref1_Mul_e7 x10

/-! cartridge/cartridgeref1.Inv -/
def cartridgeref1_Inv_e6 (x9 : UInt8) : Option UInt8 :=
  some x9

def cartridgeref1_Inv_s6 (a1 : UInt8) (s : (UInt8 × Int)) : Option ((UInt8 × Int) ⊕ UInt8) :=
  match s with
  | (x7, i8) =>
    if (decide (i8 < (254 : Int))) then
      (X.cartridgeref1_Mul x7 a1).bind fun r14 =>
      some (.inl (r14, (wr (i8 + (1 : Int)))))
    else
      some (.inr x7)

def cartridgeref1_Inv (a1 : UInt8) : Option UInt8 :=
  (run (X.cartridgeref1_Inv_s6 a1) ((1 : UInt8), (0 : Int))).bind fun o6 => match o6 with
  | x9 => X.cartridgeref1_Inv_e6 x9

/-! cartridge/cartridgeref1.Cauchy -/
def cartridgeref1_Cauchy_e11 (l16 : List (List UInt8)) : Option ((List (List UInt8)) × Int) :=
  some (l16, (0 : Int))

def cartridgeref1_Cauchy_e25 (out13 : (List (List UInt8))) (i14 : Int) (l32 : List UInt8) : Option (((List (List UInt8)) × Int) ⊕ List (List UInt8)) :=
  (need ((out13.length + ([l32] : List (List UInt8)).length) * 24 ≤ 140737488355328)).bind fun u33 =>
  some (.inl ((out13 ++ ([l32] : List (List UInt8))), (wr (i14 + (1 : Int)))))

def cartridgeref1_Cauchy_s25 (data1 : Int) (i14 : Int) (parity2 : Int) (s : ((List UInt8) × Int)) : Option (((List UInt8) × Int) ⊕ List UInt8) :=
  match s with
  | (row28, j29) =>
    if (decide (j29 < data1)) then
      (X.cartridgeref1_Inv ((u8 i14) ^^^ (u8 (wr (parity2 + j29))))).bind fun r37 =>
      (need ((row28.length + ([r37] : List UInt8).length) * 1 ≤ 140737488355328)).bind fun u38 =>
      some (.inl ((row28 ++ ([r37] : List UInt8)), (wr (j29 + (1 : Int)))))
    else
      some (.inr row28)

def cartridgeref1_Cauchy_s11 (parity2 : Int) (data1 : Int) (s : ((List (List UInt8)) × Int)) : Option (((List (List UInt8)) × Int) ⊕ List (List UInt8)) :=
  match s with
  | (out13, i14) =>
    if (decide (i14 < parity2)) then
      (run (X.cartridgeref1_Cauchy_s25 data1 i14 parity2) (([] : List UInt8), (0 : Int))).bind fun o25 => match o25 with
      | l32 => X.cartridgeref1_Cauchy_e25 out13 i14 l32
    else
      some (.inr out13)

def cartridgeref1_Cauchy (data1 : Int) (parity2 : Int) : Option ((List (List UInt8)) × Int) :=
  if (((((decide (data1 < (1 : Int))) || (decide (parity2 < (1 : Int)))) || (decide (data1 > (255 : Int)))) || (decide (parity2 > (255 : Int)))) || (decide ((wr (data1 + parity2)) > (255 : Int)))) then
    some (([] : (List (List UInt8))), (1 : Int))
  else
    (run (X.cartridgeref1_Cauchy_s11 parity2 data1) (([] : List (List UInt8)), (0 : Int))).bind fun o11 => match o11 with
    | l16 => X.cartridgeref1_Cauchy_e11 l16

/-! cartridge/cartridgeref1.Encode -/
def cartridgeref1_Encode_e20 (l25 : List (List UInt8)) : Option ((List (List UInt8)) × Int) :=
  some (l25, (0 : Int))

def cartridgeref1_Encode_e36 (out22 : (List (List UInt8))) (i23 : Int) (l43 : List UInt8) : Option (((List (List UInt8)) × Int) ⊕ List (List UInt8)) :=
  (need ((out22.length + ([l43] : List (List UInt8)).length) * 24 ≤ 140737488355328)).bind fun u44 =>
  some (.inl ((out22 ++ ([l43] : List (List UInt8))), (wr (i23 + (1 : Int)))))

def cartridgeref1_Encode_e49 (k40 : Int) (l56 : List UInt8) : Option (((List UInt8) × Int) ⊕ List UInt8) :=
  some (.inl (l56, (wr (k40 + (1 : Int)))))

def cartridgeref1_Encode_s49 (data1 : (List (List UInt8))) (k40 : Int) (r15 : ((List (List UInt8)) × Int)) (i23 : Int) (s : ((List UInt8) × Int)) : Option (((List UInt8) × Int) ⊕ List UInt8) :=
  match s with
  | (row52, j53) =>
    if (decide (j53 < (data1.length : Int))) then
      (getI row52 k40).bind fun e60 =>
      (getI r15.1 i23).bind fun e61 =>
      (getI e61 j53).bind fun e62 =>
      (getI data1 j53).bind fun e63 =>
      (getI e63 k40).bind fun e64 =>
      (X.cartridgeref1_Mul e62 e64).bind fun r65 =>
      (getI row52 k40).bind fun e66 =>
      some (.inl ((row52.set k40.toNat (e60 ^^^ r65)), (wr (j53 + (1 : Int)))))
    else
      some (.inr row52)

def cartridgeref1_Encode_s36 (data1 : (List (List UInt8))) (r15 : ((List (List UInt8)) × Int)) (i23 : Int) (s : ((List UInt8) × Int)) : Option (((List UInt8) × Int) ⊕ List UInt8) :=
  match s with
  | (row39, k40) =>
    if (decide (k40 < (row39.length : Int))) then
      (run (X.cartridgeref1_Encode_s49 data1 k40 r15 i23) (row39, (0 : Int))).bind fun o49 => match o49 with
      | l56 => X.cartridgeref1_Encode_e49 k40 l56
    else
      some (.inr row39)

def cartridgeref1_Encode_s20 (parity2 : Int) (data1 : (List (List UInt8))) (r15 : ((List (List UInt8)) × Int)) (s : ((List (List UInt8)) × Int)) : Option (((List (List UInt8)) × Int) ⊕ List (List UInt8)) :=
  match s with
  | (out22, i23) =>
    if (decide (i23 < parity2)) then
      (getI data1 (0 : Int)).bind fun e31 =>
      (need (0 ≤ (e31.length : Int) ∧ (e31.length : Int) * 1 ≤ 281474976710656)).bind fun u32 =>
      (run (X.cartridgeref1_Encode_s36 data1 r15 i23) ((List.replicate (e31.length : Int).toNat (0 : UInt8)), (0 : Int))).bind fun o36 => match o36 with
      | l43 => X.cartridgeref1_Encode_e36 out22 i23 l43
    else
      some (.inr out22)

def cartridgeref1_Encode_e9 (parity2 : Int) (data1 : (List (List UInt8))) : Option ((List (List UInt8)) × Int) :=
  if (parity2 == (0 : Int)) then
    some (([] : (List (List UInt8))), (0 : Int))
  else
    (X.cartridgeref1_Cauchy (data1.length : Int) parity2).bind fun r15 =>
    (run (X.cartridgeref1_Encode_s20 parity2 data1 r15) (([] : List (List UInt8)), (0 : Int))).bind fun o20 => match o20 with
    | l25 => X.cartridgeref1_Encode_e20 l25

def cartridgeref1_Encode_s9 (data1 : (List (List UInt8))) (s : Int) : Option (Int ⊕ (Unit ⊕ ((List (List UInt8)) × Int))) :=
  match s with
  | i10 =>
    if (decide (i10 < (data1.length : Int))) then
      (getI data1 i10).bind fun e71 =>
      (getI data1 (0 : Int)).bind fun e72 =>
      if ((e71.length : Int) != (e72.length : Int)) then
        some (.inr (.inr (([] : (List (List UInt8))), (1 : Int))))
      else
        some (.inl (wr (i10 + (1 : Int))))
    else
      some (.inr (.inl ()))

def cartridgeref1_Encode (data1 : (List (List UInt8))) (parity2 : Int) : Option ((List (List UInt8)) × Int) :=
  if ((((decide ((data1.length : Int) < (1 : Int))) || (decide (parity2 < (0 : Int)))) || (decide (parity2 > (255 : Int)))) || (decide ((wr ((data1.length : Int) + parity2)) > (255 : Int)))) then
    some (([] : (List (List UInt8))), (1 : Int))
  else
    (run (X.cartridgeref1_Encode_s9 data1) (1 : Int)).bind fun o9 => match o9 with
    | .inl _ => X.cartridgeref1_Encode_e9 parity2 data1
    | .inr rv9 => some rv9

/-! cartridge/cartridgeref10.Parity -/
def cartridgeref10_Parity_e19 (l24 : List (List (List UInt8))) : Option ((List (List (List UInt8))) × Int) :=
  some (l24, (0 : Int))

def cartridgeref10_Parity_e44 (n22 : Int) (l49 : List (List (List UInt8))) : Option (((List (List (List UInt8))) × Int) ⊕ (List (List (List UInt8)) ⊕ ((List (List (List UInt8))) × Int))) :=
  some (.inl (l49, (wr (n22 + (1 : Int)))))

def cartridgeref10_Parity_s44 (parity2 : Int) (r39 : ((List (List UInt8)) × Int)) (s : ((List (List (List UInt8))) × Int)) : Option (((List (List (List UInt8))) × Int) ⊕ List (List (List UInt8))) :=
  match s with
  | (out46, j47) =>
    if (decide (j47 < parity2)) then
      (getI out46 j47).bind fun e53 =>
      (getI r39.1 j47).bind fun e55 =>
      (need ((e53.length + ([e55] : List (List UInt8)).length) * 24 ≤ 140737488355328)).bind fun u56 =>
      (getI out46 j47).bind fun e57 =>
      some (.inl ((out46.set j47.toNat (e53 ++ ([e55] : List (List UInt8)))), (wr (j47 + (1 : Int)))))
    else
      some (.inr out46)

def cartridgeref10_Parity_e34 (r31 : (List (List UInt8))) (parity2 : Int) (out21 : (List (List (List UInt8)))) (n22 : Int) : Option (((List (List (List UInt8))) × Int) ⊕ (List (List (List UInt8)) ⊕ ((List (List (List UInt8))) × Int))) :=
  (X.cartridgeref1_Encode r31 parity2).bind fun r39 =>
  if (r39.2 != (0 : Int)) then
    some (.inr (.inr (([] : (List (List (List UInt8)))), r39.2)))
  else
    (run (X.cartridgeref10_Parity_s44 parity2 r39) (out21, (0 : Int))).bind fun o44 => match o44 with
    | l49 => X.cartridgeref10_Parity_e44 n22 l49

def cartridgeref10_Parity_s34 (r31 : (List (List UInt8))) (s : Int) : Option (Int ⊕ (Unit ⊕ ((List (List (List UInt8))) × Int))) :=
  match s with
  | i36 =>
    if (decide (i36 < (r31.length : Int))) then
      (getI r31 i36).bind fun e62 =>
      if ((e62.length : Int) == (0 : Int)) then
        some (.inr (.inr (([] : (List (List (List UInt8)))), (1 : Int))))
      else
        some (.inl (wr (i36 + (1 : Int))))
    else
      some (.inr (.inl ()))

def cartridgeref10_Parity_s19 (l1 : (List Tape_api)) (parity2 : Int) (s : ((List (List (List UInt8))) × Int)) : Option (((List (List (List UInt8))) × Int) ⊕ (List (List (List UInt8)) ⊕ ((List (List (List UInt8))) × Int))) :=
  match s with
  | (out21, n22) =>
    (X.cartridgeref10_StripeLen l1).bind fun r28 =>
    if (decide (n22 < r28)) then
      (X.cartridgeref10_Row l1 n22).bind fun r31 =>
      (run (X.cartridgeref10_Parity_s34 r31) (0 : Int)).bind fun o34 => match o34 with
      | .inl _ => X.cartridgeref10_Parity_e34 r31 parity2 out21 n22
      | .inr rv34 => some (.inr (.inr rv34))
    else
      some (.inr (.inl out21))

def cartridgeref10_Parity_e11 (l1 : (List Tape_api)) (parity2 : Int) (l16 : List (List (List UInt8))) : Option ((List (List (List UInt8))) × Int) :=
  (run (X.cartridgeref10_Parity_s19 l1 parity2) (l16, (0 : Int))).bind fun o19 => match o19 with
  | .inl l24 => X.cartridgeref10_Parity_e19 l24
  | .inr rv19 => some rv19

def cartridgeref10_Parity_s11 (parity2 : Int) (s : ((List (List (List UInt8))) × Int)) : Option (((List (List (List UInt8))) × Int) ⊕ List (List (List UInt8))) :=
  match s with
  | (out13, j14) =>
    if (decide (j14 < parity2)) then
      (need ((out13.length + 1) * 24 ≤ 140737488355328)).bind fun u67 =>
      some (.inl ((out13 ++ [([] : List (List UInt8))]), (wr (j14 + (1 : Int)))))
    else
      some (.inr out13)

def cartridgeref10_Parity (l1 : (List Tape_api)) (parity2 : Int) : Option ((List (List (List UInt8))) × Int) :=
  if ((((decide ((l1.length : Int) < (1 : Int))) || (decide (parity2 < (0 : Int)))) || (decide (parity2 > (255 : Int)))) || (decide ((wr ((l1.length : Int) + parity2)) > (255 : Int)))) then
    some (([] : (List (List (List UInt8)))), (1 : Int))
  else
    (run (X.cartridgeref10_Parity_s11 parity2) (([] : List (List (List UInt8))), (0 : Int))).bind fun o11 => match o11 with
    | l16 => X.cartridgeref10_Parity_e11 l1 parity2 l16

/-! cartridge/cartridgeref1.SameRows -/
def cartridgeref1_SameRows_e9  : Option Bool :=
  some true

def cartridgeref1_SameRows_s9 (a1 : (List (List UInt8))) (b2 : (List (List UInt8))) (s : Int) : Option (Int ⊕ (Unit ⊕ Bool)) :=
  match s with
  | i10 =>
    if (decide (i10 < (a1.length : Int))) then
      (getI a1 i10).bind fun e16 =>
      (getI b2 i10).bind fun e17 =>
      if (!((Str.mk e16).l == (Str.mk e17).l)) then
        some (.inr (.inr false))
      else
        some (.inl (wr (i10 + (1 : Int))))
    else
      some (.inr (.inl ()))

def cartridgeref1_SameRows (a1 : (List (List UInt8))) (b2 : (List (List UInt8))) : Option Bool :=
  if ((a1.length : Int) != (b2.length : Int)) then
    some false
  else
    (run (X.cartridgeref1_SameRows_s9 a1 b2) (0 : Int)).bind fun o9 => match o9 with
    | .inl _ => X.cartridgeref1_SameRows_e9
    | .inr rv9 => some rv9

/-! cartridge/cartridgelaw13.StripeTells -/
def cartridgelaw13_StripeTells_e26  : Option Bool :=
  some true

def cartridgelaw13_StripeTells_s26 (r12 : ((List (List (List UInt8))) × Int)) (r14 : ((List (List (List UInt8))) × Int)) (s : Int) : Option (Int ⊕ (Unit ⊕ Bool)) :=
  match s with
  | i27 =>
    if (decide (i27 < (r12.1.length : Int))) then
      (getI r12.1 i27).bind fun e33 =>
      (getI r14.1 i27).bind fun e34 =>
      (X.cartridgeref1_SameRows e33 e34).bind fun r35 =>
      if (!r35) then
        some (.inr (.inr false))
      else
        some (.inl (wr (i27 + (1 : Int))))
    else
      some (.inr (.inl ()))

def cartridgelaw13_StripeTells (l1 : (List Tape_api)) (n2 : Int) (parity3 : Int) : Option Bool :=
  (X.cartridgelaw13_alive).bind fun r6 =>
  ((optG (!((!r6))) (X.cartridgelaw13_Few l1))).bind fun r9 =>
  if (((!r6) || (!r9)) || (decide (parity3 > (10 : Int)))) then
    some r6
  else
    (X.stripe_Parity l1 parity3).bind fun r12 =>
    (X.cartridgeref10_Parity l1 parity3).bind fun r14 =>
    (X.cartridgelaw13_num r12.2).bind fun r17 =>
    ((optG (!(((r17 != r14.2) || ((r12.1.length : Int) != (r14.1.length : Int))))) (X.stripe_Len l1))).bind fun r18 =>
    ((optG (!(((r17 != r14.2) || ((r12.1.length : Int) != (r14.1.length : Int))))) (X.cartridgeref10_StripeLen l1))).bind fun r19 =>
    ((optG (!((((r17 != r14.2) || ((r12.1.length : Int) != (r14.1.length : Int))) || (r18 != r19)))) (X.stripe_Row l1 n2))).bind fun r20 =>
    ((optG (!((((r17 != r14.2) || ((r12.1.length : Int) != (r14.1.length : Int))) || (r18 != r19)))) (X.cartridgeref10_Row l1 n2))).bind fun r21 =>
    ((optG (!((((r17 != r14.2) || ((r12.1.length : Int) != (r14.1.length : Int))) || (r18 != r19)))) (X.cartridgeref1_SameRows r20 r21))).bind fun r22 =>
    if ((((r17 != r14.2) || ((r12.1.length : Int) != (r14.1.length : Int))) || (r18 != r19)) || (!r22)) then
      some false
    else
      (run (X.cartridgelaw13_StripeTells_s26 r12 r14) (0 : Int)).bind fun o26 => match o26 with
      | .inl _ => X.cartridgelaw13_StripeTells_e26
      | .inr rv26 => some rv26

end X
end Go.AX
