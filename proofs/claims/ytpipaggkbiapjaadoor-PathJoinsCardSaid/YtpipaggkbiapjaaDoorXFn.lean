import Derived.Test.YtpipaggkbiapjaaDoorXT
/- What the Go functions compute. -/
set_option linter.unusedVariables false
namespace Go.AX
open Go.AM
namespace X
noncomputable section

/-! strings.Count -/
def strings_Count_k47 (s1 : Str) : Option Int :=
  (getI (Str.mk [47]).l (0 : Int)).bind fun x8 =>
  some ((s1.l.count x8 : Nat) : Int)

/-! internal/stringslite.IndexByte -/
def stringslite_IndexByte (s1 : Str) (c2 : UInt8) : Option Int :=
  some (Lib.indexByte s1.l c2)

/-! internal/stringslite.Index -/
def stringslite_Index_k47 (s1 : Str) : Option Int :=
  if ((Str.mk [47]).l == s1.l) then
    some (0 : Int)
  else
    (getI (Str.mk [47]).l (0 : Int)).bind fun x9 =>
    (X.stringslite_IndexByte s1 x9).bind fun r10 =>
    some r10

/-! strings.Index -/
def strings_Index_k47 (s1 : Str) : Option Int :=
  (X.stringslite_Index_k47 s1).bind fun r4 =>
  some r4

/-! strings.genSplit -/
def strings_genSplit_k47_0_1_e17 (s22 : Str) (l24 : List Str) (i25 : Int) : Option (List Str) :=
  (getI l24 i25).bind fun e27 =>
  (need ((0 ≤ (0 : Int) ∧ (0 : Int) ≤ (wr (i25 + (1 : Int))) ∧ (wr (i25 + (1 : Int))) ≤ (l24.set i25.toNat s22).length) ∧ ((0 : Int) = 0 ∨ (0 : Int) < (l24.set i25.toNat s22).length))).bind fun u29 =>
  some (slc (l24.set i25.toNat s22) (0 : Int) (wr (i25 + (1 : Int))))

def strings_genSplit_k47_0_1_s17 (r9 : Int) (s1 : Str) (s : (Str × (List Str) × Int)) : Option ((Str × (List Str) × Int) ⊕ (Str × List Str × Int)) :=
  match s with
  | (s18, a20, i21) =>
    if (decide (i21 < (wr ((min (wr (r9 + (1 : Int))) (wr ((s1.l.length : Int) + (1 : Int)))) - (1 : Int))))) then
      (X.strings_Index_k47 s18).bind fun r33 =>
      if (decide (r33 < (0 : Int))) then
        some (.inr (s18, a20, i21))
      else
        (need (0 ≤ (0 : Int) ∧ (0 : Int) ≤ (wr (r33 + (0 : Int))) ∧ (wr (r33 + (0 : Int))) ≤ s18.l.length)).bind fun u37 =>
        (getI a20 i21).bind fun e38 =>
        (need (0 ≤ (wr (r33 + (1 : Int))) ∧ (wr (r33 + (1 : Int))) ≤ (s18.l.length : Int) ∧ (s18.l.length : Int) ≤ s18.l.length)).bind fun u40 =>
        some (.inl ((Str.mk (slc s18.l (wr (r33 + (1 : Int))) (s18.l.length : Int))), (a20.set i21.toNat (Str.mk (slc s18.l (0 : Int) (wr (r33 + (0 : Int)))))), (wr (i21 + (1 : Int)))))
    else
      some (.inr (s18, a20, i21))

def strings_genSplit_k47_0_1 (s1 : Str) : Option (List Str) :=
  (X.strings_Count_k47 s1).bind fun r9 =>
  (need (0 ≤ (min (wr (r9 + (1 : Int))) (wr ((s1.l.length : Int) + (1 : Int)))) ∧ (min (wr (r9 + (1 : Int))) (wr ((s1.l.length : Int) + (1 : Int)))) * 16 ≤ 281474976710656)).bind fun u12 =>
  (run (X.strings_genSplit_k47_0_1_s17 r9 s1) (s1, (List.replicate (min (wr (r9 + (1 : Int))) (wr ((s1.l.length : Int) + (1 : Int)))).toNat (Str.mk [])), (0 : Int))).bind fun o17 => match o17 with
  | (s22, l24, i25) => X.strings_genSplit_k47_0_1_e17 s22 l24 i25

/-! strings.Split -/
def strings_Split_k47 (s1 : Str) : Option (List Str) :=
  (X.strings_genSplit_k47_0_1 s1).bind fun r4 =>
  some r4

/-! slices.IndexFunc[[]string,string] -/
def slices_IndexFunc_Lstring_string_e6  : Option Int :=
  some ((-1) : Int)

def slices_IndexFunc_Lstring_string_s6 (s1 : (List Str)) (g2 : Str → Option Bool) (s : Int) : Option (Int ⊕ (Unit ⊕ Int)) :=
  match s with
  | x7 =>
    if (decide (x7 < (s1.length : Int))) then
      (getI s1 x7).bind fun e14 =>
      (g2 e14).bind fun r15 =>
      if r15 then
        some (.inr (.inr x7))
      else
        some (.inl (wr (x7 + (1 : Int))))
    else
      some (.inr (.inl ()))

def slices_IndexFunc_Lstring_string (s1 : (List Str)) (g2 : Str → Option Bool) : Option Int :=
  (run (X.slices_IndexFunc_Lstring_string_s6 s1 g2) (0 : Int)).bind fun o6 => match o6 with
  | .inl _ => X.slices_IndexFunc_Lstring_string_e6
  | .inr rv6 => some rv6

/-! slices.ContainsFunc[[]string,string] -/
def slices_ContainsFunc_Lstring_string (s1 : (List Str)) (g2 : Str → Option Bool) : Option Bool :=
  (X.slices_IndexFunc_Lstring_string s1 g2).bind fun r5 =>
  some (decide (r5 ≥ (0 : Int)))

/-! strings.indexFunc -/
open Classical in
def strings_indexFunc (s1 : Str) (g2 : I32 → Option Bool) (truth3 : Bool) : Option Int :=
  if ∀ x : Nat, x ≤ 1114111 → (g2 (I32.mk x)).isSome = true then some (Lib.idxFunc (fun x => (g2 (I32.mk x)).getD false) truth3 s1.ba) else none

/-! strings.IndexFunc -/
def strings_IndexFunc (s1 : Str) (g2 : I32 → Option Bool) : Option Int :=
  (X.strings_indexFunc s1 g2 true).bind fun r5 =>
  some r5

/-! strings.ContainsFunc -/
def strings_ContainsFunc (s1 : Str) (g2 : I32 → Option Bool) : Option Bool :=
  (X.strings_IndexFunc s1 g2).bind fun r5 =>
  some (decide (r5 ≥ (0 : Int)))

/-! cartridge/path.other -/
def path_other (c1 : I32) : Option Bool :=
  some ((((((decide (c1.n < (I32.mk (97)).n)) || (decide (c1.n > (I32.mk (122)).n))) && ((decide (c1.n < (I32.mk (48)).n)) || (decide (c1.n > (I32.mk (57)).n)))) && (c1.n != (I32.mk (46)).n)) && (c1.n != (I32.mk (45)).n)) && (c1.n != (I32.mk (95)).n))

/-! cartridge/path.wrong -/
def path_wrong (s1 : Str) : Option Bool :=
  ((optG (!((((s1.l == (Str.mk []).l) || (s1.l == (Str.mk [46]).l)) || (s1.l == (Str.mk [46, 46]).l)))) (X.strings_ContainsFunc s1 (fun a1 => X.path_other a1)))).bind fun r4 =>
  some ((((s1.l == (Str.mk []).l) || (s1.l == (Str.mk [46]).l)) || (s1.l == (Str.mk [46, 46]).l)) || r4)

/-! cartridge/path.Right -/
def path_Right (s1 : Str) : Option Bool :=
  ((optG ((decide ((s1.l.length : Int) ≤ (24 : Int)))) (X.strings_Split_k47 s1))).bind fun r4 =>
  ((optG ((decide ((s1.l.length : Int) ≤ (24 : Int)))) (X.slices_ContainsFunc_Lstring_string r4 (fun a1 => X.path_wrong a1)))).bind fun r5 =>
  some ((decide ((s1.l.length : Int) ≤ (24 : Int))) && (!r5))

/-! internal/stringslite.HasPrefix -/
def stringslite_HasPrefix (s1 : Str) (prefix2 : Str) : Option Bool :=
  ((optG ((decide ((s1.l.length : Int) ≥ (prefix2.l.length : Int)))) (need (0 ≤ (0 : Int) ∧ (0 : Int) ≤ (prefix2.l.length : Int) ∧ (prefix2.l.length : Int) ≤ s1.l.length)))).bind fun u5 =>
  some ((decide ((s1.l.length : Int) ≥ (prefix2.l.length : Int))) && ((Str.mk (slc s1.l (0 : Int) (prefix2.l.length : Int))).l == prefix2.l))

/-! strings.HasPrefix -/
def strings_HasPrefix (s1 : Str) (prefix2 : Str) : Option Bool :=
  (X.stringslite_HasPrefix s1 prefix2).bind fun r5 =>
  some r5

/-! cartridge/path.Within -/
def path_Within (s1 : Str) (dir2 : Str) : Option Bool :=
  (X.path_Right s1).bind fun r5 =>
  ((optG r5 (X.path_Right dir2))).bind fun r6 =>
  ((optG (((r5 && r6)) && (!((s1.l == dir2.l)))) (need (((dir2.l.length + (Str.mk [47]).l.length : Nat) : Int) ≤ 9223372036854775807)))).bind fun u7 =>
  ((optG (((r5 && r6)) && (!((s1.l == dir2.l)))) (X.strings_HasPrefix s1 (Str.mk (dir2.l ++ (Str.mk [47]).l))))).bind fun r8 =>
  some ((r5 && r6) && ((s1.l == dir2.l) || r8))

/-! cartridge/path.Parts -/
def path_Parts (s1 : Str) : Option (List Str) :=
  (X.path_Right s1).bind fun r5 =>
  if (!r5) then
    some ([] : (List Str))
  else
    (X.strings_Split_k47 s1).bind fun r8 =>
    some r8

/-! cartridge/cartridgelaw5.alive -/
def cartridgelaw5_alive  : Option Bool :=
  (X.path_Right (Str.mk [97, 47, 98])).bind fun r3 =>
  ((optG r3 (X.path_Right (Str.mk [97, 47, 47, 98])))).bind fun r4 =>
  ((optG ((r3 && (!r4))) (X.path_Within (Str.mk [97, 47, 98]) (Str.mk [97])))).bind fun r5 =>
  ((optG (((r3 && (!r4)) && r5)) (X.path_Parts (Str.mk [97, 47, 98])))).bind fun r6 =>
  some (((r3 && (!r4)) && r5) && ((r6.length : Int) == (2 : Int)))

/-! cartridge/cartridgeref1.PathParts -/
def cartridgeref1_PathParts_e11 (l17 : List Str) : Option (List Str) :=
  some l17

def cartridgeref1_PathParts_j21 (i15 : Int) (l23 : List Str) (w24 : Str) : Option (((List Str) × Str × Int) ⊕ (List Str ⊕ (List Str))) :=
  some (.inl (l23, w24, (wr (i15 + (1 : Int)))))

def cartridgeref1_PathParts_s11 (s1 : Str) (s : ((List Str) × Str × Int)) : Option (((List Str) × Str × Int) ⊕ (List Str ⊕ (List Str))) :=
  match s with
  | (l13, w14, i15) =>
    if (decide (i15 ≤ (s1.l.length : Int))) then
      ((optG (!((i15 == (s1.l.length : Int)))) (getI s1.l i15))).bind fun x27 =>
      if ((i15 == (s1.l.length : Int)) || (x27 == (47 : UInt8))) then
        if (((w14.l == (Str.mk []).l) || (w14.l == (Str.mk [46]).l)) || (w14.l == (Str.mk [46, 46]).l)) then
          some (.inr (.inr ([] : (List Str))))
        else
          (need ((l13.length + ([w14] : List Str).length) * 16 ≤ 140737488355328)).bind fun u33 =>
          X.cartridgeref1_PathParts_j21 i15 (l13 ++ ([w14] : List Str)) (Str.mk [])
      else
        (getI s1.l i15).bind fun x36 =>
        if (!((((((decide (x36 ≥ (97 : UInt8))) && (decide (x36 ≤ (122 : UInt8)))) || ((decide (x36 ≥ (48 : UInt8))) && (decide (x36 ≤ (57 : UInt8))))) || (x36 == (46 : UInt8))) || (x36 == (45 : UInt8))) || (x36 == (95 : UInt8)))) then
          some (.inr (.inr ([] : (List Str))))
        else
          (need (0 ≤ i15 ∧ i15 ≤ (wr (i15 + (1 : Int))) ∧ (wr (i15 + (1 : Int))) ≤ s1.l.length)).bind fun u40 =>
          (need (((w14.l.length + (Str.mk (slc s1.l i15 (wr (i15 + (1 : Int))))).l.length : Nat) : Int) ≤ 9223372036854775807)).bind fun u41 =>
          X.cartridgeref1_PathParts_j21 i15 l13 (Str.mk (w14.l ++ (Str.mk (slc s1.l i15 (wr (i15 + (1 : Int))))).l))
    else
      some (.inr (.inl l13))

def cartridgeref1_PathParts (s1 : Str) : Option (List Str) :=
  if ((decide ((s1.l.length : Int) < (1 : Int))) || (decide ((s1.l.length : Int) > (24 : Int)))) then
    some ([] : (List Str))
  else
    (run (X.cartridgeref1_PathParts_s11 s1) (([] : List Str), (Str.mk []), (0 : Int))).bind fun o11 => match o11 with
    | .inl l17 => X.cartridgeref1_PathParts_e11 l17
    | .inr rv11 => some rv11

/-! cartridge/cartridgeref1.RightPath -/
def cartridgeref1_RightPath (s1 : Str) : Option Bool :=
  (X.cartridgeref1_PathParts s1).bind fun r4 =>
  some (decide ((r4.length : Int) > (0 : Int)))

/-! cartridge/cartridgelaw5.PathJoins -/
def cartridgelaw5_PathJoins_e14 (s1 : Str) (t17 : Str) : Option Bool :=
  some (t17.l == s1.l)

def cartridgelaw5_PathJoins_j22 (r10 : (List Str)) (i16 : Int) (s1 : Str) (t23 : Str) : Option ((Str × Int) ⊕ (Str ⊕ Bool)) :=
  (getI r10 i16).bind fun e25 =>
  (need (((t23.l.length + e25.l.length : Nat) : Int) ≤ 9223372036854775807)).bind fun u26 =>
  (X.path_Right (Str.mk (t23.l ++ e25.l))).bind fun r28 =>
  ((optG (!((!r28))) (X.path_Within s1 (Str.mk (t23.l ++ e25.l))))).bind fun r29 =>
  ((optG (!(((!r28) || (!r29)))) (X.path_Within (Str.mk (t23.l ++ e25.l)) s1))).bind fun r30 =>
  if (((!r28) || (!r29)) || (r30 != ((Str.mk (t23.l ++ e25.l)).l == s1.l))) then
    some (.inr (.inr false))
  else
    some (.inl ((Str.mk (t23.l ++ e25.l)), (wr (i16 + (1 : Int)))))

def cartridgelaw5_PathJoins_s14 (r10 : (List Str)) (s1 : Str) (s : (Str × Int)) : Option ((Str × Int) ⊕ (Str ⊕ Bool)) :=
  match s with
  | (t15, i16) =>
    if (decide (i16 < (r10.length : Int))) then
      if (decide (i16 > (0 : Int))) then
        (need (((t15.l.length + (Str.mk [47]).l.length : Nat) : Int) ≤ 9223372036854775807)).bind fun u33 =>
        X.cartridgelaw5_PathJoins_j22 r10 i16 s1 (Str.mk (t15.l ++ (Str.mk [47]).l))
      else
        X.cartridgelaw5_PathJoins_j22 r10 i16 s1 t15
    else
      some (.inr (.inl t15))

def cartridgelaw5_PathJoins (s1 : Str) : Option Bool :=
  (X.cartridgelaw5_alive).bind fun r4 =>
  ((optG (!(((!r4) || (decide ((s1.l.length : Int) > (24 : Int)))))) (X.cartridgeref1_RightPath s1))).bind fun r7 =>
  if (((!r4) || (decide ((s1.l.length : Int) > (24 : Int)))) || (!r7)) then
    some r4
  else
    (X.path_Parts s1).bind fun r10 =>
    (run (X.cartridgelaw5_PathJoins_s14 r10 s1) ((Str.mk []), (0 : Int))).bind fun o14 => match o14 with
    | .inl t17 => X.cartridgelaw5_PathJoins_e14 s1 t17
    | .inr rv14 => some rv14

end
end X
end Go.AX
