import Derived.Test.YtndjbcnpgggddaaXT
/- What the Go functions compute. -/
set_option linter.unusedVariables false
namespace Go.AX
open Go.AM
namespace X

/-! cartridge/listing.newest -/
def listing_newest_e10 (c24 : Str) (c25 : Int) (c26 : Int) (c27 : Int) (c28 : Int) (c29 : Bool) (c30 : (List Part_api)) (ok31 : Bool) : Option (File_api × Bool) :=
  some ((File_api.mk c24 c25 c26 c27 c28 c29 c30), ok31)

def listing_newest_s10 (l1 : (List File_api)) (path2 : Str) (s : (Str × Int × Int × Int × Int × Bool × (List Part_api) × Bool × Int)) : Option ((Str × Int × Int × Int × Int × Bool × (List Part_api) × Bool × Int) ⊕ (Str × Int × Int × Int × Int × Bool × (List Part_api) × Bool)) :=
  match s with
  | (c13, c14, c15, c16, c17, c18, c19, ok20, x21) =>
    if (decide (x21 < (l1.length : Int))) then
      (getI l1 x21).bind fun e37 =>
      if ((e37.Path.l == path2.l) && ((!ok20) || (decide (e37.Version > c14)))) then
        some (.inl (e37.Path, e37.Version, e37.Size, e37.Sum, e37.Serial, e37.Gone, e37.Parts, true, (wr (x21 + (1 : Int)))))
      else
        some (.inl (c13, c14, c15, c16, c17, c18, c19, ok20, (wr (x21 + (1 : Int)))))
    else
      some (.inr (c13, c14, c15, c16, c17, c18, c19, ok20))

def listing_newest (l1 : (List File_api)) (path2 : Str) : Option (File_api × Bool) :=
  (run (X.listing_newest_s10 l1 path2) ((Str.mk []), (0 : Int), (0 : Int), (0 : Int), (0 : Int), false, ([] : (List Part_api)), false, (0 : Int))).bind fun o10 => match o10 with
  | (c24, c25, c26, c27, c28, c29, c30, ok31) => X.listing_newest_e10 c24 c25 c26 c27 c28 c29 c30 ok31

/-! slices.Clone[[]cartridge/api.Part,cartridge/api.Part] -/
def slices_Clone_Lapi_Part_api_Part (s1 : (List Part_api)) : Option (List Part_api) :=
  nilU s1 fun z5 =>
  if z5 then
    some ([] : (List Part_api))
  else
    (need (s1.length * 88 ≤ 140737488355328)).bind fun u9 =>
    some s1

/-! cartridge/listing.Clone -/
def listing_Clone (f1 : File_api) : Option File_api :=
  (X.slices_Clone_Lapi_Part_api_Part f1.Parts).bind fun r6 =>
  some (File_api.mk f1.Path f1.Version f1.Size f1.Sum f1.Serial f1.Gone r6)

/-! cartridge/listing.there -/
def listing_there (f1 : File_api) (ok2 : Bool) : Option (File_api × Bool) :=
  if ((!ok2) || f1.Gone) then
    some ((File_api.mk (Str.mk []) (0 : Int) (0 : Int) (0 : Int) (0 : Int) false ([] : (List Part_api))), false)
  else
    (X.listing_Clone f1).bind fun r9 =>
    some (r9, true)

/-! cartridge/listing.Newest -/
def listing_Newest (l1 : (List File_api)) (path2 : Str) : Option (File_api × Bool) :=
  (X.listing_newest l1 path2).bind fun r6 =>
  (X.listing_there r6.1 r6.2).bind fun r7 =>
  some (r7.1, r7.2)

/-! cartridge/listing.Next -/
def listing_Next (l1 : (List File_api)) (path2 : Str) : Option Int :=
  (X.listing_newest l1 path2).bind fun r5 =>
  if (!r5.2) then
    some (1 : Int)
  else
    some (wr (r5.1.Version + (1 : Int)))

/-! cartridge/listing.Serial -/
def listing_Serial_e10 (n13 : Int) : Option Int :=
  some (wr (n13 + (1 : Int)))

def listing_Serial_s10 (l1 : (List File_api)) (s : (Int × Int)) : Option ((Int × Int) ⊕ Int) :=
  match s with
  | (n11, x12) =>
    if (decide (x12 < (l1.length : Int))) then
      (getI l1 x12).bind fun e19 =>
      some (.inl ((max n11 e19.Serial), (wr (x12 + (1 : Int)))))
    else
      some (.inr n11)

def listing_Serial (l1 : (List File_api)) : Option Int :=
  if ((l1.length : Int) == (0 : Int)) then
    some (1 : Int)
  else
    (getI l1 (0 : Int)).bind fun e7 =>
    (run (X.listing_Serial_s10 l1) (e7.Serial, (0 : Int))).bind fun o10 => match o10 with
    | n13 => X.listing_Serial_e10 n13

/-! slices.Sort[[]string,string] -/
def slices_Sort_Lstring_string (l1 : List Str) : Option (List Str) :=
  if l1.length < 4611686018427387904 then some (sortS l1) else none

/-! slices.Compact[[]string,string] -/
def slices_Compact_Lstring_string (l1 : List Str) : Option (List Str) :=
  if l1.length < 4611686018427387904 then some (compactS l1) else none

/-! cartridge/listing.Names -/
def listing_Names_e7 (l12 : List Str) : Option (List Str) :=
  (X.slices_Sort_Lstring_string l12).bind fun r14 =>
  (X.slices_Compact_Lstring_string r14).bind fun r16 =>
  some r16

def listing_Names_s7 (l1 : (List File_api)) (s : ((List Str) × Int)) : Option (((List Str) × Int) ⊕ List Str) :=
  match s with
  | (out9, x10) =>
    if (decide (x10 < (l1.length : Int))) then
      (getI l1 x10).bind fun e22 =>
      (X.listing_Newest l1 e22.Path).bind fun r25 =>
      if r25.2 then
        (need ((out9.length + ([e22.Path] : List Str).length) * 16 ≤ 140737488355328)).bind fun u28 =>
        some (.inl ((out9 ++ ([e22.Path] : List Str)), (wr (x10 + (1 : Int)))))
      else
        some (.inl (out9, (wr (x10 + (1 : Int)))))
    else
      some (.inr out9)

def listing_Names (l1 : (List File_api)) : Option (List Str) :=
  (run (X.listing_Names_s7 l1) (([] : List Str), (0 : Int))).bind fun o7 => match o7 with
  | l12 => X.listing_Names_e7 l12

/-! cartridge/cartridgelaw18.alive -/
def cartridgelaw18_alive  : Option Bool :=
  (X.listing_Newest ([(File_api.mk (Str.mk [97]) (3 : Int) (0 : Int) (0 : Int) (0 : Int) false ([] : (List Part_api)))] : List File_api) (Str.mk [97])).bind fun r3 =>
  (X.listing_Next ([] : List File_api) (Str.mk [97])).bind fun r6 =>
  ((optG ((r6 == (1 : Int))) (X.listing_Serial ([] : List File_api)))).bind fun r7 =>
  ((optG (((((r6 == (1 : Int)) && (r7 == (1 : Int))) && r3.2) && (r3.1.Version == (3 : Int)))) (X.listing_Names ([] : List File_api)))).bind fun r8 =>
  some (((((r6 == (1 : Int)) && (r7 == (1 : Int))) && r3.2) && (r3.1.Version == (3 : Int))) && ((r8.length : Int) == (0 : Int)))

/-! cartridge/cartridgeref10.Newest -/
def cartridgeref10_Newest_e8 (l1 : (List File_api)) (at13 : Int) : Option (File_api × Bool) :=
  ((optG (!((decide (at13 < (0 : Int))))) (getI l1 at13))).bind fun e16 =>
  if ((decide (at13 < (0 : Int))) || e16.Gone) then
    some ((File_api.mk (Str.mk []) (0 : Int) (0 : Int) (0 : Int) (0 : Int) false ([] : (List Part_api))), false)
  else
    (getI l1 at13).bind fun e19 =>
    some (e19, true)

def cartridgeref10_Newest_j22 (i11 : Int) (at24 : Int) : Option ((Int × Int) ⊕ Int) :=
  some (.inl (at24, (wr (i11 + (1 : Int)))))

def cartridgeref10_Newest_s8 (l1 : (List File_api)) (path2 : Str) (s : (Int × Int)) : Option ((Int × Int) ⊕ Int) :=
  match s with
  | (at10, i11) =>
    if (decide (i11 < (l1.length : Int))) then
      (getI l1 i11).bind fun e26 =>
      ((optG (((e26.Path.l == path2.l)) && (!((decide (at10 < (0 : Int)))))) (getI l1 i11))).bind fun e27 =>
      ((optG (((e26.Path.l == path2.l)) && (!((decide (at10 < (0 : Int)))))) (getI l1 at10))).bind fun e28 =>
      if ((e26.Path.l == path2.l) && ((decide (at10 < (0 : Int))) || (decide (e27.Version > e28.Version)))) then
        X.cartridgeref10_Newest_j22 i11 i11
      else
        X.cartridgeref10_Newest_j22 i11 at10
    else
      some (.inr at10)

def cartridgeref10_Newest (l1 : (List File_api)) (path2 : Str) : Option (File_api × Bool) :=
  (run (X.cartridgeref10_Newest_s8 l1 path2) (((-1) : Int), (0 : Int))).bind fun o8 => match o8 with
  | at13 => X.cartridgeref10_Newest_e8 l1 at13

/-! slices.IndexFunc[[]cartridge/api.File,cartridge/api.File] -/
def slices_IndexFunc_Lapi_File_api_File_e6  : Option Int :=
  some ((-1) : Int)

def slices_IndexFunc_Lapi_File_api_File_s6 (s1 : (List File_api)) (g2 : File_api → Option Bool) (s : Int) : Option (Int ⊕ (Unit ⊕ Int)) :=
  match s with
  | x7 =>
    if (decide (x7 < (s1.length : Int))) then
      (getI s1 x7).bind fun e14 =>
      (g2 e14).bind fun r15 =>
      if r15 then
        some (.inr (.inr x7))
      else
        some (.inl (wr (x7 + (1 : Int))))
    else
      some (.inr (.inl ()))

def slices_IndexFunc_Lapi_File_api_File (s1 : (List File_api)) (g2 : File_api → Option Bool) : Option Int :=
  (run (X.slices_IndexFunc_Lapi_File_api_File_s6 s1 g2) (0 : Int)).bind fun o6 => match o6 with
  | .inl _ => X.slices_IndexFunc_Lapi_File_api_File_e6
  | .inr rv6 => some rv6

/-! cartridge/listing.Get$1 -/
def listing_Get_c1 (f1 : File_api) (c2 : Str) (c3 : Int) : Option Bool :=
  some ((f1.Path.l == c2.l) && (f1.Version == c3))

/-! cartridge/listing.Get -/
def listing_Get (l1 : (List File_api)) (path2 : Str) (version3 : Int) : Option (File_api × Bool) :=
  if (version3 == (0 : Int)) then
    (X.listing_Newest l1 path2).bind fun r9 =>
    some (r9.1, r9.2)
  else
    (X.slices_IndexFunc_Lapi_File_api_File l1 (fun a1 => X.listing_Get_c1 a1 path2 version3)).bind fun r11 =>
    if (decide (r11 < (0 : Int))) then
      some ((File_api.mk (Str.mk []) (0 : Int) (0 : Int) (0 : Int) (0 : Int) false ([] : (List Part_api))), false)
    else
      (getI l1 r11).bind fun e16 =>
      (X.listing_there e16 true).bind fun r17 =>
      some (r17.1, r17.2)

/-! cartridge/cartridgeref10.GetFile -/
def cartridgeref10_GetFile_e12  : Option (File_api × Bool) :=
  some ((File_api.mk (Str.mk []) (0 : Int) (0 : Int) (0 : Int) (0 : Int) false ([] : (List Part_api))), false)

def cartridgeref10_GetFile_s12 (l1 : (List File_api)) (path2 : Str) (version3 : Int) (s : Int) : Option (Int ⊕ (Unit ⊕ (File_api × Bool))) :=
  match s with
  | i14 =>
    if (decide (i14 < (l1.length : Int))) then
      (getI l1 i14).bind fun e21 =>
      ((optG ((e21.Path.l == path2.l)) (getI l1 i14))).bind fun e22 =>
      if ((e21.Path.l == path2.l) && (e22.Version == version3)) then
        (getI l1 i14).bind fun e25 =>
        if e25.Gone then
          some (.inr (.inr ((File_api.mk (Str.mk []) (0 : Int) (0 : Int) (0 : Int) (0 : Int) false ([] : (List Part_api))), false)))
        else
          (getI l1 i14).bind fun e28 =>
          some (.inr (.inr (e28, true)))
      else
        some (.inl (wr (i14 + (1 : Int))))
    else
      some (.inr (.inl ()))

def cartridgeref10_GetFile (l1 : (List File_api)) (path2 : Str) (version3 : Int) : Option (File_api × Bool) :=
  if (version3 == (0 : Int)) then
    (X.cartridgeref10_Newest l1 path2).bind fun r9 =>
    some (r9.1, r9.2)
  else
    (run (X.cartridgeref10_GetFile_s12 l1 path2 version3) (0 : Int)).bind fun o12 => match o12 with
    | .inl _ => X.cartridgeref10_GetFile_e12
    | .inr rv12 => some rv12

/-! cartridge/cartridgeref10.SameFile -/
def cartridgeref10_SameFile_e9  : Option Bool :=
  some true

def cartridgeref10_SameFile_s9 (a1 : File_api) (b2 : File_api) (s : Int) : Option (Int ⊕ (Unit ⊕ Bool)) :=
  match s with
  | i10 =>
    if (decide (i10 < (a1.Parts.length : Int))) then
      (getI a1.Parts i10).bind fun e16 =>
      (getI b2.Parts i10).bind fun e17 =>
      if (!(e16 == e17)) then
        some (.inr (.inr false))
      else
        some (.inl (wr (i10 + (1 : Int))))
    else
      some (.inr (.inl ()))

def cartridgeref10_SameFile (a1 : File_api) (b2 : File_api) : Option Bool :=
  if (((((((!(a1.Path.l == b2.Path.l)) || (a1.Version != b2.Version)) || (a1.Size != b2.Size)) || (a1.Sum != b2.Sum)) || (a1.Serial != b2.Serial)) || (a1.Gone != b2.Gone)) || ((a1.Parts.length : Int) != (b2.Parts.length : Int))) then
    some false
  else
    (run (X.cartridgeref10_SameFile_s9 a1 b2) (0 : Int)).bind fun o9 => match o9 with
    | .inl _ => X.cartridgeref10_SameFile_e9
    | .inr rv9 => some rv9

/-! cartridge/cartridgeref10.Next -/
def cartridgeref10_Next_e7 (l1 : (List File_api)) (at10 : Int) : Option Int :=
  if (decide (at10 < (0 : Int))) then
    some (1 : Int)
  else
    (getI l1 at10).bind fun e15 =>
    some (wr (e15.Version + (1 : Int)))

def cartridgeref10_Next_j18 (i9 : Int) (at19 : Int) : Option ((Int × Int) ⊕ Int) :=
  some (.inl (at19, (wr (i9 + (1 : Int)))))

def cartridgeref10_Next_s7 (l1 : (List File_api)) (path2 : Str) (s : (Int × Int)) : Option ((Int × Int) ⊕ Int) :=
  match s with
  | (at8, i9) =>
    if (decide (i9 < (l1.length : Int))) then
      (getI l1 i9).bind fun e21 =>
      ((optG (((e21.Path.l == path2.l)) && (!((decide (at8 < (0 : Int)))))) (getI l1 i9))).bind fun e22 =>
      ((optG (((e21.Path.l == path2.l)) && (!((decide (at8 < (0 : Int)))))) (getI l1 at8))).bind fun e23 =>
      if ((e21.Path.l == path2.l) && ((decide (at8 < (0 : Int))) || (decide (e22.Version > e23.Version)))) then
        X.cartridgeref10_Next_j18 i9 i9
      else
        X.cartridgeref10_Next_j18 i9 at8
    else
      some (.inr at8)

def cartridgeref10_Next (l1 : (List File_api)) (path2 : Str) : Option Int :=
  (run (X.cartridgeref10_Next_s7 l1 path2) (((-1) : Int), (0 : Int))).bind fun o7 => match o7 with
  | at10 => X.cartridgeref10_Next_e7 l1 at10

/-! cartridge/cartridgeref10.Serial -/
def cartridgeref10_Serial_e6 (l1 : (List File_api)) (at9 : Int) : Option Int :=
  if (decide (at9 < (0 : Int))) then
    some (1 : Int)
  else
    (getI l1 at9).bind fun e14 =>
    some (wr (e14.Serial + (1 : Int)))

def cartridgeref10_Serial_j17 (i8 : Int) (at18 : Int) : Option ((Int × Int) ⊕ Int) :=
  some (.inl (at18, (wr (i8 + (1 : Int)))))

def cartridgeref10_Serial_s6 (l1 : (List File_api)) (s : (Int × Int)) : Option ((Int × Int) ⊕ Int) :=
  match s with
  | (at7, i8) =>
    if (decide (i8 < (l1.length : Int))) then
      ((optG (!((decide (at7 < (0 : Int))))) (getI l1 i8))).bind fun e20 =>
      ((optG (!((decide (at7 < (0 : Int))))) (getI l1 at7))).bind fun e21 =>
      if ((decide (at7 < (0 : Int))) || (decide (e20.Serial > e21.Serial))) then
        X.cartridgeref10_Serial_j17 i8 i8
      else
        X.cartridgeref10_Serial_j17 i8 at7
    else
      some (.inr at7)

def cartridgeref10_Serial (l1 : (List File_api)) : Option Int :=
  (run (X.cartridgeref10_Serial_s6 l1) (((-1) : Int), (0 : Int))).bind fun o6 => match o6 with
  | at9 => X.cartridgeref10_Serial_e6 l1 at9

/-! cartridge/cartridgeref10.Names -/
def cartridgeref10_Names_e6 (out9 : (List Str)) : Option (List Str) :=
  some out9

def cartridgeref10_Names_j13 (i8 : Int) (out14 : (List Str)) : Option (((List Str) × Int) ⊕ (List Str)) :=
  some (.inl (out14, (wr (i8 + (1 : Int)))))

def cartridgeref10_Names_e21 (r17 : (File_api × Bool)) (out7 : (List Str)) (l1 : (List File_api)) (i8 : Int) (k23 : Int) : Option (((List Str) × Int) ⊕ (List Str)) :=
  ((optG ((!((!r17.2))) && ((decide (k23 < (out7.length : Int))))) (getI out7 k23))).bind fun e26 =>
  ((optG ((!((!r17.2))) && ((decide (k23 < (out7.length : Int))))) (getI l1 i8))).bind fun e27 =>
  if ((!r17.2) || ((decide (k23 < (out7.length : Int))) && (e26.l == e27.Path.l))) then
    X.cartridgeref10_Names_j13 i8 out7
  else
    (need (0 ≤ (0 : Int) ∧ (0 : Int) ≤ k23 ∧ k23 ≤ out7.length)).bind fun u28 =>
    (getI l1 i8).bind fun e29 =>
    (need (0 ≤ k23 ∧ k23 ≤ (out7.length : Int) ∧ (out7.length : Int) ≤ out7.length)).bind fun u30 =>
    (need ((slc out7 (0 : Int) k23).length * 16 ≤ 140737488355328)).bind fun u31 =>
    (need (((slc out7 (0 : Int) k23).length + ([e29.Path] : List Str).length) * 16 ≤ 140737488355328)).bind fun u33 =>
    (need ((((slc out7 (0 : Int) k23) ++ ([e29.Path] : List Str)).length + (slc out7 k23 (out7.length : Int)).length) * 16 ≤ 140737488355328)).bind fun u34 =>
    X.cartridgeref10_Names_j13 i8 (((slc out7 (0 : Int) k23) ++ ([e29.Path] : List Str)) ++ (slc out7 k23 (out7.length : Int)))

def cartridgeref10_Names_s21 (out7 : (List Str)) (l1 : (List File_api)) (i8 : Int) (s : Int) : Option (Int ⊕ Int) :=
  match s with
  | k22 =>
    ((optG ((decide (k22 < (out7.length : Int)))) (getI out7 k22))).bind fun e37 =>
    ((optG ((decide (k22 < (out7.length : Int)))) (getI l1 i8))).bind fun e38 =>
    if ((decide (k22 < (out7.length : Int))) && (Op.bytesLess e37.l e38.Path.l)) then
      some (.inl (wr (k22 + (1 : Int))))
    else
      some (.inr k22)

def cartridgeref10_Names_s6 (l1 : (List File_api)) (s : ((List Str) × Int)) : Option (((List Str) × Int) ⊕ (List Str)) :=
  match s with
  | (out7, i8) =>
    if (decide (i8 < (l1.length : Int))) then
      (getI l1 i8).bind fun e16 =>
      (X.cartridgeref10_Newest l1 e16.Path).bind fun r17 =>
      (run (X.cartridgeref10_Names_s21 out7 l1 i8) (0 : Int)).bind fun o21 => match o21 with
      | k23 => X.cartridgeref10_Names_e21 r17 out7 l1 i8 k23
    else
      some (.inr out7)

def cartridgeref10_Names (l1 : (List File_api)) : Option (List Str) :=
  (run (X.cartridgeref10_Names_s6 l1) (([] : List Str), (0 : Int))).bind fun o6 => match o6 with
  | out9 => X.cartridgeref10_Names_e6 out9

/-! cartridge/cartridgeref1.SameTexts -/
def cartridgeref1_SameTexts_e9  : Option Bool :=
  some true

def cartridgeref1_SameTexts_s9 (a1 : (List Str)) (b2 : (List Str)) (s : Int) : Option (Int ⊕ (Unit ⊕ Bool)) :=
  match s with
  | i10 =>
    if (decide (i10 < (a1.length : Int))) then
      (getI a1 i10).bind fun e16 =>
      (getI b2 i10).bind fun e17 =>
      if (!(e16.l == e17.l)) then
        some (.inr (.inr false))
      else
        some (.inl (wr (i10 + (1 : Int))))
    else
      some (.inr (.inl ()))

def cartridgeref1_SameTexts (a1 : (List Str)) (b2 : (List Str)) : Option Bool :=
  if ((a1.length : Int) != (b2.length : Int)) then
    some false
  else
    (run (X.cartridgeref1_SameTexts_s9 a1 b2) (0 : Int)).bind fun o9 => match o9 with
    | .inl _ => X.cartridgeref1_SameTexts_e9
    | .inr rv9 => some rv9

/-! cartridge/cartridgelaw18.ListingTells -/
def cartridgelaw18_ListingTells_e12 (l1 : (List File_api)) (path2 : Str) (version3 : Int) : Option Bool :=
  (X.listing_Newest l1 path2).bind fun r15 =>
  (X.cartridgeref10_Newest l1 path2).bind fun r18 =>
  (X.listing_Get l1 path2 version3).bind fun r21 =>
  (X.cartridgeref10_GetFile l1 path2 version3).bind fun r24 =>
  (X.cartridgeref10_SameFile r15.1 r18.1).bind fun r27 =>
  ((optG ((r27 && (r15.2 == r18.2))) (X.cartridgeref10_SameFile r21.1 r24.1))).bind fun r28 =>
  ((optG ((((r27 && (r15.2 == r18.2)) && r28) && (r21.2 == r24.2))) (X.listing_Next l1 path2))).bind fun r29 =>
  ((optG ((((r27 && (r15.2 == r18.2)) && r28) && (r21.2 == r24.2))) (X.cartridgeref10_Next l1 path2))).bind fun r30 =>
  ((optG (((((r27 && (r15.2 == r18.2)) && r28) && (r21.2 == r24.2)) && (r29 == r30))) (X.listing_Serial l1))).bind fun r31 =>
  ((optG (((((r27 && (r15.2 == r18.2)) && r28) && (r21.2 == r24.2)) && (r29 == r30))) (X.cartridgeref10_Serial l1))).bind fun r32 =>
  ((optG ((((((r27 && (r15.2 == r18.2)) && r28) && (r21.2 == r24.2)) && (r29 == r30)) && (r31 == r32))) (X.listing_Names l1))).bind fun r33 =>
  ((optG ((((((r27 && (r15.2 == r18.2)) && r28) && (r21.2 == r24.2)) && (r29 == r30)) && (r31 == r32))) (X.cartridgeref10_Names l1))).bind fun r34 =>
  ((optG ((((((r27 && (r15.2 == r18.2)) && r28) && (r21.2 == r24.2)) && (r29 == r30)) && (r31 == r32))) (X.cartridgeref1_SameTexts r33 r34))).bind fun r35 =>
  some ((((((r27 && (r15.2 == r18.2)) && r28) && (r21.2 == r24.2)) && (r29 == r30)) && (r31 == r32)) && r35)

def cartridgelaw18_ListingTells_s12 (l1 : (List File_api)) (s : Int) : Option (Int ⊕ (Unit ⊕ Bool)) :=
  match s with
  | i13 =>
    if (decide (i13 < (l1.length : Int))) then
      (getI l1 i13).bind fun e40 =>
      ((optG (!((decide ((e40.Parts.length : Int) > (20 : Int))))) (getI l1 i13))).bind fun e41 =>
      ((optG (!(((decide ((e40.Parts.length : Int) > (20 : Int))) || (decide (e41.Version > (1099511627776 : Int)))))) (getI l1 i13))).bind fun e42 =>
      if (((decide ((e40.Parts.length : Int) > (20 : Int))) || (decide (e41.Version > (1099511627776 : Int)))) || (decide (e42.Serial > (1099511627776 : Int)))) then
        some (.inr (.inr true))
      else
        some (.inl (wr (i13 + (1 : Int))))
    else
      some (.inr (.inl ()))

def cartridgelaw18_ListingTells (l1 : (List File_api)) (path2 : Str) (version3 : Int) : Option Bool :=
  (X.cartridgelaw18_alive).bind fun r6 =>
  if ((!r6) || (decide ((l1.length : Int) > (40 : Int)))) then
    some r6
  else
    (run (X.cartridgelaw18_ListingTells_s12 l1) (0 : Int)).bind fun o12 => match o12 with
    | .inl _ => X.cartridgelaw18_ListingTells_e12 l1 path2 version3
    | .inr rv12 => some rv12

end X
end Go.AX
