import Derived.Test.YtndjbcnpgggddaaXT
/- What the Go functions compute. -/
set_option linter.unusedVariables false
namespace Go.AX
open Go.AM
namespace X

/-! cartridge/listing.newest -/
def listing_newest_e10 (c24 : Str) (c25 : Int) (c26 : Int) (c27 : Int) (c28 : Int) (c29 : Bool) (c30 : (List Part_api)) (ok31 : Bool) : Option (File_api × Bool) :=
  some ((File_api.mk c24 c25 c26 c27 c28 c29 c30), ok31)

def listing_newest_s10 (l1 : (List File_api)) (path2 : Str) (s : (Str × Int × Int × Int × Int × Bool × (List Part_api) × Bool × Int)) : Option ((Str × Int × Int × Int × Int × Bool × (List Part_api) × Bool × Int) ⊕ (Str × Int × Int × Int × Int × Bool × (List Part_api) × Bool)) :=
  match s with
  | (c13, c14, c15, c16, c17, c18, c19, ok20, x21) =>
    if (decide (x21 < (l1.length : Int))) then
      (getI l1 x21).bind fun e37 =>
      if ((e37.Path.l == path2.l) && ((!ok20) || (decide (e37.Version > c14)))) then
        some (.inl (e37.Path, e37.Version, e37.Size, e37.Sum, e37.Serial, e37.Gone, e37.Parts, true, (wr (x21 + (1 : Int)))))
      else
        some (.inl (c13, c14, c15, c16, c17, c18, c19, ok20, (wr (x21 + (1 : Int)))))
    else
      some (.inr (c13, c14, c15, c16, c17, c18, c19, ok20))

def listing_newest (l1 : (List File_api)) (path2 : Str) : Option (File_api × Bool) :=
  (run (X.listing_newest_s10 l1 path2) ((Str.mk []), (0 : Int), (0 : Int), (0 : Int), (0 : Int), false, ([] : (List Part_api)), false, (0 : Int))).bind fun o10 => match o10 with
  | (c24, c25, c26, c27, c28, c29, c30, ok31) => X.listing_newest_e10 c24 c25 c26 c27 c28 c29 c30 ok31

/-! slices.Clone[[]cartridge/api.Part,cartridge/api.Part] -/
def slices_Clone_Lapi_Part_api_Part (s1 : (List Part_api)) : Option (List Part_api) :=
  nilU s1 fun z5 =>
  if z5 then
    some ([] : (List Part_api))
  else
    (need (s1.length * 88 ≤ 140737488355328)).bind fun u9 =>
    some s1

/-! cartridge/listing.Clone -/
def listing_Clone (f1 : File_api) : Option File_api :=
  (X.slices_Clone_Lapi_Part_api_Part f1.Parts).bind fun r6 =>
  some (File_api.mk f1.Path f1.Version f1.Size f1.Sum f1.Serial f1.Gone r6)

/-! cartridge/listing.there -/
def listing_there (f1 : File_api) (ok2 : Bool) : Option (File_api × Bool) :=
  if ((!ok2) || f1.Gone) then
    some ((File_api.mk (Str.mk []) (0 : Int) (0 : Int) (0 : Int) (0 : Int) false ([] : (List Part_api))), false)
  else
    (X.listing_Clone f1).bind fun r9 =>
    some (r9, true)

/-! cartridge/listing.Newest -/
def listing_Newest (l1 : (List File_api)) (path2 : Str) : Option (File_api × Bool) :=
  (X.listing_newest l1 path2).bind fun r6 =>
  (X.listing_there r6.1 r6.2).bind fun r7 =>
  some (r7.1, r7.2)

/-! cartridge/listing.Next -/
def listing_Next (l1 : (List File_api)) (path2 : Str) : Option Int :=
  (X.listing_newest l1 path2).bind fun r5 =>
  if (!r5.2) then
    some (1 : Int)
  else
    some (wr (r5.1.Version + (1 : Int)))

/-! cartridge/listing.Serial -/
def listing_Serial_e10 (n13 : Int) : Option Int :=
  some (wr (n13 + (1 : Int)))

def listing_Serial_s10 (l1 : (List File_api)) (s : (Int × Int)) : Option ((Int × Int) ⊕ Int) :=
  match s with
  | (n11, x12) =>
    if (decide (x12 < (l1.length : Int))) then
      (getI l1 x12).bind fun e19 =>
      some (.inl ((max n11 e19.Serial), (wr (x12 + (1 : Int)))))
    else
      some (.inr n11)

def listing_Serial (l1 : (List File_api)) : Option Int :=
  if ((l1.length : Int) == (0 : Int)) then
    some (1 : Int)
  else
    (getI l1 (0 : Int)).bind fun e7 =>
    (run (X.listing_Serial_s10 l1) (e7.Serial, (0 : Int))).bind fun o10 => match o10 with
    | n13 => X.listing_Serial_e10 n13

/-! slices.Sort[[]string,string] -/
def slices_Sort_Lstring_string (l1 : List Str) : Option (List Str) :=
  if l1.length < 4611686018427387904 then some (sortS l1) else none

/-! slices.Compact[[]string,string] -/
def slices_Compact_Lstring_string (l1 : List Str) : Option (List Str) :=
  if l1.length < 4611686018427387904 then some (compactS l1) else none

/-! cartridge/listing.Names -/
def listing_Names_e7 (l12 : List Str) : Option (List Str) :=
  (X.slices_Sort_Lstring_string l12).bind fun r14 =>
  (X.slices_Compact_Lstring_string r14).bind fun r16 =>
  some r16

def listing_Names_s7 (l1 : (List File_api)) (s : ((List Str) × Int)) : Option (((List Str) × Int) ⊕ List Str) :=
  match s with
  | (out9, x10) =>
    if (decide (x10 < (l1.length : Int))) then
      (getI l1 x10).bind fun e22 =>
      (X.listing_Newest l1 e22.Path).bind fun r25 =>
      if r25.2 then
        (need ((out9.length + ([e22.Path] : List Str).length) * 16 ≤ 140737488355328)).bind fun u28 =>
        some (.inl ((out9 ++ ([e22.Path] : List Str)), (wr (x10 + (1 : Int)))))
      else
        some (.inl (out9, (wr (x10 + (1 : Int)))))
    else
      some (.inr out9)

def listing_Names (l1 : (List File_api)) : Option (List Str) :=
  (run (X.listing_Names_s7 l1) (([] : List Str), (0 : Int))).bind fun o7 => match o7 with
  | l12 => X.listing_Names_e7 l12

/-! cartridge/cartridgelaw18.alive -/
def cartridgelaw18_alive  : Option Bool :=
  (X.listing_Newest ([(File_api.mk (Str.mk [97]) (3 : Int) (0 : Int) (0 : Int) (0 : Int) false ([] : (List Part_api)))] : List File_api) (Str.mk [97])).bind fun r3 =>
  (X.listing_Next ([] : List File_api) (Str.mk [97])).bind fun r6 =>
  ((optG ((r6 == (1 : Int))) (X.listing_Serial ([] : List File_api)))).bind fun r7 =>
  ((optG (((((r6 == (1 : Int)) && (r7 == (1 : Int))) && r3.2) && (r3.1.Version == (3 : Int)))) (X.listing_Names ([] : List File_api)))).bind fun r8 =>
  some (((((r6 == (1 : Int)) && (r7 == (1 : Int))) && r3.2) && (r3.1.Version == (3 : Int))) && ((r8.length : Int) == (0 : Int)))

/-! cartridge/cartridgelaw18.ListingNames -/
def cartridgelaw18_ListingNames_e16  : Option Bool :=
  some true

def cartridgelaw18_ListingNames_e29 (r24 : (File_api × Bool)) (i17 : Int) (in32 : Bool) : Option (Int ⊕ (Unit ⊕ Bool)) :=
  if (in32 != r24.2) then
    some (.inr (.inr false))
  else
    some (.inl (wr (i17 + (1 : Int))))

def cartridgelaw18_ListingNames_s29 (r9 : (List Str)) (l1 : (List File_api)) (i17 : Int) (s : (Bool × Int)) : Option ((Bool × Int) ⊕ Bool) :=
  match s with
  | (in30, k31) =>
    if (decide (k31 < (r9.length : Int))) then
      ((optG (!in30) (getI r9 k31))).bind fun e38 =>
      ((optG (!in30) (getI l1 i17))).bind fun e39 =>
      some (.inl ((in30 || (e38.l == e39.Path.l)), (wr (k31 + (1 : Int)))))
    else
      some (.inr in30)

def cartridgelaw18_ListingNames_s16 (l1 : (List File_api)) (r9 : (List Str)) (s : Int) : Option (Int ⊕ (Unit ⊕ Bool)) :=
  match s with
  | i17 =>
    if (decide (i17 < (l1.length : Int))) then
      (getI l1 i17).bind fun e23 =>
      (X.listing_Newest l1 e23.Path).bind fun r24 =>
      (run (X.cartridgelaw18_ListingNames_s29 r9 l1 i17) (false, (0 : Int))).bind fun o29 => match o29 with
      | in32 => X.cartridgelaw18_ListingNames_e29 r24 i17 in32
    else
      some (.inr (.inl ()))

def cartridgelaw18_ListingNames_e12 (l1 : (List File_api)) (r9 : (List Str)) : Option Bool :=
  (run (X.cartridgelaw18_ListingNames_s16 l1 r9) (0 : Int)).bind fun o16 => match o16 with
  | .inl _ => X.cartridgelaw18_ListingNames_e16
  | .inr rv16 => some rv16

def cartridgelaw18_ListingNames_s12 (r9 : (List Str)) (l1 : (List File_api)) (s : Int) : Option (Int ⊕ (Unit ⊕ Bool)) :=
  match s with
  | i13 =>
    if (decide (i13 < (r9.length : Int))) then
      (getI r9 i13).bind fun e44 =>
      (X.listing_Newest l1 e44).bind fun r45 =>
      ((optG ((!((!r45.2))) && ((decide (i13 > (0 : Int))))) (getI r9 (wr (i13 - (1 : Int)))))).bind fun e48 =>
      ((optG ((!((!r45.2))) && ((decide (i13 > (0 : Int))))) (getI r9 i13))).bind fun e49 =>
      if ((!r45.2) || ((decide (i13 > (0 : Int))) && (!(Op.bytesLess e48.l e49.l)))) then
        some (.inr (.inr false))
      else
        some (.inl (wr (i13 + (1 : Int))))
    else
      some (.inr (.inl ()))

def cartridgelaw18_ListingNames (l1 : (List File_api)) : Option Bool :=
  (X.cartridgelaw18_alive).bind fun r4 =>
  if ((!r4) || (decide ((l1.length : Int) > (40 : Int)))) then
    some r4
  else
    (X.listing_Names l1).bind fun r9 =>
    (run (X.cartridgelaw18_ListingNames_s12 r9 l1) (0 : Int)).bind fun o12 => match o12 with
    | .inl _ => X.cartridgelaw18_ListingNames_e12 l1 r9
    | .inr rv12 => some rv12

end X
end Go.AX
