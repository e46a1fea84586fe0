import Derived.Test.YtndjbcnpgggddaaXT
/- What the Go functions compute. -/
set_option linter.unusedVariables false
namespace Go.AX
open Go.AM
namespace X

/-! cartridge/listing.newest -/
def listing_newest_e10 (c24 : Str) (c25 : Int) (c26 : Int) (c27 : Int) (c28 : Int) (c29 : Bool) (c30 : (List Part_api)) (ok31 : Bool) : Option (File_api × Bool) :=
  some ((File_api.mk c24 c25 c26 c27 c28 c29 c30), ok31)

def listing_newest_s10 (l1 : (List File_api)) (path2 : Str) (s : (Str × Int × Int × Int × Int × Bool × (List Part_api) × Bool × Int)) : Option ((Str × Int × Int × Int × Int × Bool × (List Part_api) × Bool × Int) ⊕ (Str × Int × Int × Int × Int × Bool × (List Part_api) × Bool)) :=
  match s with
  | (c13, c14, c15, c16, c17, c18, c19, ok20, x21) =>
    if (decide (x21 < (l1.length : Int))) then
      (getI l1 x21).bind fun e37 =>
      if ((e37.Path.l == path2.l) && ((!ok20) || (decide (e37.Version > c14)))) then
        some (.inl (e37.Path, e37.Version, e37.Size, e37.Sum, e37.Serial, e37.Gone, e37.Parts, true, (wr (x21 + (1 : Int)))))
      else
        some (.inl (c13, c14, c15, c16, c17, c18, c19, ok20, (wr (x21 + (1 : Int)))))
    else
      some (.inr (c13, c14, c15, c16, c17, c18, c19, ok20))

def listing_newest (l1 : (List File_api)) (path2 : Str) : Option (File_api × Bool) :=
  (run (X.listing_newest_s10 l1 path2) ((Str.mk []), (0 : Int), (0 : Int), (0 : Int), (0 : Int), false, ([] : (List Part_api)), false, (0 : Int))).bind fun o10 => match o10 with
  | (c24, c25, c26, c27, c28, c29, c30, ok31) => X.listing_newest_e10 c24 c25 c26 c27 c28 c29 c30 ok31

/-! slices.Clone[[]cartridge/api.Part,cartridge/api.Part] -/
def slices_Clone_Lapi_Part_api_Part (s1 : (List Part_api)) : Option (List Part_api) :=
  nilU s1 fun z5 =>
  if z5 then
    some ([] : (List Part_api))
  else
    (need (s1.length * 88 ≤ 140737488355328)).bind fun u9 =>
    some s1

/-! cartridge/listing.Clone -/
def listing_Clone (f1 : File_api) : Option File_api :=
  (X.slices_Clone_Lapi_Part_api_Part f1.Parts).bind fun r6 =>
  some (File_api.mk f1.Path f1.Version f1.Size f1.Sum f1.Serial f1.Gone r6)

/-! cartridge/listing.there -/
def listing_there (f1 : File_api) (ok2 : Bool) : Option (File_api × Bool) :=
  if ((!ok2) || f1.Gone) then
    some ((File_api.mk (Str.mk []) (0 : Int) (0 : Int) (0 : Int) (0 : Int) false ([] : (List Part_api))), false)
  else
    (X.listing_Clone f1).bind fun r9 =>
    some (r9, true)

/-! cartridge/listing.Newest -/
def listing_Newest (l1 : (List File_api)) (path2 : Str) : Option (File_api × Bool) :=
  (X.listing_newest l1 path2).bind fun r6 =>
  (X.listing_there r6.1 r6.2).bind fun r7 =>
  some (r7.1, r7.2)

/-! cartridge/listing.Next -/
def listing_Next (l1 : (List File_api)) (path2 : Str) : Option Int :=
  (X.listing_newest l1 path2).bind fun r5 =>
  if (!r5.2) then
    some (1 : Int)
  else
    some (wr (r5.1.Version + (1 : Int)))

/-! cartridge/listing.Serial -/
def listing_Serial_e10 (n13 : Int) : Option Int :=
  some (wr (n13 + (1 : Int)))

def listing_Serial_s10 (l1 : (List File_api)) (s : (Int × Int)) : Option ((Int × Int) ⊕ Int) :=
  match s with
  | (n11, x12) =>
    if (decide (x12 < (l1.length : Int))) then
      (getI l1 x12).bind fun e19 =>
      some (.inl ((max n11 e19.Serial), (wr (x12 + (1 : Int)))))
    else
      some (.inr n11)

def listing_Serial (l1 : (List File_api)) : Option Int :=
  if ((l1.length : Int) == (0 : Int)) then
    some (1 : Int)
  else
    (getI l1 (0 : Int)).bind fun e7 =>
    (run (X.listing_Serial_s10 l1) (e7.Serial, (0 : Int))).bind fun o10 => match o10 with
    | n13 => X.listing_Serial_e10 n13

/-! slices.Sort[[]string,string] -/
def slices_Sort_Lstring_string (l1 : List Str) : Option (List Str) :=
  if l1.length < 4611686018427387904 then some (sortS l1) else none

/-! slices.Compact[[]string,string] -/
def slices_Compact_Lstring_string (l1 : List Str) : Option (List Str) :=
  if l1.length < 4611686018427387904 then some (compactS l1) else none

/-! cartridge/listing.Names -/
def listing_Names_e7 (l12 : List Str) : Option (List Str) :=
  (X.slices_Sort_Lstring_string l12).bind fun r14 =>
  (X.slices_Compact_Lstring_string r14).bind fun r16 =>
  some r16

def listing_Names_s7 (l1 : (List File_api)) (s : ((List Str) × Int)) : Option (((List Str) × Int) ⊕ List Str) :=
  match s with
  | (out9, x10) =>
    if (decide (x10 < (l1.length : Int))) then
      (getI l1 x10).bind fun e22 =>
      (X.listing_Newest l1 e22.Path).bind fun r25 =>
      if r25.2 then
        (need ((out9.length + ([e22.Path] : List Str).length) * 16 ≤ 140737488355328)).bind fun u28 =>
        some (.inl ((out9 ++ ([e22.Path] : List Str)), (wr (x10 + (1 : Int)))))
      else
        some (.inl (out9, (wr (x10 + (1 : Int)))))
    else
      some (.inr out9)

def listing_Names (l1 : (List File_api)) : Option (List Str) :=
  (run (X.listing_Names_s7 l1) (([] : List Str), (0 : Int))).bind fun o7 => match o7 with
  | l12 => X.listing_Names_e7 l12

/-! cartridge/cartridgelaw18.alive -/
def cartridgelaw18_alive  : Option Bool :=
  (X.listing_Newest ([(File_api.mk (Str.mk [97]) (3 : Int) (0 : Int) (0 : Int) (0 : Int) false ([] : (List Part_api)))] : List File_api) (Str.mk [97])).bind fun r3 =>
  (X.listing_Next ([] : List File_api) (Str.mk [97])).bind fun r6 =>
  ((optG ((r6 == (1 : Int))) (X.listing_Serial ([] : List File_api)))).bind fun r7 =>
  ((optG (((((r6 == (1 : Int)) && (r7 == (1 : Int))) && r3.2) && (r3.1.Version == (3 : Int)))) (X.listing_Names ([] : List File_api)))).bind fun r8 =>
  some (((((r6 == (1 : Int)) && (r7 == (1 : Int))) && r3.2) && (r3.1.Version == (3 : Int))) && ((r8.length : Int) == (0 : Int)))

/-! slices.IndexFunc[[]cartridge/api.File,cartridge/api.File] -/
def slices_IndexFunc_Lapi_File_api_File_e6  : Option Int :=
  some ((-1) : Int)

def slices_IndexFunc_Lapi_File_api_File_s6 (s1 : (List File_api)) (g2 : File_api → Option Bool) (s : Int) : Option (Int ⊕ (Unit ⊕ Int)) :=
  match s with
  | x7 =>
    if (decide (x7 < (s1.length : Int))) then
      (getI s1 x7).bind fun e14 =>
      (g2 e14).bind fun r15 =>
      if r15 then
        some (.inr (.inr x7))
      else
        some (.inl (wr (x7 + (1 : Int))))
    else
      some (.inr (.inl ()))

def slices_IndexFunc_Lapi_File_api_File (s1 : (List File_api)) (g2 : File_api → Option Bool) : Option Int :=
  (run (X.slices_IndexFunc_Lapi_File_api_File_s6 s1 g2) (0 : Int)).bind fun o6 => match o6 with
  | .inl _ => X.slices_IndexFunc_Lapi_File_api_File_e6
  | .inr rv6 => some rv6

/-! cartridge/listing.Get$1 -/
def listing_Get_c1 (f1 : File_api) (c2 : Str) (c3 : Int) : Option Bool :=
  some ((f1.Path.l == c2.l) && (f1.Version == c3))

/-! cartridge/listing.Get -/
def listing_Get (l1 : (List File_api)) (path2 : Str) (version3 : Int) : Option (File_api × Bool) :=
  if (version3 == (0 : Int)) then
    (X.listing_Newest l1 path2).bind fun r9 =>
    some (r9.1, r9.2)
  else
    (X.slices_IndexFunc_Lapi_File_api_File l1 (fun a1 => X.listing_Get_c1 a1 path2 version3)).bind fun r11 =>
    if (decide (r11 < (0 : Int))) then
      some ((File_api.mk (Str.mk []) (0 : Int) (0 : Int) (0 : Int) (0 : Int) false ([] : (List Part_api))), false)
    else
      (getI l1 r11).bind fun e16 =>
      (X.listing_there e16 true).bind fun r17 =>
      some (r17.1, r17.2)

/-! cartridge/cartridgelaw18.ListingNext -/
def cartridgelaw18_ListingNext_j38 (l27 : List File_api) (n1 : Int) (m2 : Int) (want36 : Int) (r29 : (File_api × Bool)) (gone3 : Bool) (r32 : (File_api × Bool)) (names39 : Int) : Option Bool :=
  (X.listing_Next l27 (Str.mk [97])).bind fun r41 =>
  ((optG ((r41 == (wr (n1 + (1 : Int))))) (X.listing_Next l27 (Str.mk [98])))).bind fun r42 =>
  ((optG (((r41 == (wr (n1 + (1 : Int)))) && (r42 == (wr (m2 + (1 : Int)))))) (X.listing_Next l27 (Str.mk [99])))).bind fun r43 =>
  ((optG ((((r41 == (wr (n1 + (1 : Int)))) && (r42 == (wr (m2 + (1 : Int))))) && (r43 == (1 : Int)))) (X.listing_Serial l27))).bind fun r44 =>
  ((optG (((((((r41 == (wr (n1 + (1 : Int)))) && (r42 == (wr (m2 + (1 : Int))))) && (r43 == (1 : Int))) && (r44 == want36)) && (r29.2 == (!gone3))) && (r32.2 == (!gone3)))) (X.listing_Names l27))).bind fun r45 =>
  some (((((((r41 == (wr (n1 + (1 : Int)))) && (r42 == (wr (m2 + (1 : Int))))) && (r43 == (1 : Int))) && (r44 == want36)) && (r29.2 == (!gone3))) && (r32.2 == (!gone3))) && ((r45.length : Int) == names39))

def cartridgelaw18_ListingNext_j35 (gone3 : Bool) (l27 : List File_api) (n1 : Int) (m2 : Int) (r29 : (File_api × Bool)) (r32 : (File_api × Bool)) (want36 : Int) : Option Bool :=
  if gone3 then
    X.cartridgelaw18_ListingNext_j38 l27 n1 m2 want36 r29 gone3 r32 (1 : Int)
  else
    X.cartridgelaw18_ListingNext_j38 l27 n1 m2 want36 r29 gone3 r32 (2 : Int)

def cartridgelaw18_ListingNext_e22 (n1 : Int) (m2 : Int) (gone3 : Bool) (l27 : List File_api) : Option Bool :=
  (X.listing_Newest l27 (Str.mk [97])).bind fun r29 =>
  (X.listing_Get l27 (Str.mk [97]) n1).bind fun r32 =>
  if (decide (m2 ≥ n1)) then
    X.cartridgelaw18_ListingNext_j35 gone3 l27 n1 m2 r29 r32 (wr ((wr ((2 : Int) * m2)) + (1 : Int)))
  else
    X.cartridgelaw18_ListingNext_j35 gone3 l27 n1 m2 r29 r32 (wr ((2 : Int) * n1))

def cartridgelaw18_ListingNext_s22 (m2 : Int) (s : ((List File_api) × Int)) : Option (((List File_api) × Int) ⊕ List File_api) :=
  match s with
  | (l24, i25) =>
    if (decide (i25 < m2)) then
      (need ((l24.length + ([(File_api.mk (Str.mk [98]) (wr (i25 + (1 : Int))) (0 : Int) (0 : Int) (wr ((wr ((2 : Int) * i25)) + (2 : Int))) false ([] : (List Part_api)))] : List File_api).length) * 80 ≤ 140737488355328)).bind fun u51 =>
      some (.inl ((l24 ++ ([(File_api.mk (Str.mk [98]) (wr (i25 + (1 : Int))) (0 : Int) (0 : Int) (wr ((wr ((2 : Int) * i25)) + (2 : Int))) false ([] : (List Part_api)))] : List File_api)), (wr (i25 + (1 : Int)))))
    else
      some (.inr l24)

def cartridgelaw18_ListingNext_e14 (m2 : Int) (n1 : Int) (gone3 : Bool) (l19 : List File_api) : Option Bool :=
  (run (X.cartridgelaw18_ListingNext_s22 m2) (l19, (0 : Int))).bind fun o22 => match o22 with
  | l27 => X.cartridgelaw18_ListingNext_e22 n1 m2 gone3 l27

def cartridgelaw18_ListingNext_s14 (n1 : Int) (gone3 : Bool) (s : ((List File_api) × Int)) : Option (((List File_api) × Int) ⊕ List File_api) :=
  match s with
  | (l16, i17) =>
    if (decide (i17 < n1)) then
      (need ((l16.length + ([(File_api.mk (Str.mk [97]) (wr (i17 + (1 : Int))) (0 : Int) (0 : Int) (wr ((wr ((2 : Int) * i17)) + (1 : Int))) (gone3 && (i17 == (wr (n1 - (1 : Int))))) ([] : (List Part_api)))] : List File_api).length) * 80 ≤ 140737488355328)).bind fun u55 =>
      some (.inl ((l16 ++ ([(File_api.mk (Str.mk [97]) (wr (i17 + (1 : Int))) (0 : Int) (0 : Int) (wr ((wr ((2 : Int) * i17)) + (1 : Int))) (gone3 && (i17 == (wr (n1 - (1 : Int))))) ([] : (List Part_api)))] : List File_api)), (wr (i17 + (1 : Int)))))
    else
      some (.inr l16)

def cartridgelaw18_ListingNext (n1 : Int) (m2 : Int) (gone3 : Bool) : Option Bool :=
  (X.cartridgelaw18_alive).bind fun r6 =>
  if (((((!r6) || (decide (n1 < (1 : Int)))) || (decide (n1 > (20 : Int)))) || (decide (m2 < (1 : Int)))) || (decide (m2 > (20 : Int)))) then
    some r6
  else
    (run (X.cartridgelaw18_ListingNext_s14 n1 gone3) (([] : List File_api), (0 : Int))).bind fun o14 => match o14 with
    | l19 => X.cartridgelaw18_ListingNext_e14 m2 n1 gone3 l19

end X
end Go.AX
