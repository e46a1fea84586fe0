import Derived.Test.YtliahlgkinhjlaaDoorXT
/- What the Go functions compute. -/
set_option linter.unusedVariables false
namespace Go.AX
open Go.AM
namespace X

/-! slices.IndexFunc[[]cartridge/api.Part,cartridge/api.Part] -/
def slices_IndexFunc_Lapi_Part_api_Part_e6  : Option Int :=
  some ((-1) : Int)

def slices_IndexFunc_Lapi_Part_api_Part_s6 (s1 : (List Part_api)) (g2 : Part_api → Option Bool) (s : Int) : Option (Int ⊕ (Unit ⊕ Int)) :=
  match s with
  | x7 =>
    if (decide (x7 < (s1.length : Int))) then
      (getI s1 x7).bind fun e14 =>
      (g2 e14).bind fun r15 =>
      if r15 then
        some (.inr (.inr x7))
      else
        some (.inl (wr (x7 + (1 : Int))))
    else
      some (.inr (.inl ()))

def slices_IndexFunc_Lapi_Part_api_Part (s1 : (List Part_api)) (g2 : Part_api → Option Bool) : Option Int :=
  (run (X.slices_IndexFunc_Lapi_Part_api_Part_s6 s1 g2) (0 : Int)).bind fun o6 => match o6 with
  | .inl _ => X.slices_IndexFunc_Lapi_Part_api_Part_e6
  | .inr rv6 => some rv6

/-! slices.ContainsFunc[[]cartridge/api.Part,cartridge/api.Part] -/
def slices_ContainsFunc_Lapi_Part_api_Part (s1 : (List Part_api)) (g2 : Part_api → Option Bool) : Option Bool :=
  (X.slices_IndexFunc_Lapi_Part_api_Part s1 g2).bind fun r5 =>
  some (decide (r5 ≥ (0 : Int)))

/-! cartridge/catalog.key -/
def catalog_key (h1 : Head_api) : Option Head_api :=
  some (Head_api.mk h1.Path h1.Version h1.Size (0 : Int) (0 : Int) h1.Serial h1.Sum h1.Gone)

/-! cartridge/catalog.Whole$1 -/
def catalog_Whole_c1 (p1 : Part_api) (c2 : (List Part_api)) : Option Bool :=
  (X.catalog_key p1.Head).bind fun r5 =>
  (getI c2 (0 : Int)).bind fun e6 =>
  (X.catalog_key e6.Head).bind fun r7 =>
  some (!(r5 == r7))

/-! cartridge/catalog.next$1 -/
def catalog_next_c1 (p1 : Part_api) (c2 : Int) : Option Bool :=
  some ((p1.Head.From == c2) && ((p1.Head.Size == (0 : Int)) || (decide (p1.Head.Len > (0 : Int)))))

/-! cartridge/catalog.next -/
def catalog_next (parts1 : (List Part_api)) (at2 : Int) : Option Int :=
  (X.slices_IndexFunc_Lapi_Part_api_Part parts1 (fun a1 => X.catalog_next_c1 a1 at2)).bind fun r5 =>
  some r5

/-! cartridge/catalog.chain -/
def catalog_chain_e9  : Option ((List Part_api) × Bool) :=
  some (([] : (List Part_api)), false)

def catalog_chain_s9 (e4 : Part_api) (parts1 : (List Part_api)) (s : ((List Part_api) × Int)) : Option (((List Part_api) × Int) ⊕ (Unit ⊕ ((List Part_api) × Bool))) :=
  match s with
  | (out11, at12) =>
    if (decide (e4.Head.Size ≥ (0 : Int))) then
      (X.catalog_next parts1 at12).bind fun r17 =>
      ((optG (!((decide (r17 < (0 : Int))))) (getI parts1 r17))).bind fun e20 =>
      if ((decide (r17 < (0 : Int))) || (decide (e20.Head.Len > (wr (e4.Head.Size - at12))))) then
        some (.inr (.inr (([] : (List Part_api)), false)))
      else
        (getI parts1 r17).bind fun e23 =>
        (need ((out11.length + ([e23] : List Part_api).length) * 88 ≤ 140737488355328)).bind fun u24 =>
        (getI parts1 r17).bind fun e27 =>
        if ((wr (at12 + e27.Head.Len)) == e4.Head.Size) then
          some (.inr (.inr ((out11 ++ ([e23] : List Part_api)), true)))
        else
          (getI parts1 r17).bind fun e31 =>
          if (decide (e31.Head.Len ≤ (0 : Int))) then
            some (.inr (.inr (([] : (List Part_api)), false)))
          else
            some (.inl ((out11 ++ ([e23] : List Part_api)), (wr (at12 + e27.Head.Len))))
    else
      some (.inr (.inl ()))

def catalog_chain (parts1 : (List Part_api)) : Option ((List Part_api) × Bool) :=
  (getI parts1 (0 : Int)).bind fun e4 =>
  (run (X.catalog_chain_s9 e4 parts1) (([] : List Part_api), (0 : Int))).bind fun o9 => match o9 with
  | .inl _ => X.catalog_chain_e9
  | .inr rv9 => some rv9

/-! cartridge/catalog.Whole -/
def catalog_Whole (parts1 : (List Part_api)) : Option (File_api × Bool) :=
  ((optG (!(((parts1.length : Int) == (0 : Int)))) (X.slices_ContainsFunc_Lapi_Part_api_Part parts1 (fun a1 => X.catalog_Whole_c1 a1 parts1)))).bind fun r6 =>
  if (((parts1.length : Int) == (0 : Int)) || r6) then
    some ((File_api.mk (Str.mk []) (0 : Int) (0 : Int) (0 : Int) (0 : Int) false ([] : (List Part_api))), false)
  else
    (X.catalog_chain parts1).bind fun r9 =>
    if (!r9.2) then
      some ((File_api.mk (Str.mk []) (0 : Int) (0 : Int) (0 : Int) (0 : Int) false ([] : (List Part_api))), false)
    else
      (getI parts1 (0 : Int)).bind fun e14 =>
      some ((File_api.mk e14.Head.Path e14.Head.Version e14.Head.Size e14.Head.Sum e14.Head.Serial e14.Head.Gone r9.1), true)

/-! cartridge/catalog.From -/
def catalog_From_nil_e13  : Option (List File_api) :=
  some ([] : List File_api)

def catalog_From_nil_s13 (s : Unit) : Option (Unit ⊕ Unit) :=
  match s with
  | () =>
    if (decide ((0 : Int) < (([] : List Head_api).length : Int))) then
      (getI ([] : List Head_api) (0 : Int)).bind fun e20 =>
      none
    else
      some (.inr ())

def catalog_From_nil_e7  : Option (List File_api) :=
  (run (X.catalog_From_nil_s13) ()).bind fun o13 => match o13 with
  | _ => X.catalog_From_nil_e13

def catalog_From_nil_s7 (s : Unit) : Option (Unit ⊕ Unit) :=
  match s with
  | () =>
    some (.inr ())

def catalog_From_nil  : Option (List File_api) :=
  (run (X.catalog_From_nil_s7) ()).bind fun o7 => match o7 with
  | _ => X.catalog_From_nil_e7

/-! cartridge/cartridgelaw17.alive -/
def cartridgelaw17_alive  : Option Bool :=
  (X.catalog_Whole ([(Part_api.mk (Head_api.mk (Str.mk [97]) (1 : Int) (0 : Int) (0 : Int) (0 : Int) (1 : Int) (0 : Int) false) (1 : Int) (1 : Int))] : List Part_api)).bind fun r3 =>
  (X.catalog_From_nil).bind fun r6 =>
  some (((((r6.length : Int) == (0 : Int)) && r3.2) && (r3.1.Path.l == (Str.mk [97]).l)) && ((r3.1.Parts.length : Int) == (1 : Int)))

/-! cartridge/cartridgelaw17.CatalogGaps -/
def cartridgelaw17_CatalogGaps_e28  : Option Bool :=
  some true

def cartridgelaw17_CatalogGaps_s28 (n1 : Int) (r18 : (File_api × Bool)) (s : Int) : Option (Int ⊕ (Unit ⊕ Bool)) :=
  match s with
  | i30 =>
    if (decide (i30 < n1)) then
      (getI r18.1.Parts i30).bind fun e36 =>
      if (e36.Label != (wr (i30 + (1 : Int)))) then
        some (.inr (.inr false))
      else
        some (.inl (wr (i30 + (1 : Int))))
    else
      some (.inr (.inl ()))

def cartridgelaw17_CatalogGaps_e13 (whole3 : Bool) (n1 : Int) (l16 : (List Part_api)) : Option Bool :=
  (X.catalog_Whole l16).bind fun r18 =>
  if (!whole3) then
    some ((!r18.2) && ((r18.1.Parts.length : Int) == (0 : Int)))
  else
    if ((!r18.2) || ((r18.1.Parts.length : Int) != n1)) then
      some false
    else
      (run (X.cartridgelaw17_CatalogGaps_s28 n1 r18) (0 : Int)).bind fun o28 => match o28 with
      | .inl _ => X.cartridgelaw17_CatalogGaps_e28
      | .inr rv28 => some rv28

def cartridgelaw17_CatalogGaps_j40 (i15 : Int) (l41 : (List Part_api)) : Option (((List Part_api) × Int) ⊕ (List Part_api)) :=
  some (.inl (l41, (wr (i15 + (1 : Int)))))

def cartridgelaw17_CatalogGaps_s13 (n1 : Int) (missing2 : Int) (whole3 : Bool) (s : ((List Part_api) × Int)) : Option (((List Part_api) × Int) ⊕ (List Part_api)) :=
  match s with
  | (l14, i15) =>
    if (decide (i15 < n1)) then
      if ((i15 == missing2) && (!whole3)) then
        X.cartridgelaw17_CatalogGaps_j40 i15 l14
      else
        (need ((([(Part_api.mk (Head_api.mk (Str.mk [97]) (1 : Int) (wr ((10 : Int) * n1)) (wr ((10 : Int) * i15)) (10 : Int) (1 : Int) (0 : Int) false) (wr (i15 + (1 : Int))) (1 : Int))] : List Part_api).length + l14.length) * 88 ≤ 140737488355328)).bind fun u45 =>
        X.cartridgelaw17_CatalogGaps_j40 i15 (([(Part_api.mk (Head_api.mk (Str.mk [97]) (1 : Int) (wr ((10 : Int) * n1)) (wr ((10 : Int) * i15)) (10 : Int) (1 : Int) (0 : Int) false) (wr (i15 + (1 : Int))) (1 : Int))] : List Part_api) ++ l14)
    else
      some (.inr l14)

def cartridgelaw17_CatalogGaps (n1 : Int) (missing2 : Int) (whole3 : Bool) : Option Bool :=
  (X.cartridgelaw17_alive).bind fun r6 =>
  if (((((!r6) || (decide (n1 < (1 : Int)))) || (decide (n1 > (10 : Int)))) || (decide (missing2 < (0 : Int)))) || (decide (missing2 ≥ n1))) then
    some r6
  else
    (run (X.cartridgelaw17_CatalogGaps_s13 n1 missing2 whole3) (([] : List Part_api), (0 : Int))).bind fun o13 => match o13 with
    | l16 => X.cartridgelaw17_CatalogGaps_e13 whole3 n1 l16

end X
end Go.AX
