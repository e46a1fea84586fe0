import Derived.Test.YtpipaggkbiapjaaDoorXT
/- What the Go functions compute. -/
set_option linter.unusedVariables false
namespace Go.AX
open Go.AM
namespace X
noncomputable section

/-! slices.Clone[[]byte,byte] -/
def slices_Clone_Lbyte_byte (s1 : (List UInt8)) : Option (List UInt8) :=
  nilU s1 fun z5 =>
  if z5 then
    some ([] : (List UInt8))
  else
    (need (s1.length * 1 ≤ 140737488355328)).bind fun u9 =>
    some s1

/-! cartridge/code.NewReader -/
def code_NewReader (b1 : (List UInt8)) : Option ((List UInt8) × Bool) :=
  (X.slices_Clone_Lbyte_byte b1).bind fun r4 =>
  some ((Reader_code.mk r4 false).b_, (Reader_code.mk r4 false).bad_)

/-! (*cartridge/code.Reader).take -/
def code_Reader_take (n4 : Int) (b1 : (List UInt8)) (bad2 : Bool) : Option ((List UInt8) × ((List UInt8) × Bool)) :=
  if bad2 then
    some (([] : (List UInt8)), (b1, bad2))
  else
    if (decide (n4 > (b1.length : Int))) then
      some (([] : (List UInt8)), (([] : (List UInt8)), true))
    else
      (need (0 ≤ (0 : Int) ∧ (0 : Int) ≤ n4 ∧ n4 ≤ b1.length)).bind fun u14 =>
      (need (0 ≤ n4 ∧ n4 ≤ (b1.length : Int) ∧ (b1.length : Int) ≤ b1.length)).bind fun u16 =>
      some ((slc b1 (0 : Int) n4), ((slc b1 n4 (b1.length : Int)), bad2))

/-! (*cartridge/code.Reader).Byte -/
def code_Reader_Byte (b1 : (List UInt8)) (bad2 : Bool) : Option (UInt8 × ((List UInt8) × Bool)) :=
  (X.code_Reader_take (1 : Int) b1 bad2).bind fun r6 =>
  if ((r6.1.length : Int) == (0 : Int)) then
    some ((0 : UInt8), (r6.2.1, r6.2.2))
  else
    (getI r6.1 (0 : Int)).bind fun e12 =>
    some (e12, (r6.2.1, r6.2.2))

/-! (*cartridge/code.Reader).Text -/
def code_Reader_Text (b1 : (List UInt8)) (bad2 : Bool) : Option (Str × ((List UInt8) × Bool)) :=
  (X.code_Reader_Byte b1 bad2).bind fun r6 =>
  (X.code_Reader_take (r6.1.toNat : Int) r6.2.1 r6.2.2).bind fun r8 =>
  some ((Str.mk r8.1), (r8.2.1, r8.2.2))

/-! (*cartridge/code.Reader).Int -/
def code_Reader_Int_e10 (r8 : ((List UInt8) × ((List UInt8) × Bool))) (n15 : UInt32) : Option (Int × ((List UInt8) × Bool)) :=
  some ((n15.toNat : Int), (r8.2.1, r8.2.2))

def code_Reader_Int_s10 (r8 : ((List UInt8) × ((List UInt8) × Bool))) (s : (UInt32 × Int)) : Option ((UInt32 × Int) ⊕ UInt32) :=
  match s with
  | (n12, x13) =>
    if (decide (x13 < (r8.1.length : Int))) then
      (getI r8.1 x13).bind fun e21 =>
      some (.inl (((shl32 n12 8) ||| (u32 (e21.toNat : Int))), (wr (x13 + (1 : Int)))))
    else
      some (.inr n12)

def code_Reader_Int (b1 : (List UInt8)) (bad2 : Bool) : Option (Int × ((List UInt8) × Bool)) :=
  (X.code_Reader_take (4 : Int) b1 bad2).bind fun r8 =>
  (run (X.code_Reader_Int_s10 r8) ((0 : UInt32), (0 : Int))).bind fun o10 => match o10 with
  | n15 => X.code_Reader_Int_e10 r8 n15

/-! (*cartridge/code.Reader).Bad -/
def code_Reader_Bad (b1 : (List UInt8)) (bad2 : Bool) : Option Bool :=
  some bad2

/-! strings.Count -/
def strings_Count_k47 (s1 : Str) : Option Int :=
  (getI (Str.mk [47]).l (0 : Int)).bind fun x8 =>
  some ((s1.l.count x8 : Nat) : Int)

/-! internal/stringslite.IndexByte -/
def stringslite_IndexByte (s1 : Str) (c2 : UInt8) : Option Int :=
  some (Lib.indexByte s1.l c2)

/-! internal/stringslite.Index -/
def stringslite_Index_k47 (s1 : Str) : Option Int :=
  if ((Str.mk [47]).l == s1.l) then
    some (0 : Int)
  else
    (getI (Str.mk [47]).l (0 : Int)).bind fun x9 =>
    (X.stringslite_IndexByte s1 x9).bind fun r10 =>
    some r10

/-! strings.Index -/
def strings_Index_k47 (s1 : Str) : Option Int :=
  (X.stringslite_Index_k47 s1).bind fun r4 =>
  some r4

/-! strings.genSplit -/
def strings_genSplit_k47_0_1_e17 (s22 : Str) (l24 : List Str) (i25 : Int) : Option (List Str) :=
  (getI l24 i25).bind fun e27 =>
  (need ((0 ≤ (0 : Int) ∧ (0 : Int) ≤ (wr (i25 + (1 : Int))) ∧ (wr (i25 + (1 : Int))) ≤ (l24.set i25.toNat s22).length) ∧ ((0 : Int) = 0 ∨ (0 : Int) < (l24.set i25.toNat s22).length))).bind fun u29 =>
  some (slc (l24.set i25.toNat s22) (0 : Int) (wr (i25 + (1 : Int))))

def strings_genSplit_k47_0_1_s17 (r9 : Int) (s1 : Str) (s : (Str × (List Str) × Int)) : Option ((Str × (List Str) × Int) ⊕ (Str × List Str × Int)) :=
  match s with
  | (s18, a20, i21) =>
    if (decide (i21 < (wr ((min (wr (r9 + (1 : Int))) (wr ((s1.l.length : Int) + (1 : Int)))) - (1 : Int))))) then
      (X.strings_Index_k47 s18).bind fun r33 =>
      if (decide (r33 < (0 : Int))) then
        some (.inr (s18, a20, i21))
      else
        (need (0 ≤ (0 : Int) ∧ (0 : Int) ≤ (wr (r33 + (0 : Int))) ∧ (wr (r33 + (0 : Int))) ≤ s18.l.length)).bind fun u37 =>
        (getI a20 i21).bind fun e38 =>
        (need (0 ≤ (wr (r33 + (1 : Int))) ∧ (wr (r33 + (1 : Int))) ≤ (s18.l.length : Int) ∧ (s18.l.length : Int) ≤ s18.l.length)).bind fun u40 =>
        some (.inl ((Str.mk (slc s18.l (wr (r33 + (1 : Int))) (s18.l.length : Int))), (a20.set i21.toNat (Str.mk (slc s18.l (0 : Int) (wr (r33 + (0 : Int)))))), (wr (i21 + (1 : Int)))))
    else
      some (.inr (s18, a20, i21))

def strings_genSplit_k47_0_1 (s1 : Str) : Option (List Str) :=
  (X.strings_Count_k47 s1).bind fun r9 =>
  (need (0 ≤ (min (wr (r9 + (1 : Int))) (wr ((s1.l.length : Int) + (1 : Int)))) ∧ (min (wr (r9 + (1 : Int))) (wr ((s1.l.length : Int) + (1 : Int)))) * 16 ≤ 281474976710656)).bind fun u12 =>
  (run (X.strings_genSplit_k47_0_1_s17 r9 s1) (s1, (List.replicate (min (wr (r9 + (1 : Int))) (wr ((s1.l.length : Int) + (1 : Int)))).toNat (Str.mk [])), (0 : Int))).bind fun o17 => match o17 with
  | (s22, l24, i25) => X.strings_genSplit_k47_0_1_e17 s22 l24 i25

/-! strings.Split -/
def strings_Split_k47 (s1 : Str) : Option (List Str) :=
  (X.strings_genSplit_k47_0_1 s1).bind fun r4 =>
  some r4

/-! slices.IndexFunc[[]string,string] -/
def slices_IndexFunc_Lstring_string_e6  : Option Int :=
  some ((-1) : Int)

def slices_IndexFunc_Lstring_string_s6 (s1 : (List Str)) (g2 : Str → Option Bool) (s : Int) : Option (Int ⊕ (Unit ⊕ Int)) :=
  match s with
  | x7 =>
    if (decide (x7 < (s1.length : Int))) then
      (getI s1 x7).bind fun e14 =>
      (g2 e14).bind fun r15 =>
      if r15 then
        some (.inr (.inr x7))
      else
        some (.inl (wr (x7 + (1 : Int))))
    else
      some (.inr (.inl ()))

def slices_IndexFunc_Lstring_string (s1 : (List Str)) (g2 : Str → Option Bool) : Option Int :=
  (run (X.slices_IndexFunc_Lstring_string_s6 s1 g2) (0 : Int)).bind fun o6 => match o6 with
  | .inl _ => X.slices_IndexFunc_Lstring_string_e6
  | .inr rv6 => some rv6

/-! slices.ContainsFunc[[]string,string] -/
def slices_ContainsFunc_Lstring_string (s1 : (List Str)) (g2 : Str → Option Bool) : Option Bool :=
  (X.slices_IndexFunc_Lstring_string s1 g2).bind fun r5 =>
  some (decide (r5 ≥ (0 : Int)))

/-! strings.indexFunc -/
open Classical in
def strings_indexFunc (s1 : Str) (g2 : I32 → Option Bool) (truth3 : Bool) : Option Int :=
  if ∀ x : Nat, x ≤ 1114111 → (g2 (I32.mk x)).isSome = true then some (Lib.idxFunc (fun x => (g2 (I32.mk x)).getD false) truth3 s1.ba) else none

/-! strings.IndexFunc -/
def strings_IndexFunc (s1 : Str) (g2 : I32 → Option Bool) : Option Int :=
  (X.strings_indexFunc s1 g2 true).bind fun r5 =>
  some r5

/-! strings.ContainsFunc -/
def strings_ContainsFunc (s1 : Str) (g2 : I32 → Option Bool) : Option Bool :=
  (X.strings_IndexFunc s1 g2).bind fun r5 =>
  some (decide (r5 ≥ (0 : Int)))

/-! cartridge/path.other -/
def path_other (c1 : I32) : Option Bool :=
  some ((((((decide (c1.n < (I32.mk (97)).n)) || (decide (c1.n > (I32.mk (122)).n))) && ((decide (c1.n < (I32.mk (48)).n)) || (decide (c1.n > (I32.mk (57)).n)))) && (c1.n != (I32.mk (46)).n)) && (c1.n != (I32.mk (45)).n)) && (c1.n != (I32.mk (95)).n))

/-! cartridge/path.wrong -/
def path_wrong (s1 : Str) : Option Bool :=
  ((optG (!((((s1.l == (Str.mk []).l) || (s1.l == (Str.mk [46]).l)) || (s1.l == (Str.mk [46, 46]).l)))) (X.strings_ContainsFunc s1 (fun a1 => X.path_other a1)))).bind fun r4 =>
  some ((((s1.l == (Str.mk []).l) || (s1.l == (Str.mk [46]).l)) || (s1.l == (Str.mk [46, 46]).l)) || r4)

/-! cartridge/path.Right -/
def path_Right (s1 : Str) : Option Bool :=
  ((optG ((decide ((s1.l.length : Int) ≤ (24 : Int)))) (X.strings_Split_k47 s1))).bind fun r4 =>
  ((optG ((decide ((s1.l.length : Int) ≤ (24 : Int)))) (X.slices_ContainsFunc_Lstring_string r4 (fun a1 => X.path_wrong a1)))).bind fun r5 =>
  some ((decide ((s1.l.length : Int) ≤ (24 : Int))) && (!r5))

/-! cartridge/record.within -/
def record_within (n1 : Int) (low2 : Int) (high3 : Int) : Option Bool :=
  some ((decide (n1 ≥ low2)) && (decide (n1 ≤ high3)))

/-! cartridge/record.RightHead -/
def record_RightHead (h1 : Head_api) : Option Bool :=
  (X.path_Right h1.Path).bind fun r5 =>
  ((optG (!((!r5))) (X.record_within h1.Version (1 : Int) (1073741824 : Int)))).bind fun r6 =>
  ((optG (!(((!r5) || (!r6)))) (X.record_within h1.Serial (1 : Int) (1073741824 : Int)))).bind fun r7 =>
  ((optG (!((((!r5) || (!r6)) || (!r7)))) (X.record_within h1.Size (0 : Int) (4000 : Int)))).bind fun r8 =>
  ((optG (!(((((!r5) || (!r6)) || (!r7)) || (!r8)))) (X.record_within h1.Sum (0 : Int) (4294967295 : Int)))).bind fun r9 =>
  if (((((!r5) || (!r6)) || (!r7)) || (!r8)) || (!r9)) then
    some false
  else
    (X.record_within h1.From (0 : Int) h1.Size).bind fun r13 =>
    ((optG (!((!r13))) (X.record_within h1.Len (0 : Int) (wr (h1.Size - h1.From))))).bind fun r14 =>
    if (((!r13) || (!r14)) || ((h1.Len == (0 : Int)) && (decide (h1.Size > (0 : Int))))) then
      some false
    else
      some ((!h1.Gone) || ((h1.Size == (0 : Int)) && (h1.Sum == (0 : Int))))

/-! (*cartridge/code.Writer).Text -/
def code_Writer_Text (s4 : Str) (b1 : (List UInt8)) : Option (List UInt8) :=
  (need (0 ≤ (0 : Int) ∧ (0 : Int) ≤ (min (s4.l.length : Int) (255 : Int)) ∧ (min (s4.l.length : Int) (255 : Int)) ≤ s4.l.length)).bind fun u6 =>
  (need ((b1.length + ([(u8 ((Str.mk (slc s4.l (0 : Int) (min (s4.l.length : Int) (255 : Int)))).l.length : Int))] : List UInt8).length) * 1 ≤ 140737488355328)).bind fun u9 =>
  (need (((b1 ++ ([(u8 ((Str.mk (slc s4.l (0 : Int) (min (s4.l.length : Int) (255 : Int)))).l.length : Int))] : List UInt8)).length + (Str.mk (slc s4.l (0 : Int) (min (s4.l.length : Int) (255 : Int)))).l.length) * 1 ≤ 140737488355328)).bind fun u10 =>
  some ((b1 ++ ([(u8 ((Str.mk (slc s4.l (0 : Int) (min (s4.l.length : Int) (255 : Int)))).l.length : Int))] : List UInt8)) ++ (Str.mk (slc s4.l (0 : Int) (min (s4.l.length : Int) (255 : Int)))).l)

/-! (*cartridge/code.Writer).Int -/
def code_Writer_Int (n4 : Int) (b1 : (List UInt8)) : Option (List UInt8) :=
  (need ((b1.length + ([(u8 ((shr32 (u32 n4) 24).toNat : Int)), (u8 ((shr32 (u32 n4) 16).toNat : Int)), (u8 ((shr32 (u32 n4) 8).toNat : Int)), (u8 ((u32 n4).toNat : Int))] : List UInt8).length) * 1 ≤ 140737488355328)).bind fun u6 =>
  some (b1 ++ ([(u8 ((shr32 (u32 n4) 24).toNat : Int)), (u8 ((shr32 (u32 n4) 16).toNat : Int)), (u8 ((shr32 (u32 n4) 8).toNat : Int)), (u8 ((u32 n4).toNat : Int))] : List UInt8))

/-! (*cartridge/code.Writer).Byte -/
def code_Writer_Byte (c4 : UInt8) (b1 : (List UInt8)) : Option (List UInt8) :=
  (need ((b1.length + ([c4] : List UInt8).length) * 1 ≤ 140737488355328)).bind fun u5 =>
  some (b1 ++ ([c4] : List UInt8))

/-! slices.Clone[[]byte,byte] -/
def slices_Clone_Lbyte_byte_own (s1 : (List UInt8)) : Option (List UInt8) :=
  nilU s1 fun z6 =>
  if z6 then
    some ([] : (List UInt8))
  else
    (need (s1.length * 1 ≤ 140737488355328)).bind fun u9 =>
    some s1

/-! (*cartridge/code.Writer).Bytes -/
def code_Writer_Bytes (b1 : (List UInt8)) : Option (List UInt8) :=
  (X.slices_Clone_Lbyte_byte_own b1).bind fun r6 =>
  some r6

/-! cartridge/record.HeadBytes -/
def record_HeadBytes_j25 (l23 : List UInt8) (gone28 : UInt8) : Option (List UInt8) :=
  (X.code_Writer_Byte gone28 l23).bind fun r30 =>
  (X.code_Writer_Bytes r30).bind fun r34 =>
  some r34

def record_HeadBytes_e16 (h1 : Head_api) (l23 : List UInt8) : Option (List UInt8) :=
  if h1.Gone then
    X.record_HeadBytes_j25 l23 (1 : UInt8)
  else
    X.record_HeadBytes_j25 l23 (0 : UInt8)

def record_HeadBytes_s16 (h1 : Head_api) (s : ((List UInt8) × Int)) : Option (((List UInt8) × Int) ⊕ List UInt8) :=
  match s with
  | (l19, x20) =>
    if (decide (x20 < (([h1.Version, h1.Size, h1.From, h1.Len, h1.Serial, h1.Sum] : List Int).length : Int))) then
      (getI ([h1.Version, h1.Size, h1.From, h1.Len, h1.Serial, h1.Sum] : List Int) x20).bind fun e40 =>
      (X.code_Writer_Int e40 l19).bind fun r41 =>
      some (.inl (r41, (wr (x20 + (1 : Int)))))
    else
      some (.inr l19)

def record_HeadBytes (h1 : Head_api) : Option (List UInt8) :=
  (X.record_RightHead h1).bind fun r5 =>
  if (!r5) then
    some ([] : (List UInt8))
  else
    (X.code_Writer_Text h1.Path ([] : List UInt8)).bind fun r11 =>
    (run (X.record_HeadBytes_s16 h1) (r11, (0 : Int))).bind fun o16 => match o16 with
    | l23 => X.record_HeadBytes_e16 h1 l23

/-! slices.Equal[[]byte,byte] -/
def slices_Equal_Lbyte_byte_e9  : Option Bool :=
  some true

def slices_Equal_Lbyte_byte_s9 (s11 : (List UInt8)) (s22 : (List UInt8)) (s : Int) : Option (Int ⊕ (Unit ⊕ Bool)) :=
  match s with
  | x10 =>
    if (decide (x10 < (s11.length : Int))) then
      (getI s11 x10).bind fun e17 =>
      (getI s22 x10).bind fun e18 =>
      if (e17 != e18) then
        some (.inr (.inr false))
      else
        some (.inl (wr (x10 + (1 : Int))))
    else
      some (.inr (.inl ()))

def slices_Equal_Lbyte_byte (s11 : (List UInt8)) (s22 : (List UInt8)) : Option Bool :=
  if ((s11.length : Int) != (s22.length : Int)) then
    some false
  else
    (run (X.slices_Equal_Lbyte_byte_s9 s11 s22) (0 : Int)).bind fun o9 => match o9 with
    | .inl _ => X.slices_Equal_Lbyte_byte_e9
    | .inr rv9 => some rv9

/-! cartridge/record.ReadHead -/
def record_ReadHead (b1 : (List UInt8)) : Option (Head_api × Int) :=
  (X.code_NewReader b1).bind fun r5 =>
  (X.code_Reader_Text r5.1 r5.2).bind fun r8 =>
  (X.code_Reader_Int r8.2.1 r8.2.2).bind fun r18 =>
  (X.code_Reader_Int r18.2.1 r18.2.2).bind fun r24 =>
  (X.code_Reader_Int r24.2.1 r24.2.2).bind fun r30 =>
  (X.code_Reader_Int r30.2.1 r30.2.2).bind fun r36 =>
  (X.code_Reader_Int r36.2.1 r36.2.2).bind fun r42 =>
  (X.code_Reader_Int r42.2.1 r42.2.2).bind fun r48 =>
  (X.code_Reader_Byte r48.2.1 r48.2.2).bind fun r53 =>
  (X.code_Reader_Bad r53.2.1 r53.2.2).bind fun r57 =>
  ((optG (!r57) (X.record_RightHead (Head_api.mk (Head_api.mk r8.1 (0 : Int) (0 : Int) (0 : Int) (0 : Int) (0 : Int) (0 : Int) false).Path r18.1 r24.1 r30.1 r36.1 r42.1 r48.1 (r53.1 == (1 : UInt8)))))).bind fun r58 =>
  ((optG (!((r57 || (!r58)))) (X.record_HeadBytes (Head_api.mk (Head_api.mk r8.1 (0 : Int) (0 : Int) (0 : Int) (0 : Int) (0 : Int) (0 : Int) false).Path r18.1 r24.1 r30.1 r36.1 r42.1 r48.1 (r53.1 == (1 : UInt8)))))).bind fun r59 =>
  ((optG (!((r57 || (!r58)))) (X.slices_Equal_Lbyte_byte b1 r59))).bind fun r60 =>
  if ((r57 || (!r58)) || (!r60)) then
    some ((Head_api.mk (Str.mk []) (0 : Int) (0 : Int) (0 : Int) (0 : Int) (0 : Int) (0 : Int) false), (2 : Int))
  else
    some ((Head_api.mk (Head_api.mk r8.1 (0 : Int) (0 : Int) (0 : Int) (0 : Int) (0 : Int) (0 : Int) false).Path r18.1 r24.1 r30.1 r36.1 r42.1 r48.1 (r53.1 == (1 : UInt8))), (0 : Int))

/-! cartridge/cartridgelaw10.num -/
def cartridgelaw10_num (e1 : Int) : Option Int :=
  some e1

/-! cartridge/cartridgelaw10.alive -/
def cartridgelaw10_alive  : Option Bool :=
  (X.record_ReadHead ([] : List UInt8)).bind fun r3 =>
  (X.record_HeadBytes (Head_api.mk (Str.mk [97]) (1 : Int) (0 : Int) (0 : Int) (0 : Int) (1 : Int) (0 : Int) false)).bind fun r6 =>
  (X.record_ReadHead r6).bind fun r7 =>
  (X.cartridgelaw10_num r3.2).bind fun r10 =>
  ((optG ((r10 == (2 : Int))) (X.cartridgelaw10_num r7.2))).bind fun r11 =>
  ((optG ((((r10 == (2 : Int)) && (r11 == (0 : Int))) && (r7.1.Path.l == (Str.mk [97]).l))) (X.record_RightHead r7.1))).bind fun r12 =>
  some ((((r10 == (2 : Int)) && (r11 == (0 : Int))) && (r7.1.Path.l == (Str.mk [97]).l)) && r12)

/-! cartridge/cartridgeref1.PathParts -/
def cartridgeref1_PathParts_e11 (l17 : List Str) : Option (List Str) :=
  some l17

def cartridgeref1_PathParts_j21 (i15 : Int) (l23 : List Str) (w24 : Str) : Option (((List Str) × Str × Int) ⊕ (List Str ⊕ (List Str))) :=
  some (.inl (l23, w24, (wr (i15 + (1 : Int)))))

def cartridgeref1_PathParts_s11 (s1 : Str) (s : ((List Str) × Str × Int)) : Option (((List Str) × Str × Int) ⊕ (List Str ⊕ (List Str))) :=
  match s with
  | (l13, w14, i15) =>
    if (decide (i15 ≤ (s1.l.length : Int))) then
      ((optG (!((i15 == (s1.l.length : Int)))) (getI s1.l i15))).bind fun x27 =>
      if ((i15 == (s1.l.length : Int)) || (x27 == (47 : UInt8))) then
        if (((w14.l == (Str.mk []).l) || (w14.l == (Str.mk [46]).l)) || (w14.l == (Str.mk [46, 46]).l)) then
          some (.inr (.inr ([] : (List Str))))
        else
          (need ((l13.length + ([w14] : List Str).length) * 16 ≤ 140737488355328)).bind fun u33 =>
          X.cartridgeref1_PathParts_j21 i15 (l13 ++ ([w14] : List Str)) (Str.mk [])
      else
        (getI s1.l i15).bind fun x36 =>
        if (!((((((decide (x36 ≥ (97 : UInt8))) && (decide (x36 ≤ (122 : UInt8)))) || ((decide (x36 ≥ (48 : UInt8))) && (decide (x36 ≤ (57 : UInt8))))) || (x36 == (46 : UInt8))) || (x36 == (45 : UInt8))) || (x36 == (95 : UInt8)))) then
          some (.inr (.inr ([] : (List Str))))
        else
          (need (0 ≤ i15 ∧ i15 ≤ (wr (i15 + (1 : Int))) ∧ (wr (i15 + (1 : Int))) ≤ s1.l.length)).bind fun u40 =>
          (need (((w14.l.length + (Str.mk (slc s1.l i15 (wr (i15 + (1 : Int))))).l.length : Nat) : Int) ≤ 9223372036854775807)).bind fun u41 =>
          X.cartridgeref1_PathParts_j21 i15 l13 (Str.mk (w14.l ++ (Str.mk (slc s1.l i15 (wr (i15 + (1 : Int))))).l))
    else
      some (.inr (.inl l13))

def cartridgeref1_PathParts (s1 : Str) : Option (List Str) :=
  if ((decide ((s1.l.length : Int) < (1 : Int))) || (decide ((s1.l.length : Int) > (24 : Int)))) then
    some ([] : (List Str))
  else
    (run (X.cartridgeref1_PathParts_s11 s1) (([] : List Str), (Str.mk []), (0 : Int))).bind fun o11 => match o11 with
    | .inl l17 => X.cartridgeref1_PathParts_e11 l17
    | .inr rv11 => some rv11

/-! cartridge/cartridgeref1.RightPath -/
def cartridgeref1_RightPath (s1 : Str) : Option Bool :=
  (X.cartridgeref1_PathParts s1).bind fun r4 =>
  some (decide ((r4.length : Int) > (0 : Int)))

/-! cartridge/cartridgeref10.RightHead -/
def cartridgeref10_RightHead (h1 : Head_api) : Option Bool :=
  (X.cartridgeref1_RightPath h1.Path).bind fun r5 =>
  if ((((((((((((((!r5) || (decide (h1.Version < (1 : Int)))) || (decide (h1.Version > (1073741824 : Int)))) || (decide (h1.Serial < (1 : Int)))) || (decide (h1.Serial > (1073741824 : Int)))) || (decide (h1.Size < (0 : Int)))) || (decide (h1.Size > (4000 : Int)))) || (decide (h1.From < (0 : Int)))) || (decide (h1.Len < (0 : Int)))) || (decide (h1.From > h1.Size))) || (decide (h1.Len > (wr (h1.Size - h1.From))))) || ((h1.Len == (0 : Int)) && (decide (h1.Size > (0 : Int))))) || (decide (h1.Sum < (0 : Int)))) || (decide (h1.Sum > (4294967295 : Int)))) then
    some false
  else
    some ((!h1.Gone) || ((((h1.Size == (0 : Int)) && (h1.From == (0 : Int))) && (h1.Len == (0 : Int))) && (h1.Sum == (0 : Int))))

/-! cartridge/cartridgeref10.RightSeal -/
def cartridgeref10_RightSeal_e8  : Option Bool :=
  some true

def cartridgeref10_RightSeal_e20 (i9 : Int) : Option (Int ⊕ (Unit ⊕ Bool)) :=
  some (.inl (wr (i9 + (1 : Int))))

def cartridgeref10_RightSeal_s20 (i9 : Int) (s1 : Seal_api) (s : Int) : Option (Int ⊕ (Unit ⊕ Bool)) :=
  match s with
  | k21 =>
    if (decide (k21 < i9)) then
      (getI s1.Labels k21).bind fun e26 =>
      (getI s1.Labels i9).bind fun e27 =>
      if (e26 == e27) then
        some (.inr (.inr false))
      else
        some (.inl (wr (k21 + (1 : Int))))
    else
      some (.inr (.inl ()))

def cartridgeref10_RightSeal_s8 (s1 : Seal_api) (s : Int) : Option (Int ⊕ (Unit ⊕ Bool)) :=
  match s with
  | i9 =>
    if (decide (i9 < (s1.Labels.length : Int))) then
      (getI s1.Labels i9).bind fun e16 =>
      ((optG (!((decide (e16 < (1 : Int))))) (getI s1.Labels i9))).bind fun e17 =>
      if ((decide (e16 < (1 : Int))) || (decide (e17 > (2147483647 : Int)))) then
        some (.inr (.inr false))
      else
        (run (X.cartridgeref10_RightSeal_s20 i9 s1) (0 : Int)).bind fun o20 => match o20 with
        | .inl _ => X.cartridgeref10_RightSeal_e20 i9
        | .inr rv20 => some (.inr (.inr rv20))
    else
      some (.inr (.inl ()))

def cartridgeref10_RightSeal (s1 : Seal_api) : Option Bool :=
  if ((((((((((decide (s1.Number < (1 : Int))) || (decide (s1.Number > (1073741824 : Int)))) || (decide (s1.Data < (1 : Int)))) || (decide (s1.Parity < (1 : Int)))) || (decide (s1.Data > (14 : Int)))) || (decide (s1.Parity > (14 : Int)))) || (decide ((wr (s1.Data + s1.Parity)) > (14 : Int)))) || ((s1.Labels.length : Int) != (wr (s1.Data + s1.Parity)))) || (decide (s1.Index < (0 : Int)))) || (decide (s1.Index ≥ (s1.Labels.length : Int)))) then
    some false
  else
    (run (X.cartridgeref10_RightSeal_s8 s1) (0 : Int)).bind fun o8 => match o8 with
    | .inl _ => X.cartridgeref10_RightSeal_e8
    | .inr rv8 => some rv8

/-! slices.Index[[]int,int] -/
def slices_Index_Lint_int_e6  : Option Int :=
  some ((-1) : Int)

def slices_Index_Lint_int_s6 (s1 : (List Int)) (v2 : Int) (s : Int) : Option (Int ⊕ (Unit ⊕ Int)) :=
  match s with
  | x7 =>
    if (decide (x7 < (s1.length : Int))) then
      (getI s1 x7).bind fun e14 =>
      if (v2 == e14) then
        some (.inr (.inr x7))
      else
        some (.inl (wr (x7 + (1 : Int))))
    else
      some (.inr (.inl ()))

def slices_Index_Lint_int (s1 : (List Int)) (v2 : Int) : Option Int :=
  (run (X.slices_Index_Lint_int_s6 s1 v2) (0 : Int)).bind fun o6 => match o6 with
  | .inl _ => X.slices_Index_Lint_int_e6
  | .inr rv6 => some rv6

/-! slices.Contains[[]int,int] -/
def slices_Contains_Lint_int (s1 : (List Int)) (v2 : Int) : Option Bool :=
  (X.slices_Index_Lint_int s1 v2).bind fun r5 =>
  some (decide (r5 ≥ (0 : Int)))

/-! cartridge/record.RightSeal -/
def record_RightSeal_e16  : Option Bool :=
  some true

def record_RightSeal_s16 (s1 : Seal_api) (s : Int) : Option (Int ⊕ (Unit ⊕ Bool)) :=
  match s with
  | x17 =>
    if (decide (x17 < (s1.Labels.length : Int))) then
      (getI s1.Labels x17).bind fun e23 =>
      (X.record_within e23 (1 : Int) (2147483647 : Int)).bind fun r25 =>
      ((optG (!((!r25))) (need (0 ≤ (0 : Int) ∧ (0 : Int) ≤ x17 ∧ x17 ≤ s1.Labels.length)))).bind fun u26 =>
      ((optG (!((!r25))) (X.slices_Contains_Lint_int (slc s1.Labels (0 : Int) x17) e23))).bind fun r27 =>
      if ((!r25) || r27) then
        some (.inr (.inr false))
      else
        some (.inl (wr (x17 + (1 : Int))))
    else
      some (.inr (.inl ()))

def record_RightSeal (s1 : Seal_api) : Option Bool :=
  (X.record_within s1.Number (1 : Int) (1073741824 : Int)).bind fun r5 =>
  ((optG (!((!r5))) (X.record_within s1.Data (1 : Int) (14 : Int)))).bind fun r6 =>
  ((optG (!(((!r5) || (!r6)))) (X.record_within s1.Parity (1 : Int) (wr ((14 : Int) - s1.Data))))).bind fun r7 =>
  if (((!r5) || (!r6)) || (!r7)) then
    some false
  else
    (X.record_within s1.Index (0 : Int) (wr ((wr (s1.Data + s1.Parity)) - (1 : Int)))).bind fun r12 =>
    if ((!r12) || ((s1.Labels.length : Int) != (wr (s1.Data + s1.Parity)))) then
      some false
    else
      (run (X.record_RightSeal_s16 s1) (0 : Int)).bind fun o16 => match o16 with
      | .inl _ => X.record_RightSeal_e16
      | .inr rv16 => some rv16

/-! cartridge/record.SealBytes -/
def record_SealBytes_e26 (l33 : List UInt8) : Option (List UInt8) :=
  (X.code_Writer_Bytes l33).bind fun r35 =>
  some r35

def record_SealBytes_s26 (s1 : Seal_api) (s : ((List UInt8) × Int)) : Option (((List UInt8) × Int) ⊕ List UInt8) :=
  match s with
  | (l29, x30) =>
    if (decide (x30 < (s1.Labels.length : Int))) then
      (getI s1.Labels x30).bind fun e40 =>
      (X.code_Writer_Int e40 l29).bind fun r41 =>
      some (.inl (r41, (wr (x30 + (1 : Int)))))
    else
      some (.inr l29)

def record_SealBytes_e16 (s1 : Seal_api) (l23 : List UInt8) : Option (List UInt8) :=
  (run (X.record_SealBytes_s26 s1) (l23, (0 : Int))).bind fun o26 => match o26 with
  | l33 => X.record_SealBytes_e26 l33

def record_SealBytes_s16 (s1 : Seal_api) (s : ((List UInt8) × Int)) : Option (((List UInt8) × Int) ⊕ List UInt8) :=
  match s with
  | (l19, x20) =>
    if (decide (x20 < (([s1.Index, s1.Data, s1.Parity] : List Int).length : Int))) then
      (getI ([s1.Index, s1.Data, s1.Parity] : List Int) x20).bind fun e48 =>
      (X.code_Writer_Byte (u8 e48) l19).bind fun r49 =>
      some (.inl (r49, (wr (x20 + (1 : Int)))))
    else
      some (.inr l19)

def record_SealBytes (s1 : Seal_api) : Option (List UInt8) :=
  (X.record_RightSeal s1).bind fun r5 =>
  if (!r5) then
    some ([] : (List UInt8))
  else
    (X.code_Writer_Int s1.Number ([] : List UInt8)).bind fun r11 =>
    (run (X.record_SealBytes_s16 s1) (r11, (0 : Int))).bind fun o16 => match o16 with
    | l23 => X.record_SealBytes_e16 s1 l23

/-! (*cartridge/code.Reader).Left -/
def code_Reader_Left (b1 : (List UInt8)) (bad2 : Bool) : Option Int :=
  some (b1.length : Int)

/-! cartridge/record.ReadSeal -/
def record_ReadSeal_e37 (c53 : (List UInt8)) (c54 : Bool) (c56 : Int) (c57 : Int) (c58 : Int) (c59 : Int) (l61 : List Int) : Option (Seal_api × Int) :=
  (X.code_Reader_Bad c53 c54).bind fun r64 =>
  ((optG (!r64) (X.record_RightSeal (Seal_api.mk c56 c57 c58 c59 l61)))).bind fun r65 =>
  if (r64 || (!r65)) then
    some ((Seal_api.mk (0 : Int) (0 : Int) (0 : Int) (0 : Int) ([] : List Int)), (2 : Int))
  else
    some ((Seal_api.mk c56 c57 c58 c59 l61), (0 : Int))

def record_ReadSeal_s37 (s : ((List UInt8) × Bool × Int × Int × Int × Int × (List Int))) : Option (((List UInt8) × Bool × Int × Int × Int × Int × (List Int)) ⊕ ((List UInt8) × Bool × Int × Int × Int × Int × List Int)) :=
  match s with
  | (c41, c42, c44, c45, c46, c47, l49) =>
    (X.code_Reader_Left c41 c42).bind fun r71 =>
    if (decide (r71 > (0 : Int))) then
      (X.code_Reader_Int c41 c42).bind fun r72 =>
      (need ((l49.length + ([r72.1] : List Int).length) * 8 ≤ 140737488355328)).bind fun u74 =>
      some (.inl (r72.2.1, r72.2.2, c44, c45, c46, c47, (l49 ++ ([r72.1] : List Int))))
    else
      some (.inr (c41, c42, c44, c45, c46, c47, l49))

def record_ReadSeal (b1 : (List UInt8)) : Option (Seal_api × Int) :=
  (X.code_NewReader b1).bind fun r6 =>
  (X.code_Reader_Int r6.1 r6.2).bind fun r9 =>
  (X.code_Reader_Byte r9.2.1 r9.2.2).bind fun r20 =>
  (X.code_Reader_Byte r20.2.1 r20.2.2).bind fun r26 =>
  (X.code_Reader_Byte r26.2.1 r26.2.2).bind fun r32 =>
  (run (X.record_ReadSeal_s37) (r32.2.1, r32.2.2, r9.1, (r20.1.toNat : Int), (r26.1.toNat : Int), (r32.1.toNat : Int), ([] : List Int))).bind fun o37 => match o37 with
  | (c53, c54, c56, c57, c58, c59, l61) => X.record_ReadSeal_e37 c53 c54 c56 c57 c58 c59 l61

/-! cartridge/cartridgelaw10.RecordTorn -/
def cartridgelaw10_RecordTorn (h1 : Head_api) (s2 : Seal_api) (n3 : Int) : Option Bool :=
  (X.cartridgelaw10_alive).bind fun r6 =>
  ((optG (!((!r6))) (X.cartridgeref10_RightHead h1))).bind fun r9 =>
  ((optG (!(((!r6) || (!r9)))) (X.cartridgeref10_RightSeal s2))).bind fun r10 =>
  if ((((!r6) || (!r9)) || (!r10)) || (decide (n3 < (0 : Int)))) then
    some r6
  else
    (X.record_HeadBytes h1).bind fun r13 =>
    (X.record_SealBytes s2).bind fun r15 =>
    if (((r13.length : Int) == (0 : Int)) || ((r15.length : Int) == (0 : Int))) then
      some false
    else
      (need ((r13.length : Int) ≠ 0)).bind fun u20 =>
      (need (0 ≤ (0 : Int) ∧ (0 : Int) ≤ (n3.tmod (r13.length : Int)) ∧ (n3.tmod (r13.length : Int)) ≤ r13.length)).bind fun u21 =>
      (X.record_ReadHead (slc r13 (0 : Int) (n3.tmod (r13.length : Int)))).bind fun r22 =>
      (need (r13.length * 1 ≤ 140737488355328)).bind fun u25 =>
      (need ((r13.length + ([(0 : UInt8)] : List UInt8).length) * 1 ≤ 140737488355328)).bind fun u27 =>
      (X.record_ReadHead (r13 ++ ([(0 : UInt8)] : List UInt8))).bind fun r28 =>
      (need ((r15.length : Int) ≠ 0)).bind fun u31 =>
      (need (0 ≤ (0 : Int) ∧ (0 : Int) ≤ (n3.tmod (r15.length : Int)) ∧ (n3.tmod (r15.length : Int)) ≤ r15.length)).bind fun u33 =>
      (X.record_ReadSeal (slc r15 (0 : Int) (n3.tmod (r15.length : Int)))).bind fun r34 =>
      (need (r15.length * 1 ≤ 140737488355328)).bind fun u37 =>
      (need ((r15.length + ([(0 : UInt8)] : List UInt8).length) * 1 ≤ 140737488355328)).bind fun u39 =>
      (X.record_ReadSeal (r15 ++ ([(0 : UInt8)] : List UInt8))).bind fun r40 =>
      (X.cartridgelaw10_num r22.2).bind fun r43 =>
      ((optG ((r43 == (2 : Int))) (X.cartridgelaw10_num r28.2))).bind fun r44 =>
      ((optG (((r43 == (2 : Int)) && (r44 == (2 : Int)))) (X.cartridgelaw10_num r34.2))).bind fun r45 =>
      ((optG ((((r43 == (2 : Int)) && (r44 == (2 : Int))) && (r45 == (2 : Int)))) (X.cartridgelaw10_num r40.2))).bind fun r46 =>
      some ((((r43 == (2 : Int)) && (r44 == (2 : Int))) && (r45 == (2 : Int))) && (r46 == (2 : Int)))

end
end X
end Go.AX
