import Derived.Test.YtliahlgkinhjlaaDoorXT
/- What the Go functions compute. -/
set_option linter.unusedVariables false
namespace Go.AX
open Go.AM
namespace X
noncomputable section

/-! strings.Count -/
def strings_Count_k47 (s1 : Str) : Option Int :=
  (getI (Str.mk [47]).l (0 : Int)).bind fun x8 =>
  some ((s1.l.count x8 : Nat) : Int)

/-! internal/stringslite.IndexByte -/
def stringslite_IndexByte (s1 : Str) (c2 : UInt8) : Option Int :=
  some (Lib.indexByte s1.l c2)

/-! internal/stringslite.Index -/
def stringslite_Index_k47 (s1 : Str) : Option Int :=
  if ((Str.mk [47]).l == s1.l) then
    some (0 : Int)
  else
    (getI (Str.mk [47]).l (0 : Int)).bind fun x9 =>
    (X.stringslite_IndexByte s1 x9).bind fun r10 =>
    some r10

/-! strings.Index -/
def strings_Index_k47 (s1 : Str) : Option Int :=
  (X.stringslite_Index_k47 s1).bind fun r4 =>
  some r4

/-! strings.genSplit -/
def strings_genSplit_k47_0_1_e17 (s22 : Str) (l24 : List Str) (i25 : Int) : Option (List Str) :=
  (getI l24 i25).bind fun e27 =>
  (need ((0 ≤ (0 : Int) ∧ (0 : Int) ≤ (wr (i25 + (1 : Int))) ∧ (wr (i25 + (1 : Int))) ≤ (l24.set i25.toNat s22).length) ∧ ((0 : Int) = 0 ∨ (0 : Int) < (l24.set i25.toNat s22).length))).bind fun u29 =>
  some (slc (l24.set i25.toNat s22) (0 : Int) (wr (i25 + (1 : Int))))

def strings_genSplit_k47_0_1_s17 (r9 : Int) (s1 : Str) (s : (Str × (List Str) × Int)) : Option ((Str × (List Str) × Int) ⊕ (Str × List Str × Int)) :=
  match s with
  | (s18, a20, i21) =>
    if (decide (i21 < (wr ((min (wr (r9 + (1 : Int))) (wr ((s1.l.length : Int) + (1 : Int)))) - (1 : Int))))) then
      (X.strings_Index_k47 s18).bind fun r33 =>
      if (decide (r33 < (0 : Int))) then
        some (.inr (s18, a20, i21))
      else
        (need (0 ≤ (0 : Int) ∧ (0 : Int) ≤ (wr (r33 + (0 : Int))) ∧ (wr (r33 + (0 : Int))) ≤ s18.l.length)).bind fun u37 =>
        (getI a20 i21).bind fun e38 =>
        (need (0 ≤ (wr (r33 + (1 : Int))) ∧ (wr (r33 + (1 : Int))) ≤ (s18.l.length : Int) ∧ (s18.l.length : Int) ≤ s18.l.length)).bind fun u40 =>
        some (.inl ((Str.mk (slc s18.l (wr (r33 + (1 : Int))) (s18.l.length : Int))), (a20.set i21.toNat (Str.mk (slc s18.l (0 : Int) (wr (r33 + (0 : Int)))))), (wr (i21 + (1 : Int)))))
    else
      some (.inr (s18, a20, i21))

def strings_genSplit_k47_0_1 (s1 : Str) : Option (List Str) :=
  (X.strings_Count_k47 s1).bind fun r9 =>
  (need (0 ≤ (min (wr (r9 + (1 : Int))) (wr ((s1.l.length : Int) + (1 : Int)))) ∧ (min (wr (r9 + (1 : Int))) (wr ((s1.l.length : Int) + (1 : Int)))) * 16 ≤ 281474976710656)).bind fun u12 =>
  (run (X.strings_genSplit_k47_0_1_s17 r9 s1) (s1, (List.replicate (min (wr (r9 + (1 : Int))) (wr ((s1.l.length : Int) + (1 : Int)))).toNat (Str.mk [])), (0 : Int))).bind fun o17 => match o17 with
  | (s22, l24, i25) => X.strings_genSplit_k47_0_1_e17 s22 l24 i25

/-! strings.Split -/
def strings_Split_k47 (s1 : Str) : Option (List Str) :=
  (X.strings_genSplit_k47_0_1 s1).bind fun r4 =>
  some r4

/-! slices.IndexFunc[[]string,string] -/
def slices_IndexFunc_Lstring_string_e6  : Option Int :=
  some ((-1) : Int)

def slices_IndexFunc_Lstring_string_s6 (s1 : (List Str)) (g2 : Str → Option Bool) (s : Int) : Option (Int ⊕ (Unit ⊕ Int)) :=
  match s with
  | x7 =>
    if (decide (x7 < (s1.length : Int))) then
      (getI s1 x7).bind fun e14 =>
      (g2 e14).bind fun r15 =>
      if r15 then
        some (.inr (.inr x7))
      else
        some (.inl (wr (x7 + (1 : Int))))
    else
      some (.inr (.inl ()))

def slices_IndexFunc_Lstring_string (s1 : (List Str)) (g2 : Str → Option Bool) : Option Int :=
  (run (X.slices_IndexFunc_Lstring_string_s6 s1 g2) (0 : Int)).bind fun o6 => match o6 with
  | .inl _ => X.slices_IndexFunc_Lstring_string_e6
  | .inr rv6 => some rv6

/-! slices.ContainsFunc[[]string,string] -/
def slices_ContainsFunc_Lstring_string (s1 : (List Str)) (g2 : Str → Option Bool) : Option Bool :=
  (X.slices_IndexFunc_Lstring_string s1 g2).bind fun r5 =>
  some (decide (r5 ≥ (0 : Int)))

/-! strings.indexFunc -/
open Classical in
def strings_indexFunc (s1 : Str) (g2 : I32 → Option Bool) (truth3 : Bool) : Option Int :=
  if ∀ x : Nat, x ≤ 1114111 → (g2 (I32.mk x)).isSome = true then some (Lib.idxFunc (fun x => (g2 (I32.mk x)).getD false) truth3 s1.ba) else none

/-! strings.IndexFunc -/
def strings_IndexFunc (s1 : Str) (g2 : I32 → Option Bool) : Option Int :=
  (X.strings_indexFunc s1 g2 true).bind fun r5 =>
  some r5

/-! strings.ContainsFunc -/
def strings_ContainsFunc (s1 : Str) (g2 : I32 → Option Bool) : Option Bool :=
  (X.strings_IndexFunc s1 g2).bind fun r5 =>
  some (decide (r5 ≥ (0 : Int)))

/-! cartridge/path.other -/
def path_other (c1 : I32) : Option Bool :=
  some ((((((decide (c1.n < (I32.mk (97)).n)) || (decide (c1.n > (I32.mk (122)).n))) && ((decide (c1.n < (I32.mk (48)).n)) || (decide (c1.n > (I32.mk (57)).n)))) && (c1.n != (I32.mk (46)).n)) && (c1.n != (I32.mk (45)).n)) && (c1.n != (I32.mk (95)).n))

/-! cartridge/path.wrong -/
def path_wrong (s1 : Str) : Option Bool :=
  ((optG (!((((s1.l == (Str.mk []).l) || (s1.l == (Str.mk [46]).l)) || (s1.l == (Str.mk [46, 46]).l)))) (X.strings_ContainsFunc s1 (fun a1 => X.path_other a1)))).bind fun r4 =>
  some ((((s1.l == (Str.mk []).l) || (s1.l == (Str.mk [46]).l)) || (s1.l == (Str.mk [46, 46]).l)) || r4)

/-! cartridge/path.Right -/
def path_Right (s1 : Str) : Option Bool :=
  ((optG ((decide ((s1.l.length : Int) ≤ (24 : Int)))) (X.strings_Split_k47 s1))).bind fun r4 =>
  ((optG ((decide ((s1.l.length : Int) ≤ (24 : Int)))) (X.slices_ContainsFunc_Lstring_string r4 (fun a1 => X.path_wrong a1)))).bind fun r5 =>
  some ((decide ((s1.l.length : Int) ≤ (24 : Int))) && (!r5))

/-! cartridge/record.within -/
def record_within (n1 : Int) (low2 : Int) (high3 : Int) : Option Bool :=
  some ((decide (n1 ≥ low2)) && (decide (n1 ≤ high3)))

/-! cartridge/record.RightHead -/
def record_RightHead (h1 : Head_api) : Option Bool :=
  (X.path_Right h1.Path).bind fun r5 =>
  ((optG (!((!r5))) (X.record_within h1.Version (1 : Int) (1073741824 : Int)))).bind fun r6 =>
  ((optG (!(((!r5) || (!r6)))) (X.record_within h1.Serial (1 : Int) (1073741824 : Int)))).bind fun r7 =>
  ((optG (!((((!r5) || (!r6)) || (!r7)))) (X.record_within h1.Size (0 : Int) (4000 : Int)))).bind fun r8 =>
  ((optG (!(((((!r5) || (!r6)) || (!r7)) || (!r8)))) (X.record_within h1.Sum (0 : Int) (4294967295 : Int)))).bind fun r9 =>
  if (((((!r5) || (!r6)) || (!r7)) || (!r8)) || (!r9)) then
    some false
  else
    (X.record_within h1.From (0 : Int) h1.Size).bind fun r13 =>
    ((optG (!((!r13))) (X.record_within h1.Len (0 : Int) (wr (h1.Size - h1.From))))).bind fun r14 =>
    if (((!r13) || (!r14)) || ((h1.Len == (0 : Int)) && (decide (h1.Size > (0 : Int))))) then
      some false
    else
      some ((!h1.Gone) || ((h1.Size == (0 : Int)) && (h1.Sum == (0 : Int))))

/-! (*cartridge/code.Writer).Text -/
def code_Writer_Text (s4 : Str) (b1 : (List UInt8)) : Option (List UInt8) :=
  (need (0 ≤ (0 : Int) ∧ (0 : Int) ≤ (min (s4.l.length : Int) (255 : Int)) ∧ (min (s4.l.length : Int) (255 : Int)) ≤ s4.l.length)).bind fun u6 =>
  (need ((b1.length + ([(u8 ((Str.mk (slc s4.l (0 : Int) (min (s4.l.length : Int) (255 : Int)))).l.length : Int))] : List UInt8).length) * 1 ≤ 140737488355328)).bind fun u9 =>
  (need (((b1 ++ ([(u8 ((Str.mk (slc s4.l (0 : Int) (min (s4.l.length : Int) (255 : Int)))).l.length : Int))] : List UInt8)).length + (Str.mk (slc s4.l (0 : Int) (min (s4.l.length : Int) (255 : Int)))).l.length) * 1 ≤ 140737488355328)).bind fun u10 =>
  some ((b1 ++ ([(u8 ((Str.mk (slc s4.l (0 : Int) (min (s4.l.length : Int) (255 : Int)))).l.length : Int))] : List UInt8)) ++ (Str.mk (slc s4.l (0 : Int) (min (s4.l.length : Int) (255 : Int)))).l)

/-! (*cartridge/code.Writer).Int -/
def code_Writer_Int (n4 : Int) (b1 : (List UInt8)) : Option (List UInt8) :=
  (need ((b1.length + ([(u8 ((shr32 (u32 n4) 24).toNat : Int)), (u8 ((shr32 (u32 n4) 16).toNat : Int)), (u8 ((shr32 (u32 n4) 8).toNat : Int)), (u8 ((u32 n4).toNat : Int))] : List UInt8).length) * 1 ≤ 140737488355328)).bind fun u6 =>
  some (b1 ++ ([(u8 ((shr32 (u32 n4) 24).toNat : Int)), (u8 ((shr32 (u32 n4) 16).toNat : Int)), (u8 ((shr32 (u32 n4) 8).toNat : Int)), (u8 ((u32 n4).toNat : Int))] : List UInt8))

/-! (*cartridge/code.Writer).Byte -/
def code_Writer_Byte (c4 : UInt8) (b1 : (List UInt8)) : Option (List UInt8) :=
  (need ((b1.length + ([c4] : List UInt8).length) * 1 ≤ 140737488355328)).bind fun u5 =>
  some (b1 ++ ([c4] : List UInt8))

/-! slices.Clone[[]byte,byte] -/
def slices_Clone_Lbyte_byte_own (s1 : (List UInt8)) : Option (List UInt8) :=
  nilU s1 fun z6 =>
  if z6 then
    some ([] : (List UInt8))
  else
    (need (s1.length * 1 ≤ 140737488355328)).bind fun u9 =>
    some s1

/-! (*cartridge/code.Writer).Bytes -/
def code_Writer_Bytes (b1 : (List UInt8)) : Option (List UInt8) :=
  (X.slices_Clone_Lbyte_byte_own b1).bind fun r6 =>
  some r6

/-! cartridge/record.HeadBytes -/
def record_HeadBytes_j25 (l23 : List UInt8) (gone28 : UInt8) : Option (List UInt8) :=
  (X.code_Writer_Byte gone28 l23).bind fun r30 =>
  (X.code_Writer_Bytes r30).bind fun r34 =>
  some r34

def record_HeadBytes_e16 (h1 : Head_api) (l23 : List UInt8) : Option (List UInt8) :=
  if h1.Gone then
    X.record_HeadBytes_j25 l23 (1 : UInt8)
  else
    X.record_HeadBytes_j25 l23 (0 : UInt8)

def record_HeadBytes_s16 (h1 : Head_api) (s : ((List UInt8) × Int)) : Option (((List UInt8) × Int) ⊕ List UInt8) :=
  match s with
  | (l19, x20) =>
    if (decide (x20 < (([h1.Version, h1.Size, h1.From, h1.Len, h1.Serial, h1.Sum] : List Int).length : Int))) then
      (getI ([h1.Version, h1.Size, h1.From, h1.Len, h1.Serial, h1.Sum] : List Int) x20).bind fun e40 =>
      (X.code_Writer_Int e40 l19).bind fun r41 =>
      some (.inl (r41, (wr (x20 + (1 : Int)))))
    else
      some (.inr l19)

def record_HeadBytes (h1 : Head_api) : Option (List UInt8) :=
  (X.record_RightHead h1).bind fun r5 =>
  if (!r5) then
    some ([] : (List UInt8))
  else
    (X.code_Writer_Text h1.Path ([] : List UInt8)).bind fun r11 =>
    (run (X.record_HeadBytes_s16 h1) (r11, (0 : Int))).bind fun o16 => match o16 with
    | l23 => X.record_HeadBytes_e16 h1 l23

/-! cartridge/frame.room -/
def frame_room (kind1 : Int) : Option Int :=
  if (kind1 == (6 : Int)) then
    some (79 : Int)
  else
    some (64 : Int)

/-! cartridge/frame.check -/
def frame_check_j8 (u1 : Unit_api) : Option Int :=
  (X.frame_room u1.Kind).bind fun r12 =>
  if (decide ((u1.Load.length : Int) > r12)) then
    some (4 : Int)
  else
    some (0 : Int)

def frame_check (u1 : Unit_api) : Option Int :=
  if ((((decide (u1.Label < (1 : Int))) || (decide (u1.Label > (2147483647 : Int)))) || (decide (u1.Number < (0 : Int)))) || (decide (u1.Number > (2147483647 : Int)))) then
    some (1 : Int)
  else
    if (u1.Kind == (1 : Int)) then
      X.frame_check_j8 u1
    else
      if (u1.Kind == (2 : Int)) then
        X.frame_check_j8 u1
      else
        if (u1.Kind == (3 : Int)) then
          X.frame_check_j8 u1
        else
          if (u1.Kind == (4 : Int)) then
            X.frame_check_j8 u1
          else
            if (u1.Kind == (5 : Int)) then
              X.frame_check_j8 u1
            else
              if (u1.Kind == (6 : Int)) then
                X.frame_check_j8 u1
              else
                some (1 : Int)

/-! slices.Clone[[]byte,byte] -/
def slices_Clone_Lbyte_byte_own_or (s1 : (List UInt8)) : Option (List UInt8) :=
  nilU s1 fun z6 =>
  if z6 then
    some ([] : List UInt8)
  else
    (need (s1.length * 1 ≤ 140737488355328)).bind fun u10 =>
    some s1

/-! (*cartridge/code.Writer).Bytes -/
def code_Writer_Bytes_or (b1 : (List UInt8)) : Option (List UInt8) :=
  (X.slices_Clone_Lbyte_byte_own_or b1).bind fun r6 =>
  some r6

/-! cartridge/castagnoli.More -/
def castagnoli_More_e7 (x10 : UInt32) : Option UInt32 :=
  some (x10 ^^^ (4294967295 : UInt32))

def castagnoli_More_e19 (x9 : Int) (x22 : UInt32) : Option ((UInt32 × Int) ⊕ UInt32) :=
  some (.inl (x22, (wr (x9 + (1 : Int)))))

def castagnoli_More_s19 (s : (UInt32 × Int)) : Option ((UInt32 × Int) ⊕ UInt32) :=
  match s with
  | (x20, x21) =>
    if (decide (x21 < (8 : Int))) then
      if ((x20 &&& (1 : UInt32)) == (1 : UInt32)) then
        some (.inl (((shr32 x20 1) ^^^ (2197175160 : UInt32)), (wr (x21 + (1 : Int)))))
      else
        some (.inl ((shr32 x20 1), (wr (x21 + (1 : Int)))))
    else
      some (.inr x20)

def castagnoli_More_s7 (b2 : (List UInt8)) (s : (UInt32 × Int)) : Option ((UInt32 × Int) ⊕ UInt32) :=
  match s with
  | (x8, x9) =>
    if (decide (x9 < (b2.length : Int))) then
      (getI b2 x9).bind fun e16 =>
      (run (X.castagnoli_More_s19) ((x8 ^^^ (u32 (e16.toNat : Int))), (0 : Int))).bind fun o19 => match o19 with
      | x22 => X.castagnoli_More_e19 x9 x22
    else
      some (.inr x8)

def castagnoli_More (sum1 : UInt32) (b2 : (List UInt8)) : Option UInt32 :=
  (run (X.castagnoli_More_s7 b2) ((sum1 ^^^ (4294967295 : UInt32)), (0 : Int))).bind fun o7 => match o7 with
  | x10 => X.castagnoli_More_e7 x10

/-! cartridge/castagnoli.Sum -/
def castagnoli_Sum (b1 : (List UInt8)) : Option UInt32 :=
  (X.castagnoli_More (0 : UInt32) b1).bind fun r4 =>
  some r4

/-! cartridge/frame.made -/
def frame_made (u1 : Unit_api) : Option (List UInt8) :=
  (X.code_Writer_Byte (u8 u1.Kind) ([] : List UInt8)).bind fun r7 =>
  (X.code_Writer_Int u1.Label r7).bind fun r11 =>
  (X.code_Writer_Int u1.Number r11).bind fun r15 =>
  (X.code_Writer_Byte (u8 (shr64 (u1.Load.length : Int) ((8 : UInt64).toNat : Int))) r15).bind fun r19 =>
  (X.code_Writer_Byte (u8 (u1.Load.length : Int)) r19).bind fun r23 =>
  (X.frame_room u1.Kind).bind fun r27 =>
  (need (0 ≤ r27 ∧ r27 * 1 ≤ 281474976710656)).bind fun u28 =>
  (X.code_Writer_Bytes_or r23).bind fun r32 =>
  (need ((r32.length + (cpy (List.replicate r27.toNat (0 : UInt8)) u1.Load).length) * 1 ≤ 140737488355328)).bind fun u34 =>
  (X.castagnoli_Sum (r32 ++ (cpy (List.replicate r27.toNat (0 : UInt8)) u1.Load))).bind fun r39 =>
  (X.code_Writer_Int (r39.toNat : Int) ([] : List UInt8)).bind fun r40 =>
  (X.code_Writer_Bytes r40).bind fun r44 =>
  (need (((r32 ++ (cpy (List.replicate r27.toNat (0 : UInt8)) u1.Load)).length + r44.length) * 1 ≤ 140737488355328)).bind fun u45 =>
  some ((r32 ++ (cpy (List.replicate r27.toNat (0 : UInt8)) u1.Load)) ++ r44)

/-! cartridge/frame.Put -/
def frame_Put (u1 : Unit_api) : Option ((List UInt8) × Int) :=
  (X.frame_check u1).bind fun r5 =>
  if (r5 != (0 : Int)) then
    some (([] : (List UInt8)), r5)
  else
    (X.frame_made u1).bind fun r9 =>
    some (r9, (0 : Int))

/-! cartridge/volume.Blocks -/
def volume_Blocks_e26 (l32 : List (List UInt8)) : Option ((List (List UInt8)) × Int) :=
  some (l32, (0 : Int))

def volume_Blocks_s26 (l19 : List Unit_api) (label1 : Int) (at2 : Int) (s : ((List (List UInt8)) × Int)) : Option (((List (List UInt8)) × Int) ⊕ (List (List UInt8) ⊕ ((List (List UInt8)) × Int))) :=
  match s with
  | (out28, x30) =>
    if (decide (x30 < ((l19 ++ ([(Unit_api.mk (4 : Int) (0 : Int) (0 : Int) ([] : (List UInt8)))] : List Unit_api)).length : Int))) then
      (getI (l19 ++ ([(Unit_api.mk (4 : Int) (0 : Int) (0 : Int) ([] : (List UInt8)))] : List Unit_api)) x30).bind fun e38 =>
      (X.frame_Put (Unit_api.mk e38.Kind label1 (wr (at2 + x30)) e38.Load)).bind fun r42 =>
      if (r42.2 != (0 : Int)) then
        some (.inr (.inr (([] : (List (List UInt8))), r42.2)))
      else
        (need ((out28.length + ([r42.1] : List (List UInt8)).length) * 24 ≤ 140737488355328)).bind fun u46 =>
        some (.inl ((out28 ++ ([r42.1] : List (List UInt8))), (wr (x30 + (1 : Int)))))
    else
      some (.inr (.inl out28))

def volume_Blocks_e14 (label1 : Int) (at2 : Int) (l19 : List Unit_api) : Option ((List (List UInt8)) × Int) :=
  (need ((l19.length + ([(Unit_api.mk (4 : Int) (0 : Int) (0 : Int) ([] : (List UInt8)))] : List Unit_api).length) * 48 ≤ 140737488355328)).bind fun u21 =>
  (run (X.volume_Blocks_s26 l19 label1 at2) (([] : List (List UInt8)), (0 : Int))).bind fun o26 => match o26 with
  | .inl l32 => X.volume_Blocks_e26 l32
  | .inr rv26 => some rv26

def volume_Blocks_s14 (s : ((List UInt8) × (List Unit_api))) : Option (((List UInt8) × (List Unit_api)) ⊕ List Unit_api) :=
  match s with
  | (b15, l17) =>
    if (decide ((b15.length : Int) > (0 : Int))) then
      (need (0 ≤ (0 : Int) ∧ (0 : Int) ≤ (min (b15.length : Int) (64 : Int)) ∧ (min (b15.length : Int) (64 : Int)) ≤ b15.length)).bind fun u50 =>
      (need ((l17.length + ([(Unit_api.mk (3 : Int) (0 : Int) (0 : Int) (slc b15 (0 : Int) (min (b15.length : Int) (64 : Int))))] : List Unit_api).length) * 48 ≤ 140737488355328)).bind fun u51 =>
      (need (0 ≤ (min (b15.length : Int) (64 : Int)) ∧ (min (b15.length : Int) (64 : Int)) ≤ (b15.length : Int) ∧ (b15.length : Int) ≤ b15.length)).bind fun u52 =>
      some (.inl ((slc b15 (min (b15.length : Int) (64 : Int)) (b15.length : Int)), (l17 ++ ([(Unit_api.mk (3 : Int) (0 : Int) (0 : Int) (slc b15 (0 : Int) (min (b15.length : Int) (64 : Int))))] : List Unit_api))))
    else
      some (.inr l17)

def volume_Blocks (label1 : Int) (at2 : Int) (h3 : Head_api) (b4 : (List UInt8)) : Option ((List (List UInt8)) × Int) :=
  (X.record_RightHead h3).bind fun r8 =>
  if ((!r8) || ((b4.length : Int) != h3.Len)) then
    some (([] : (List (List UInt8))), (1 : Int))
  else
    (X.record_HeadBytes h3).bind fun r11 =>
    (run (X.volume_Blocks_s14) (b4, ([(Unit_api.mk (2 : Int) (0 : Int) (0 : Int) r11)] : List Unit_api))).bind fun o14 => match o14 with
    | l19 => X.volume_Blocks_e14 label1 at2 l19

/-! cartridge/volume.data -/
def volume_data (size1 : Int) : Option Int :=
  if (decide (size1 < (1 : Int))) then
    some (0 : Int)
  else
    some (wr ((wr ((wr (size1 - (1 : Int))).tdiv (64 : Int))) + (1 : Int)))

/-! cartridge/volume.Need -/
def volume_Need (size1 : Int) : Option Int :=
  (X.volume_data (min size1 (4000 : Int))).bind fun r4 =>
  some (wr ((2 : Int) + r4))

/-! cartridge/cartridgelaw11.num -/
def cartridgelaw11_num (e1 : Int) : Option Int :=
  some e1

/-! slices.Clone[[]byte,byte] -/
def slices_Clone_Lbyte_byte (s1 : (List UInt8)) : Option (List UInt8) :=
  nilU s1 fun z5 =>
  if z5 then
    some ([] : (List UInt8))
  else
    (need (s1.length * 1 ≤ 140737488355328)).bind fun u9 =>
    some s1

/-! cartridge/code.NewReader -/
def code_NewReader (b1 : (List UInt8)) : Option ((List UInt8) × Bool) :=
  (X.slices_Clone_Lbyte_byte b1).bind fun r4 =>
  some ((Reader_code.mk r4 false).b_, (Reader_code.mk r4 false).bad_)

/-! (*cartridge/code.Reader).take -/
def code_Reader_take (n4 : Int) (b1 : (List UInt8)) (bad2 : Bool) : Option ((List UInt8) × ((List UInt8) × Bool)) :=
  if bad2 then
    some (([] : (List UInt8)), (b1, bad2))
  else
    if (decide (n4 > (b1.length : Int))) then
      some (([] : (List UInt8)), (([] : (List UInt8)), true))
    else
      (need (0 ≤ (0 : Int) ∧ (0 : Int) ≤ n4 ∧ n4 ≤ b1.length)).bind fun u14 =>
      (need (0 ≤ n4 ∧ n4 ≤ (b1.length : Int) ∧ (b1.length : Int) ≤ b1.length)).bind fun u16 =>
      some ((slc b1 (0 : Int) n4), ((slc b1 n4 (b1.length : Int)), bad2))

/-! (*cartridge/code.Reader).Byte -/
def code_Reader_Byte (b1 : (List UInt8)) (bad2 : Bool) : Option (UInt8 × ((List UInt8) × Bool)) :=
  (X.code_Reader_take (1 : Int) b1 bad2).bind fun r6 =>
  if ((r6.1.length : Int) == (0 : Int)) then
    some ((0 : UInt8), (r6.2.1, r6.2.2))
  else
    (getI r6.1 (0 : Int)).bind fun e12 =>
    some (e12, (r6.2.1, r6.2.2))

/-! (*cartridge/code.Reader).Int -/
def code_Reader_Int_e10 (r8 : ((List UInt8) × ((List UInt8) × Bool))) (n15 : UInt32) : Option (Int × ((List UInt8) × Bool)) :=
  some ((n15.toNat : Int), (r8.2.1, r8.2.2))

def code_Reader_Int_s10 (r8 : ((List UInt8) × ((List UInt8) × Bool))) (s : (UInt32 × Int)) : Option ((UInt32 × Int) ⊕ UInt32) :=
  match s with
  | (n12, x13) =>
    if (decide (x13 < (r8.1.length : Int))) then
      (getI r8.1 x13).bind fun e21 =>
      some (.inl (((shl32 n12 8) ||| (u32 (e21.toNat : Int))), (wr (x13 + (1 : Int)))))
    else
      some (.inr n12)

def code_Reader_Int (b1 : (List UInt8)) (bad2 : Bool) : Option (Int × ((List UInt8) × Bool)) :=
  (X.code_Reader_take (4 : Int) b1 bad2).bind fun r8 =>
  (run (X.code_Reader_Int_s10 r8) ((0 : UInt32), (0 : Int))).bind fun o10 => match o10 with
  | n15 => X.code_Reader_Int_e10 r8 n15

/-! (*cartridge/code.Reader).Raw -/
def code_Reader_Raw (n4 : Int) (b1 : (List UInt8)) (bad2 : Bool) : Option ((List UInt8) × ((List UInt8) × Bool)) :=
  (X.code_Reader_take (max (0 : Int) n4) b1 bad2).bind fun r7 =>
  (X.slices_Clone_Lbyte_byte r7.1).bind fun r9 =>
  some (r9, (r7.2.1, r7.2.2))

/-! (*cartridge/code.Reader).Bad -/
def code_Reader_Bad (b1 : (List UInt8)) (bad2 : Bool) : Option Bool :=
  some bad2

/-! slices.Equal[[]byte,byte] -/
def slices_Equal_Lbyte_byte_e9  : Option Bool :=
  some true

def slices_Equal_Lbyte_byte_s9 (s11 : (List UInt8)) (s22 : (List UInt8)) (s : Int) : Option (Int ⊕ (Unit ⊕ Bool)) :=
  match s with
  | x10 =>
    if (decide (x10 < (s11.length : Int))) then
      (getI s11 x10).bind fun e17 =>
      (getI s22 x10).bind fun e18 =>
      if (e17 != e18) then
        some (.inr (.inr false))
      else
        some (.inl (wr (x10 + (1 : Int))))
    else
      some (.inr (.inl ()))

def slices_Equal_Lbyte_byte (s11 : (List UInt8)) (s22 : (List UInt8)) : Option Bool :=
  if ((s11.length : Int) != (s22.length : Int)) then
    some false
  else
    (run (X.slices_Equal_Lbyte_byte_s9 s11 s22) (0 : Int)).bind fun o9 => match o9 with
    | .inl _ => X.slices_Equal_Lbyte_byte_e9
    | .inr rv9 => some rv9

/-! cartridge/frame.Get -/
def frame_Get (b1 : (List UInt8)) : Option (Unit_api × Int) :=
  (X.code_NewReader b1).bind fun r5 =>
  (X.code_Reader_Byte r5.1 r5.2).bind fun r8 =>
  (X.code_Reader_Int r8.2.1 r8.2.2).bind fun r12 =>
  (X.code_Reader_Int r12.2.1 r12.2.2).bind fun r15 =>
  (X.code_Reader_Byte r15.2.1 r15.2.2).bind fun r18 =>
  (X.code_Reader_Byte r18.2.1 r18.2.2).bind fun r20 =>
  (X.code_Reader_Raw (or64 (shl64 (r18.1.toNat : Int) ((8 : UInt64).toNat : Int)) (r20.1.toNat : Int)) r20.2.1 r20.2.2).bind fun r23 =>
  (X.code_Reader_Bad r23.2.1 r23.2.2).bind fun r27 =>
  ((optG (!r27) (X.frame_check (Unit_api.mk (Unit_api.mk (r8.1.toNat : Int) (0 : Int) (0 : Int) ([] : (List UInt8))).Kind r12.1 r15.1 r23.1)))).bind fun r28 =>
  ((optG (!((r27 || (r28 != (0 : Int))))) (X.frame_made (Unit_api.mk (Unit_api.mk (r8.1.toNat : Int) (0 : Int) (0 : Int) ([] : (List UInt8))).Kind r12.1 r15.1 r23.1)))).bind fun r29 =>
  ((optG (!((r27 || (r28 != (0 : Int))))) (X.slices_Equal_Lbyte_byte b1 r29))).bind fun r30 =>
  if ((r27 || (r28 != (0 : Int))) || (!r30)) then
    some ((Unit_api.mk (0 : Int) (0 : Int) (0 : Int) ([] : (List UInt8))), (2 : Int))
  else
    some ((Unit_api.mk (Unit_api.mk (r8.1.toNat : Int) (0 : Int) (0 : Int) ([] : (List UInt8))).Kind r12.1 r15.1 r23.1), (0 : Int))

/-! cartridge/volume.Good -/
def volume_Good (t1 : Tape_api) (n2 : Int) : Option (Unit_api × Bool) :=
  if ((t1.Lost || (decide (n2 < (0 : Int)))) || (decide (n2 ≥ (t1.Blocks.length : Int)))) then
    some ((Unit_api.mk (0 : Int) (0 : Int) (0 : Int) ([] : (List UInt8))), false)
  else
    (getI t1.Blocks n2).bind fun e9 =>
    (X.frame_Get e9).bind fun r10 =>
    if (((r10.2 != (0 : Int)) || (r10.1.Label != t1.Label)) || (r10.1.Number != n2)) then
      some ((Unit_api.mk (0 : Int) (0 : Int) (0 : Int) ([] : (List UInt8))), false)
    else
      some (r10.1, true)

/-! (*cartridge/code.Reader).Text -/
def code_Reader_Text (b1 : (List UInt8)) (bad2 : Bool) : Option (Str × ((List UInt8) × Bool)) :=
  (X.code_Reader_Byte b1 bad2).bind fun r6 =>
  (X.code_Reader_take (r6.1.toNat : Int) r6.2.1 r6.2.2).bind fun r8 =>
  some ((Str.mk r8.1), (r8.2.1, r8.2.2))

/-! cartridge/record.ReadHead -/
def record_ReadHead (b1 : (List UInt8)) : Option (Head_api × Int) :=
  (X.code_NewReader b1).bind fun r5 =>
  (X.code_Reader_Text r5.1 r5.2).bind fun r8 =>
  (X.code_Reader_Int r8.2.1 r8.2.2).bind fun r18 =>
  (X.code_Reader_Int r18.2.1 r18.2.2).bind fun r24 =>
  (X.code_Reader_Int r24.2.1 r24.2.2).bind fun r30 =>
  (X.code_Reader_Int r30.2.1 r30.2.2).bind fun r36 =>
  (X.code_Reader_Int r36.2.1 r36.2.2).bind fun r42 =>
  (X.code_Reader_Int r42.2.1 r42.2.2).bind fun r48 =>
  (X.code_Reader_Byte r48.2.1 r48.2.2).bind fun r53 =>
  (X.code_Reader_Bad r53.2.1 r53.2.2).bind fun r57 =>
  ((optG (!r57) (X.record_RightHead (Head_api.mk (Head_api.mk r8.1 (0 : Int) (0 : Int) (0 : Int) (0 : Int) (0 : Int) (0 : Int) false).Path r18.1 r24.1 r30.1 r36.1 r42.1 r48.1 (r53.1 == (1 : UInt8)))))).bind fun r58 =>
  ((optG (!((r57 || (!r58)))) (X.record_HeadBytes (Head_api.mk (Head_api.mk r8.1 (0 : Int) (0 : Int) (0 : Int) (0 : Int) (0 : Int) (0 : Int) false).Path r18.1 r24.1 r30.1 r36.1 r42.1 r48.1 (r53.1 == (1 : UInt8)))))).bind fun r59 =>
  ((optG (!((r57 || (!r58)))) (X.slices_Equal_Lbyte_byte b1 r59))).bind fun r60 =>
  if ((r57 || (!r58)) || (!r60)) then
    some ((Head_api.mk (Str.mk []) (0 : Int) (0 : Int) (0 : Int) (0 : Int) (0 : Int) (0 : Int) false), (2 : Int))
  else
    some ((Head_api.mk (Head_api.mk r8.1 (0 : Int) (0 : Int) (0 : Int) (0 : Int) (0 : Int) (0 : Int) false).Path r18.1 r24.1 r30.1 r36.1 r42.1 r48.1 (r53.1 == (1 : UInt8))), (0 : Int))

/-! cartridge/volume.part -/
def volume_part (t1 : Tape_api) (n2 : Int) : Option (Part_api × Bool) :=
  (X.volume_Good t1 n2).bind fun r6 =>
  if ((!r6.2) || (r6.1.Kind != (2 : Int))) then
    some ((Part_api.mk (Head_api.mk (Str.mk []) (0 : Int) (0 : Int) (0 : Int) (0 : Int) (0 : Int) (0 : Int) false) (0 : Int) (0 : Int)), false)
  else
    (X.record_ReadHead r6.1.Load).bind fun r12 =>
    ((optG (!((r12.2 != (0 : Int)))) (X.volume_data r12.1.Len))).bind fun r16 =>
    if ((r12.2 != (0 : Int)) || (decide ((wr ((wr (n2 + (1 : Int))) + r16)) ≥ (t1.Blocks.length : Int)))) then
      some ((Part_api.mk (Head_api.mk (Str.mk []) (0 : Int) (0 : Int) (0 : Int) (0 : Int) (0 : Int) (0 : Int) false) (0 : Int) (0 : Int)), false)
    else
      some ((Part_api.mk r12.1 t1.Label n2), true)

/-! cartridge/volume.Parts -/
def volume_Parts_e10 (l15 : List Part_api) : Option (List Part_api) :=
  some l15

def volume_Parts_j19 (l21 : List Part_api) (n22 : Int) : Option (((List Part_api) × Int) ⊕ List Part_api) :=
  some (.inl (l21, (wr (n22 + (1 : Int)))))

def volume_Parts_s10 (t1 : Tape_api) (s : ((List Part_api) × Int)) : Option (((List Part_api) × Int) ⊕ List Part_api) :=
  match s with
  | (out12, n13) =>
    if (decide (n13 < (t1.Blocks.length : Int))) then
      (X.volume_part t1 n13).bind fun r24 =>
      if r24.2 then
        (need ((out12.length + ([r24.1] : List Part_api).length) * 88 ≤ 140737488355328)).bind fun u28 =>
        (X.volume_data r24.1.Head.Len).bind fun r29 =>
        X.volume_Parts_j19 (out12 ++ ([r24.1] : List Part_api)) (wr (n13 + (wr (r29 + (1 : Int)))))
      else
        X.volume_Parts_j19 out12 n13
    else
      some (.inr out12)

def volume_Parts (t1 : Tape_api) : Option (List Part_api) :=
  if t1.Lost then
    some ([] : (List Part_api))
  else
    (run (X.volume_Parts_s10 t1) (([] : List Part_api), (1 : Int))).bind fun o10 => match o10 with
    | l15 => X.volume_Parts_e10 l15

/-! cartridge/volume.Keep -/
def volume_Keep (t1 : Tape_api) : Option Int :=
  (X.volume_Parts t1).bind fun r4 =>
  if (decide ((r4.length : Int) > (0 : Int))) then
    (getI r4 (wr ((r4.length : Int) - (1 : Int)))).bind fun e8 =>
    (X.volume_Need e8.Head.Len).bind fun r11 =>
    some (wr (e8.Block + r11))
  else
    (X.volume_Good t1 (0 : Int)).bind fun r14 =>
    if r14.2 then
      some (1 : Int)
    else
      some (0 : Int)

/-! cartridge/cartridgelaw11.alive -/
def cartridgelaw11_alive  : Option Bool :=
  (X.volume_Blocks (1 : Int) (1 : Int) (Head_api.mk (Str.mk [97]) (1 : Int) (0 : Int) (0 : Int) (0 : Int) (1 : Int) (0 : Int) false) ([] : List UInt8)).bind fun r3 =>
  (X.volume_Need (0 : Int)).bind fun r5 =>
  ((optG ((r5 == (2 : Int))) (X.cartridgelaw11_num r3.2))).bind fun r6 =>
  ((optG ((((r5 == (2 : Int)) && (r6 == (0 : Int))) && ((r3.1.length : Int) == (2 : Int)))) (X.volume_Keep (Tape_api.mk (0 : Int) (0 : Int) ([] : (List (List UInt8))) false)))).bind fun r7 =>
  some ((((r5 == (2 : Int)) && (r6 == (0 : Int))) && ((r3.1.length : Int) == (2 : Int))) && (r7 == (0 : Int)))

/-! (*cartridge/cartridgeref1.Writer).Byte -/
def cartridgeref1_Writer_Byte (c4 : UInt8) (B1 : (List UInt8)) : Option (List UInt8) :=
  (need ((B1.length + ([c4] : List UInt8).length) * 1 ≤ 140737488355328)).bind fun u5 =>
  some (B1 ++ ([c4] : List UInt8))

/-! (*cartridge/cartridgeref1.Writer).Int -/
def cartridgeref1_Writer_Int (n4 : Int) (B1 : (List UInt8)) : Option (List UInt8) :=
  (need ((B1.length + ([(u8 (((shru64 (u64 n4) 24) &&& (255 : UInt64)).toNat : Int)), (u8 (((shru64 (u64 n4) 16) &&& (255 : UInt64)).toNat : Int)), (u8 (((shru64 (u64 n4) 8) &&& (255 : UInt64)).toNat : Int)), (u8 (((u64 n4) &&& (255 : UInt64)).toNat : Int))] : List UInt8).length) * 1 ≤ 140737488355328)).bind fun u6 =>
  some (B1 ++ ([(u8 (((shru64 (u64 n4) 24) &&& (255 : UInt64)).toNat : Int)), (u8 (((shru64 (u64 n4) 16) &&& (255 : UInt64)).toNat : Int)), (u8 (((shru64 (u64 n4) 8) &&& (255 : UInt64)).toNat : Int)), (u8 (((u64 n4) &&& (255 : UInt64)).toNat : Int))] : List UInt8))

/-! cartridge/cartridgeref1.More -/
def cartridgeref1_More_e7 (c10 : UInt32) : Option UInt32 :=
  some (c10 ^^^ (4294967295 : UInt32))

def cartridgeref1_More_e18 (i9 : Int) (c21 : UInt32) : Option ((UInt32 × Int) ⊕ UInt32) :=
  some (.inl (c21, (wr (i9 + (1 : Int)))))

def cartridgeref1_More_j24 (k20 : Int) (c25 : UInt32) : Option ((UInt32 × Int) ⊕ UInt32) :=
  some (.inl (c25, (wr (k20 + (1 : Int)))))

def cartridgeref1_More_s18 (s : (UInt32 × Int)) : Option ((UInt32 × Int) ⊕ UInt32) :=
  match s with
  | (c19, k20) =>
    if (decide (k20 < (8 : Int))) then
      if ((c19 &&& (1 : UInt32)) == (1 : UInt32)) then
        X.cartridgeref1_More_j24 k20 ((shr32 c19 1) ^^^ (2197175160 : UInt32))
      else
        X.cartridgeref1_More_j24 k20 (shr32 c19 1)
    else
      some (.inr c19)

def cartridgeref1_More_s7 (b2 : (List UInt8)) (s : (UInt32 × Int)) : Option ((UInt32 × Int) ⊕ UInt32) :=
  match s with
  | (c8, i9) =>
    if (decide (i9 < (b2.length : Int))) then
      (getI b2 i9).bind fun e16 =>
      (run (X.cartridgeref1_More_s18) ((c8 ^^^ (u32 (e16.toNat : Int))), (0 : Int))).bind fun o18 => match o18 with
      | c21 => X.cartridgeref1_More_e18 i9 c21
    else
      some (.inr c8)

def cartridgeref1_More (sum1 : UInt32) (b2 : (List UInt8)) : Option UInt32 :=
  (run (X.cartridgeref1_More_s7 b2) ((sum1 ^^^ (4294967295 : UInt32)), (0 : Int))).bind fun o7 => match o7 with
  | c10 => X.cartridgeref1_More_e7 c10

/-! cartridge/cartridgeref1.Crc -/
def cartridgeref1_Crc (b1 : (List UInt8)) : Option UInt32 :=
  (X.cartridgeref1_More (0 : UInt32) b1).bind fun r4 =>
  some r4

/-! cartridge/cartridgeref1.PutFrame -/
def cartridgeref1_PutFrame_or_j4 (u1 : Unit_api) (most5 : Int) : Option ((List UInt8) × Int) :=
  if ((((((decide (u1.Kind < (1 : Int))) || (decide (u1.Kind > (6 : Int)))) || (decide (u1.Label < (1 : Int)))) || (decide (u1.Label > (2147483647 : Int)))) || (decide (u1.Number < (0 : Int)))) || (decide (u1.Number > (2147483647 : Int)))) then
    some (([] : List UInt8), (1 : Int))
  else
    if (decide ((u1.Load.length : Int) > most5)) then
      some (([] : List UInt8), (4 : Int))
    else
      (X.cartridgeref1_Writer_Byte (u8 u1.Kind) ([] : List UInt8)).bind fun r17 =>
      (X.cartridgeref1_Writer_Int u1.Label r17).bind fun r21 =>
      (X.cartridgeref1_Writer_Int u1.Number r21).bind fun r25 =>
      (need ((r25.length + ([(u8 (shr64 (u1.Load.length : Int) ((8 : UInt64).toNat : Int))), (u8 (and64 (u1.Load.length : Int) (255 : Int)))] : List UInt8).length) * 1 ≤ 140737488355328)).bind fun u29 =>
      (need (((r25 ++ ([(u8 (shr64 (u1.Load.length : Int) ((8 : UInt64).toNat : Int))), (u8 (and64 (u1.Load.length : Int) (255 : Int)))] : List UInt8)).length + u1.Load.length) * 1 ≤ 140737488355328)).bind fun u31 =>
      (need (0 ≤ (wr (most5 - (u1.Load.length : Int))) ∧ (((r25 ++ ([(u8 (shr64 (u1.Load.length : Int) ((8 : UInt64).toNat : Int))), (u8 (and64 (u1.Load.length : Int) (255 : Int)))] : List UInt8)) ++ u1.Load).length + (wr (most5 - (u1.Load.length : Int))).toNat) * 1 ≤ 140737488355328)).bind fun u33 =>
      (X.cartridgeref1_Crc (((r25 ++ ([(u8 (shr64 (u1.Load.length : Int) ((8 : UInt64).toNat : Int))), (u8 (and64 (u1.Load.length : Int) (255 : Int)))] : List UInt8)) ++ u1.Load) ++ (List.replicate (wr (most5 - (u1.Load.length : Int))).toNat (0 : UInt8)))).bind fun r35 =>
      (X.cartridgeref1_Writer_Int (r35.toNat : Int) (((r25 ++ ([(u8 (shr64 (u1.Load.length : Int) ((8 : UInt64).toNat : Int))), (u8 (and64 (u1.Load.length : Int) (255 : Int)))] : List UInt8)) ++ u1.Load) ++ (List.replicate (wr (most5 - (u1.Load.length : Int))).toNat (0 : UInt8)))).bind fun r36 =>
      some (r36, (0 : Int))

def cartridgeref1_PutFrame_or (u1 : Unit_api) : Option ((List UInt8) × Int) :=
  if (u1.Kind == (6 : Int)) then
    X.cartridgeref1_PutFrame_or_j4 u1 (79 : Int)
  else
    X.cartridgeref1_PutFrame_or_j4 u1 (64 : Int)

/-! cartridge/cartridgeref1.PathParts -/
def cartridgeref1_PathParts_e11 (l17 : List Str) : Option (List Str) :=
  some l17

def cartridgeref1_PathParts_j21 (i15 : Int) (l23 : List Str) (w24 : Str) : Option (((List Str) × Str × Int) ⊕ (List Str ⊕ (List Str))) :=
  some (.inl (l23, w24, (wr (i15 + (1 : Int)))))

def cartridgeref1_PathParts_s11 (s1 : Str) (s : ((List Str) × Str × Int)) : Option (((List Str) × Str × Int) ⊕ (List Str ⊕ (List Str))) :=
  match s with
  | (l13, w14, i15) =>
    if (decide (i15 ≤ (s1.l.length : Int))) then
      ((optG (!((i15 == (s1.l.length : Int)))) (getI s1.l i15))).bind fun x27 =>
      if ((i15 == (s1.l.length : Int)) || (x27 == (47 : UInt8))) then
        if (((w14.l == (Str.mk []).l) || (w14.l == (Str.mk [46]).l)) || (w14.l == (Str.mk [46, 46]).l)) then
          some (.inr (.inr ([] : (List Str))))
        else
          (need ((l13.length + ([w14] : List Str).length) * 16 ≤ 140737488355328)).bind fun u33 =>
          X.cartridgeref1_PathParts_j21 i15 (l13 ++ ([w14] : List Str)) (Str.mk [])
      else
        (getI s1.l i15).bind fun x36 =>
        if (!((((((decide (x36 ≥ (97 : UInt8))) && (decide (x36 ≤ (122 : UInt8)))) || ((decide (x36 ≥ (48 : UInt8))) && (decide (x36 ≤ (57 : UInt8))))) || (x36 == (46 : UInt8))) || (x36 == (45 : UInt8))) || (x36 == (95 : UInt8)))) then
          some (.inr (.inr ([] : (List Str))))
        else
          (need (0 ≤ i15 ∧ i15 ≤ (wr (i15 + (1 : Int))) ∧ (wr (i15 + (1 : Int))) ≤ s1.l.length)).bind fun u40 =>
          (need (((w14.l.length + (Str.mk (slc s1.l i15 (wr (i15 + (1 : Int))))).l.length : Nat) : Int) ≤ 9223372036854775807)).bind fun u41 =>
          X.cartridgeref1_PathParts_j21 i15 l13 (Str.mk (w14.l ++ (Str.mk (slc s1.l i15 (wr (i15 + (1 : Int))))).l))
    else
      some (.inr (.inl l13))

def cartridgeref1_PathParts (s1 : Str) : Option (List Str) :=
  if ((decide ((s1.l.length : Int) < (1 : Int))) || (decide ((s1.l.length : Int) > (24 : Int)))) then
    some ([] : (List Str))
  else
    (run (X.cartridgeref1_PathParts_s11 s1) (([] : List Str), (Str.mk []), (0 : Int))).bind fun o11 => match o11 with
    | .inl l17 => X.cartridgeref1_PathParts_e11 l17
    | .inr rv11 => some rv11

/-! cartridge/cartridgeref1.RightPath -/
def cartridgeref1_RightPath (s1 : Str) : Option Bool :=
  (X.cartridgeref1_PathParts s1).bind fun r4 =>
  some (decide ((r4.length : Int) > (0 : Int)))

/-! cartridge/cartridgeref10.RightHead -/
def cartridgeref10_RightHead (h1 : Head_api) : Option Bool :=
  (X.cartridgeref1_RightPath h1.Path).bind fun r5 =>
  if ((((((((((((((!r5) || (decide (h1.Version < (1 : Int)))) || (decide (h1.Version > (1073741824 : Int)))) || (decide (h1.Serial < (1 : Int)))) || (decide (h1.Serial > (1073741824 : Int)))) || (decide (h1.Size < (0 : Int)))) || (decide (h1.Size > (4000 : Int)))) || (decide (h1.From < (0 : Int)))) || (decide (h1.Len < (0 : Int)))) || (decide (h1.From > h1.Size))) || (decide (h1.Len > (wr (h1.Size - h1.From))))) || ((h1.Len == (0 : Int)) && (decide (h1.Size > (0 : Int))))) || (decide (h1.Sum < (0 : Int)))) || (decide (h1.Sum > (4294967295 : Int)))) then
    some false
  else
    some ((!h1.Gone) || ((((h1.Size == (0 : Int)) && (h1.From == (0 : Int))) && (h1.Len == (0 : Int))) && (h1.Sum == (0 : Int))))

/-! (*cartridge/cartridgeref1.Writer).Text -/
def cartridgeref1_Writer_Text_j5 (B1 : (List UInt8)) (s8 : Str) : Option (List UInt8) :=
  (need ((B1.length + ([(u8 (s8.l.length : Int))] : List UInt8).length) * 1 ≤ 140737488355328)).bind fun u10 =>
  (need (((B1 ++ ([(u8 (s8.l.length : Int))] : List UInt8)).length + s8.l.length) * 1 ≤ 140737488355328)).bind fun u11 =>
  some ((B1 ++ ([(u8 (s8.l.length : Int))] : List UInt8)) ++ s8.l)

def cartridgeref1_Writer_Text (s4 : Str) (B1 : (List UInt8)) : Option (List UInt8) :=
  if (decide ((s4.l.length : Int) > (255 : Int))) then
    (need (0 ≤ (0 : Int) ∧ (0 : Int) ≤ (255 : Int) ∧ (255 : Int) ≤ s4.l.length)).bind fun u13 =>
    X.cartridgeref1_Writer_Text_j5 B1 (Str.mk (slc s4.l (0 : Int) (255 : Int)))
  else
    X.cartridgeref1_Writer_Text_j5 B1 s4

/-! cartridge/cartridgeref10.HeadBytes -/
def cartridgeref10_HeadBytes_j39 (r35 : (List UInt8)) (c42 : UInt8) : Option (List UInt8) :=
  (X.cartridgeref1_Writer_Byte c42 r35).bind fun r44 =>
  some r44

def cartridgeref10_HeadBytes (h1 : Head_api) : Option (List UInt8) :=
  (X.cartridgeref10_RightHead h1).bind fun r5 =>
  if (!r5) then
    some ([] : (List UInt8))
  else
    (X.cartridgeref1_Writer_Text h1.Path ([] : List UInt8)).bind fun r11 =>
    (X.cartridgeref1_Writer_Int h1.Version r11).bind fun r15 =>
    (X.cartridgeref1_Writer_Int h1.Size r15).bind fun r19 =>
    (X.cartridgeref1_Writer_Int h1.From r19).bind fun r23 =>
    (X.cartridgeref1_Writer_Int h1.Len r23).bind fun r27 =>
    (X.cartridgeref1_Writer_Int h1.Serial r27).bind fun r31 =>
    (X.cartridgeref1_Writer_Int h1.Sum r31).bind fun r35 =>
    if h1.Gone then
      X.cartridgeref10_HeadBytes_j39 r35 (1 : UInt8)
    else
      X.cartridgeref10_HeadBytes_j39 r35 (0 : UInt8)

/-! cartridge/cartridgeref10.Blocks -/
def cartridgeref10_Blocks_or_e28 (l35 : List (List UInt8)) : Option ((List (List UInt8)) × Int) :=
  some (l35, (0 : Int))

def cartridgeref10_Blocks_or_j44 (i33 : Int) (out32 : (List (List UInt8))) (l46 : List Unit_api) : Option (((List Unit_api) × (List (List UInt8)) × Int) ⊕ (List (List UInt8) ⊕ ((List (List UInt8)) × Int))) :=
  (getI l46 i33).bind fun e49 =>
  (X.cartridgeref1_PutFrame_or e49).bind fun r50 =>
  if (r50.2 != (0 : Int)) then
    some (.inr (.inr (([] : List (List UInt8)), r50.2)))
  else
    (need ((out32.length + ([r50.1] : List (List UInt8)).length) * 24 ≤ 140737488355328)).bind fun u56 =>
    some (.inl (l46, (out32 ++ ([r50.1] : List (List UInt8))), (wr (i33 + (1 : Int)))))

def cartridgeref10_Blocks_or_s28 (label1 : Int) (at2 : Int) (s : ((List Unit_api) × (List (List UInt8)) × Int)) : Option (((List Unit_api) × (List (List UInt8)) × Int) ⊕ (List (List UInt8) ⊕ ((List (List UInt8)) × Int))) :=
  match s with
  | (l30, out32, i33) =>
    if (decide (i33 < (l30.length : Int))) then
      (getI l30 i33).bind fun e41 =>
      (getI (l30.set i33.toNat (Unit_api.mk e41.Kind label1 e41.Number e41.Load)) i33).bind fun e43 =>
      if (decide (at2 > (2147483648 : Int))) then
        (getI ((l30.set i33.toNat (Unit_api.mk e41.Kind label1 e41.Number e41.Load)).set i33.toNat (Unit_api.mk e43.Kind e43.Label (wr (at2 + i33)) e43.Load)) i33).bind fun e58 =>
        X.cartridgeref10_Blocks_or_j44 i33 out32 (((l30.set i33.toNat (Unit_api.mk e41.Kind label1 e41.Number e41.Load)).set i33.toNat (Unit_api.mk e43.Kind e43.Label (wr (at2 + i33)) e43.Load)).set i33.toNat (Unit_api.mk e58.Kind e58.Label (2147483648 : Int) e58.Load))
      else
        X.cartridgeref10_Blocks_or_j44 i33 out32 ((l30.set i33.toNat (Unit_api.mk e41.Kind label1 e41.Number e41.Load)).set i33.toNat (Unit_api.mk e43.Kind e43.Label (wr (at2 + i33)) e43.Load))
    else
      some (.inr (.inl out32))

def cartridgeref10_Blocks_or_e16 (label1 : Int) (at2 : Int) (l21 : List Unit_api) : Option ((List (List UInt8)) × Int) :=
  (need ((l21.length + ([(Unit_api.mk (4 : Int) (0 : Int) (0 : Int) ([] : (List UInt8)))] : List Unit_api).length) * 48 ≤ 140737488355328)).bind fun u23 =>
  (run (X.cartridgeref10_Blocks_or_s28 label1 at2) ((l21 ++ ([(Unit_api.mk (4 : Int) (0 : Int) (0 : Int) ([] : (List UInt8)))] : List Unit_api)), ([] : List (List UInt8)), (0 : Int))).bind fun o28 => match o28 with
  | .inl l35 => X.cartridgeref10_Blocks_or_e28 l35
  | .inr rv28 => some rv28

def cartridgeref10_Blocks_or_j63 (i19 : Int) (b4 : (List UInt8)) (l18 : (List Unit_api)) (to65 : Int) : Option (((List Unit_api) × Int) ⊕ List Unit_api) :=
  (need (0 ≤ i19 ∧ i19 ≤ to65 ∧ to65 ≤ b4.length)).bind fun u66 =>
  (need ((l18.length + ([(Unit_api.mk (3 : Int) (0 : Int) (0 : Int) (slc b4 i19 to65))] : List Unit_api).length) * 48 ≤ 140737488355328)).bind fun u67 =>
  some (.inl ((l18 ++ ([(Unit_api.mk (3 : Int) (0 : Int) (0 : Int) (slc b4 i19 to65))] : List Unit_api)), (wr (i19 + (64 : Int)))))

def cartridgeref10_Blocks_or_s16 (b4 : (List UInt8)) (s : ((List Unit_api) × Int)) : Option (((List Unit_api) × Int) ⊕ List Unit_api) :=
  match s with
  | (l18, i19) =>
    if (decide (i19 < (b4.length : Int))) then
      if (decide ((wr (i19 + (64 : Int))) > (b4.length : Int))) then
        X.cartridgeref10_Blocks_or_j63 i19 b4 l18 (b4.length : Int)
      else
        X.cartridgeref10_Blocks_or_j63 i19 b4 l18 (wr (i19 + (64 : Int)))
    else
      some (.inr l18)

def cartridgeref10_Blocks_or (label1 : Int) (at2 : Int) (h3 : Head_api) (b4 : (List UInt8)) : Option ((List (List UInt8)) × Int) :=
  (X.cartridgeref10_RightHead h3).bind fun r8 =>
  if ((!r8) || ((b4.length : Int) != h3.Len)) then
    some (([] : List (List UInt8)), (1 : Int))
  else
    (X.cartridgeref10_HeadBytes h3).bind fun r12 =>
    (run (X.cartridgeref10_Blocks_or_s16 b4) (([(Unit_api.mk (2 : Int) (0 : Int) (0 : Int) r12)] : List Unit_api), (0 : Int))).bind fun o16 => match o16 with
    | l21 => X.cartridgeref10_Blocks_or_e16 label1 at2 l21

/-! cartridge/cartridgeref1.NewReader -/
def cartridgeref1_NewReader (b1 : (List UInt8)) : Option ((List UInt8) × Bool) :=
  some ((Reader_ref1.mk b1 false).b_, (Reader_ref1.mk b1 false).bad_)

/-! (*cartridge/cartridgeref1.Reader).take -/
def cartridgeref1_Reader_take (n4 : Int) (b1 : (List UInt8)) (bad2 : Bool) : Option ((List UInt8) × ((List UInt8) × Bool)) :=
  if (bad2 || (decide ((b1.length : Int) < n4))) then
    some (([] : (List UInt8)), (b1, true))
  else
    (need (0 ≤ (0 : Int) ∧ (0 : Int) ≤ n4 ∧ n4 ≤ b1.length)).bind fun u11 =>
    (need (0 ≤ n4 ∧ n4 ≤ (b1.length : Int) ∧ (b1.length : Int) ≤ b1.length)).bind fun u13 =>
    some ((slc b1 (0 : Int) n4), ((slc b1 n4 (b1.length : Int)), bad2))

/-! (*cartridge/cartridgeref1.Reader).Byte -/
def cartridgeref1_Reader_Byte (b1 : (List UInt8)) (bad2 : Bool) : Option (UInt8 × ((List UInt8) × Bool)) :=
  (X.cartridgeref1_Reader_take (1 : Int) b1 bad2).bind fun r6 =>
  if ((r6.1.length : Int) == (0 : Int)) then
    some ((0 : UInt8), (r6.2.1, r6.2.2))
  else
    (getI r6.1 (0 : Int)).bind fun e12 =>
    some (e12, (r6.2.1, r6.2.2))

/-! (*cartridge/cartridgeref1.Reader).Int -/
def cartridgeref1_Reader_Int_e11 (r6 : ((List UInt8) × ((List UInt8) × Bool))) (n16 : Int) : Option (Int × ((List UInt8) × Bool)) :=
  some (n16, (r6.2.1, r6.2.2))

def cartridgeref1_Reader_Int_s11 (r6 : ((List UInt8) × ((List UInt8) × Bool))) (s : (Int × Int)) : Option ((Int × Int) ⊕ Int) :=
  match s with
  | (n13, i14) =>
    if (decide (i14 < (r6.1.length : Int))) then
      (getI r6.1 i14).bind fun e21 =>
      some (.inl ((or64 (shl64 n13 ((8 : UInt64).toNat : Int)) (e21.toNat : Int)), (wr (i14 + (1 : Int)))))
    else
      some (.inr n13)

def cartridgeref1_Reader_Int (b1 : (List UInt8)) (bad2 : Bool) : Option (Int × ((List UInt8) × Bool)) :=
  (X.cartridgeref1_Reader_take (4 : Int) b1 bad2).bind fun r6 =>
  (run (X.cartridgeref1_Reader_Int_s11 r6) ((0 : Int), (0 : Int))).bind fun o11 => match o11 with
  | n16 => X.cartridgeref1_Reader_Int_e11 r6 n16

/-! (*cartridge/cartridgeref1.Reader).Bad -/
def cartridgeref1_Reader_Bad (b1 : (List UInt8)) (bad2 : Bool) : Option Bool :=
  some bad2

/-! (*cartridge/cartridgeref1.Reader).Left -/
def cartridgeref1_Reader_Left (b1 : (List UInt8)) (bad2 : Bool) : Option Int :=
  if bad2 then
    some (0 : Int)
  else
    some (b1.length : Int)

/-! cartridge/cartridgeref1.PutFrame -/
def cartridgeref1_PutFrame_j4 (u1 : Unit_api) (most5 : Int) : Option ((List UInt8) × Int) :=
  if ((((((decide (u1.Kind < (1 : Int))) || (decide (u1.Kind > (6 : Int)))) || (decide (u1.Label < (1 : Int)))) || (decide (u1.Label > (2147483647 : Int)))) || (decide (u1.Number < (0 : Int)))) || (decide (u1.Number > (2147483647 : Int)))) then
    some (([] : (List UInt8)), (1 : Int))
  else
    if (decide ((u1.Load.length : Int) > most5)) then
      some (([] : (List UInt8)), (4 : Int))
    else
      (X.cartridgeref1_Writer_Byte (u8 u1.Kind) ([] : List UInt8)).bind fun r15 =>
      (X.cartridgeref1_Writer_Int u1.Label r15).bind fun r19 =>
      (X.cartridgeref1_Writer_Int u1.Number r19).bind fun r23 =>
      (need ((r23.length + ([(u8 (shr64 (u1.Load.length : Int) ((8 : UInt64).toNat : Int))), (u8 (and64 (u1.Load.length : Int) (255 : Int)))] : List UInt8).length) * 1 ≤ 140737488355328)).bind fun u27 =>
      (need (((r23 ++ ([(u8 (shr64 (u1.Load.length : Int) ((8 : UInt64).toNat : Int))), (u8 (and64 (u1.Load.length : Int) (255 : Int)))] : List UInt8)).length + u1.Load.length) * 1 ≤ 140737488355328)).bind fun u29 =>
      (need (0 ≤ (wr (most5 - (u1.Load.length : Int))) ∧ (((r23 ++ ([(u8 (shr64 (u1.Load.length : Int) ((8 : UInt64).toNat : Int))), (u8 (and64 (u1.Load.length : Int) (255 : Int)))] : List UInt8)) ++ u1.Load).length + (wr (most5 - (u1.Load.length : Int))).toNat) * 1 ≤ 140737488355328)).bind fun u31 =>
      (X.cartridgeref1_Crc (((r23 ++ ([(u8 (shr64 (u1.Load.length : Int) ((8 : UInt64).toNat : Int))), (u8 (and64 (u1.Load.length : Int) (255 : Int)))] : List UInt8)) ++ u1.Load) ++ (List.replicate (wr (most5 - (u1.Load.length : Int))).toNat (0 : UInt8)))).bind fun r33 =>
      (X.cartridgeref1_Writer_Int (r33.toNat : Int) (((r23 ++ ([(u8 (shr64 (u1.Load.length : Int) ((8 : UInt64).toNat : Int))), (u8 (and64 (u1.Load.length : Int) (255 : Int)))] : List UInt8)) ++ u1.Load) ++ (List.replicate (wr (most5 - (u1.Load.length : Int))).toNat (0 : UInt8)))).bind fun r34 =>
      some (r34, (0 : Int))

def cartridgeref1_PutFrame (u1 : Unit_api) : Option ((List UInt8) × Int) :=
  if (u1.Kind == (6 : Int)) then
    X.cartridgeref1_PutFrame_j4 u1 (79 : Int)
  else
    X.cartridgeref1_PutFrame_j4 u1 (64 : Int)

/-! cartridge/cartridgeref1.GetFrame -/
def cartridgeref1_GetFrame (b1 : (List UInt8)) : Option (Unit_api × Int) :=
  (X.cartridgeref1_NewReader b1).bind fun r6 =>
  (X.cartridgeref1_Reader_Byte r6.1 r6.2).bind fun r9 =>
  (X.cartridgeref1_Reader_Int r9.2.1 r9.2.2).bind fun r11 =>
  (X.cartridgeref1_Reader_Int r11.2.1 r11.2.2).bind fun r13 =>
  (X.cartridgeref1_Reader_Byte r13.2.1 r13.2.2).bind fun r18 =>
  (X.cartridgeref1_Reader_Byte r18.2.1 r18.2.2).bind fun r20 =>
  (X.cartridgeref1_Reader_Bad r20.2.1 r20.2.2).bind fun r24 =>
  ((optG (!r24) (X.cartridgeref1_Reader_Left r20.2.1 r20.2.2))).bind fun r25 =>
  if (r24 || (decide ((wr ((wr ((256 : Int) * (r18.1.toNat : Int))) + (r20.1.toNat : Int))) > r25))) then
    some ((Unit_api.mk (0 : Int) (0 : Int) (0 : Int) ([] : List UInt8)), (2 : Int))
  else
    (X.cartridgeref1_Reader_take (wr ((wr ((256 : Int) * (r18.1.toNat : Int))) + (r20.1.toNat : Int))) r20.2.1 r20.2.2).bind fun r29 =>
    (need (r29.1.length * 1 ≤ 140737488355328)).bind fun u31 =>
    (X.cartridgeref1_PutFrame (Unit_api.mk (r9.1.toNat : Int) r11.1 r13.1 r29.1)).bind fun r34 =>
    if ((r34.2 != (0 : Int)) || (!((Str.mk r34.1).l == (Str.mk b1).l))) then
      some ((Unit_api.mk (0 : Int) (0 : Int) (0 : Int) ([] : List UInt8)), (2 : Int))
    else
      some ((Unit_api.mk (r9.1.toNat : Int) r11.1 r13.1 r29.1), (0 : Int))

/-! cartridge/cartridgelaw11.SameParts -/
def cartridgelaw11_SameParts_e9  : Option Bool :=
  some true

def cartridgelaw11_SameParts_s9 (a1 : (List Part_api)) (b2 : (List Part_api)) (s : Int) : Option (Int ⊕ (Unit ⊕ Bool)) :=
  match s with
  | i10 =>
    if (decide (i10 < (a1.length : Int))) then
      (getI a1 i10).bind fun e16 =>
      (getI b2 i10).bind fun e17 =>
      if (!(e16 == e17)) then
        some (.inr (.inr false))
      else
        some (.inl (wr (i10 + (1 : Int))))
    else
      some (.inr (.inl ()))

def cartridgelaw11_SameParts (a1 : (List Part_api)) (b2 : (List Part_api)) : Option Bool :=
  if ((a1.length : Int) != (b2.length : Int)) then
    some false
  else
    (run (X.cartridgelaw11_SameParts_s9 a1 b2) (0 : Int)).bind fun o9 => match o9 with
    | .inl _ => X.cartridgelaw11_SameParts_e9
    | .inr rv9 => some rv9

/-! cartridge/cartridgelaw11.VolumeFinds -/
def cartridgelaw11_VolumeFinds_e42 (l39 : List Part_api) (c52 : Int) (c53 : Int) (l55 : List (List UInt8)) (c56 : Bool) : Option Bool :=
  (X.volume_Parts (Tape_api.mk c52 c53 l55 c56)).bind fun r59 =>
  (X.cartridgelaw11_SameParts r59 l39).bind fun r60 =>
  some r60

def cartridgelaw11_VolumeFinds_j63 (c44 : Int) (c45 : Int) (c48 : Bool) (i50 : Int) (l66 : List (List UInt8)) : Option ((Int × Int × (List (List UInt8)) × Bool × Int) ⊕ (Int × Int × List (List UInt8) × Bool)) :=
  some (.inl (c44, c45, l66, c48, (wr (i50 + (1 : Int)))))

def cartridgelaw11_VolumeFinds_s42 (spots2 : (List Int)) (s : (Int × Int × (List (List UInt8)) × Bool × Int)) : Option ((Int × Int × (List (List UInt8)) × Bool × Int) ⊕ (Int × Int × List (List UInt8) × Bool)) :=
  match s with
  | (c44, c45, l47, c48, i50) =>
    if (decide (i50 < (spots2.length : Int))) then
      (getI spots2 i50).bind fun e69 =>
      (need ((l47.length : Int) ≠ 0)).bind fun u70 =>
      (getI l47 ((and64 e69 (1023 : Int)).tmod (l47.length : Int))).bind fun e72 =>
      (getI l47 ((and64 e69 (1023 : Int)).tmod (l47.length : Int))).bind fun e74 =>
      (X.cartridgeref1_GetFrame e72).bind fun r75 =>
      if ((r75.2 == (0 : Int)) && (r75.1.Kind != (2 : Int))) then
        (getI (l47.set (((and64 e69 (1023 : Int)).tmod (l47.length : Int)).toNat) e72) ((and64 e69 (1023 : Int)).tmod (l47.length : Int))).bind fun e78 =>
        (getI (l47.set (((and64 e69 (1023 : Int)).tmod (l47.length : Int)).toNat) e72) ((and64 e69 (1023 : Int)).tmod (l47.length : Int))).bind fun e81 =>
        (getI e78 (0 : Int)).bind fun e82 =>
        X.cartridgelaw11_VolumeFinds_j63 c44 c45 c48 i50 ((l47.set (((and64 e69 (1023 : Int)).tmod (l47.length : Int)).toNat) e72).set (((and64 e69 (1023 : Int)).tmod (l47.length : Int)).toNat) (e78.set (0 : Int).toNat (0 : UInt8)))
      else
        X.cartridgelaw11_VolumeFinds_j63 c44 c45 c48 i50 (l47.set (((and64 e69 (1023 : Int)).tmod (l47.length : Int)).toNat) e72)
    else
      some (.inr (c44, c45, l47, c48))

def cartridgelaw11_VolumeFinds_e22 (spots2 : (List Int)) (c33 : Int) (c34 : Int) (l36 : List (List UInt8)) (c37 : Bool) (l39 : List Part_api) : Option Bool :=
  (run (X.cartridgelaw11_VolumeFinds_s42 spots2) (c33, c34, l36, c37, (0 : Int))).bind fun o42 => match o42 with
  | (c52, c53, l55, c56) => X.cartridgelaw11_VolumeFinds_e42 l39 c52 c53 l55 c56

def cartridgelaw11_VolumeFinds_s22 (sizes1 : (List Int)) (s : (Int × Int × (List (List UInt8)) × Bool × (List Part_api) × Int)) : Option ((Int × Int × (List (List UInt8)) × Bool × (List Part_api) × Int) ⊕ (Int × Int × List (List UInt8) × Bool × List Part_api)) :=
  match s with
  | (c24, c25, l27, c28, want30, i31) =>
    if (decide (i31 < (sizes1.length : Int))) then
      (getI sizes1 i31).bind fun e87 =>
      (need (0 ≤ (and64 e87 (127 : Int)) ∧ (and64 e87 (127 : Int)) * 1 ≤ 281474976710656)).bind fun u91 =>
      (X.cartridgeref10_Blocks_or (7 : Int) (l27.length : Int) (Head_api.mk (Str.mk [97]) (wr (i31 + (1 : Int))) (and64 e87 (127 : Int)) (0 : Int) (and64 e87 (127 : Int)) (1 : Int) (0 : Int) false) (List.replicate (and64 e87 (127 : Int)).toNat (0 : UInt8))).bind fun r92 =>
      (need ((want30.length + ([(Part_api.mk (Head_api.mk (Str.mk [97]) (wr (i31 + (1 : Int))) (and64 e87 (127 : Int)) (0 : Int) (and64 e87 (127 : Int)) (1 : Int) (0 : Int) false) (7 : Int) (l27.length : Int))] : List Part_api).length) * 88 ≤ 140737488355328)).bind fun u95 =>
      (need ((l27.length + r92.1.length) * 24 ≤ 140737488355328)).bind fun u96 =>
      some (.inl (c24, c25, (l27 ++ r92.1), c28, (want30 ++ ([(Part_api.mk (Head_api.mk (Str.mk [97]) (wr (i31 + (1 : Int))) (and64 e87 (127 : Int)) (0 : Int) (and64 e87 (127 : Int)) (1 : Int) (0 : Int) false) (7 : Int) (l27.length : Int))] : List Part_api)), (wr (i31 + (1 : Int)))))
    else
      some (.inr (c24, c25, l27, c28, want30))

def cartridgelaw11_VolumeFinds (sizes1 : (List Int)) (spots2 : (List Int)) : Option Bool :=
  (X.cartridgelaw11_alive).bind fun r5 =>
  if (((!r5) || (decide ((sizes1.length : Int) > (8 : Int)))) || (decide ((spots2.length : Int) > (10 : Int)))) then
    some r5
  else
    (X.cartridgeref1_PutFrame_or (Unit_api.mk (1 : Int) (7 : Int) (0 : Int) ([(68 : UInt8)] : List UInt8))).bind fun r14 =>
    (need ((([] : List (List UInt8)).length + ([r14.1] : List (List UInt8)).length) * 24 ≤ 140737488355328)).bind fun u17 =>
    (run (X.cartridgelaw11_VolumeFinds_s22 sizes1) ((7 : Int), (64 : Int), (([] : List (List UInt8)) ++ ([r14.1] : List (List UInt8))), false, ([] : List Part_api), (0 : Int))).bind fun o22 => match o22 with
    | (c33, c34, l36, c37, l39) => X.cartridgelaw11_VolumeFinds_e22 spots2 c33 c34 l36 c37 l39

end
end X
end Go.AX
