import Derived.Test.YtliahlgkinhjlaaDoorXT
/- What the Go functions compute. -/
set_option linter.unusedVariables false
namespace Go.AX
open Go.AM
namespace X
noncomputable section

/-! slices.Index[[]int,int] -/
def slices_Index_Lint_int_e6  : Option Int :=
  some ((-1) : Int)

def slices_Index_Lint_int_s6 (s1 : (List Int)) (v2 : Int) (s : Int) : Option (Int ⊕ (Unit ⊕ Int)) :=
  match s with
  | x7 =>
    if (decide (x7 < (s1.length : Int))) then
      (getI s1 x7).bind fun e14 =>
      if (v2 == e14) then
        some (.inr (.inr x7))
      else
        some (.inl (wr (x7 + (1 : Int))))
    else
      some (.inr (.inl ()))

def slices_Index_Lint_int (s1 : (List Int)) (v2 : Int) : Option Int :=
  (run (X.slices_Index_Lint_int_s6 s1 v2) (0 : Int)).bind fun o6 => match o6 with
  | .inl _ => X.slices_Index_Lint_int_e6
  | .inr rv6 => some rv6

/-! slices.Contains[[]int,int] -/
def slices_Contains_Lint_int (s1 : (List Int)) (v2 : Int) : Option Bool :=
  (X.slices_Index_Lint_int s1 v2).bind fun r5 =>
  some (decide (r5 ≥ (0 : Int)))

/-! slices.Clone[[]int,int] -/
def slices_Clone_Lint_int (s1 : (List Int)) : Option (List Int) :=
  nilU s1 fun z5 =>
  if z5 then
    some ([] : (List Int))
  else
    (need (s1.length * 8 ≤ 140737488355328)).bind fun u9 =>
    some s1

/-! cartridge/group.Of -/
def group_Of_e7  : Option (Seal_api × Bool) :=
  some ((Seal_api.mk (0 : Int) (0 : Int) (0 : Int) (0 : Int) ([] : (List Int))), false)

def group_Of_s7 (l1 : (List Seal_api)) (label2 : Int) (s : Int) : Option (Int ⊕ (Unit ⊕ (Seal_api × Bool))) :=
  match s with
  | x9 =>
    if (decide (x9 < (l1.length : Int))) then
      (getI l1 x9).bind fun e16 =>
      (X.slices_Contains_Lint_int e16.Labels label2).bind fun r19 =>
      if r19 then
        (X.slices_Clone_Lint_int e16.Labels).bind fun r21 =>
        some (.inr (.inr ((Seal_api.mk e16.Number e16.Index e16.Data e16.Parity r21), true)))
      else
        some (.inl (wr (x9 + (1 : Int))))
    else
      some (.inr (.inl ()))

def group_Of (l1 : (List Seal_api)) (label2 : Int) : Option (Seal_api × Bool) :=
  (run (X.group_Of_s7 l1 label2) (0 : Int)).bind fun o7 => match o7 with
  | .inl _ => X.group_Of_e7
  | .inr rv7 => some rv7

/-! slices.Clone[[]byte,byte] -/
def slices_Clone_Lbyte_byte (s1 : (List UInt8)) : Option (List UInt8) :=
  nilU s1 fun z5 =>
  if z5 then
    some ([] : (List UInt8))
  else
    (need (s1.length * 1 ≤ 140737488355328)).bind fun u9 =>
    some s1

/-! cartridge/code.NewReader -/
def code_NewReader (b1 : (List UInt8)) : Option ((List UInt8) × Bool) :=
  (X.slices_Clone_Lbyte_byte b1).bind fun r4 =>
  some ((Reader_code.mk r4 false).b_, (Reader_code.mk r4 false).bad_)

/-! (*cartridge/code.Reader).take -/
def code_Reader_take (n4 : Int) (b1 : (List UInt8)) (bad2 : Bool) : Option ((List UInt8) × ((List UInt8) × Bool)) :=
  if bad2 then
    some (([] : (List UInt8)), (b1, bad2))
  else
    if (decide (n4 > (b1.length : Int))) then
      some (([] : (List UInt8)), (([] : (List UInt8)), true))
    else
      (need (0 ≤ (0 : Int) ∧ (0 : Int) ≤ n4 ∧ n4 ≤ b1.length)).bind fun u14 =>
      (need (0 ≤ n4 ∧ n4 ≤ (b1.length : Int) ∧ (b1.length : Int) ≤ b1.length)).bind fun u16 =>
      some ((slc b1 (0 : Int) n4), ((slc b1 n4 (b1.length : Int)), bad2))

/-! (*cartridge/code.Reader).Byte -/
def code_Reader_Byte (b1 : (List UInt8)) (bad2 : Bool) : Option (UInt8 × ((List UInt8) × Bool)) :=
  (X.code_Reader_take (1 : Int) b1 bad2).bind fun r6 =>
  if ((r6.1.length : Int) == (0 : Int)) then
    some ((0 : UInt8), (r6.2.1, r6.2.2))
  else
    (getI r6.1 (0 : Int)).bind fun e12 =>
    some (e12, (r6.2.1, r6.2.2))

/-! (*cartridge/code.Reader).Int -/
def code_Reader_Int_e10 (r8 : ((List UInt8) × ((List UInt8) × Bool))) (n15 : UInt32) : Option (Int × ((List UInt8) × Bool)) :=
  some ((n15.toNat : Int), (r8.2.1, r8.2.2))

def code_Reader_Int_s10 (r8 : ((List UInt8) × ((List UInt8) × Bool))) (s : (UInt32 × Int)) : Option ((UInt32 × Int) ⊕ UInt32) :=
  match s with
  | (n12, x13) =>
    if (decide (x13 < (r8.1.length : Int))) then
      (getI r8.1 x13).bind fun e21 =>
      some (.inl (((shl32 n12 8) ||| (u32 (e21.toNat : Int))), (wr (x13 + (1 : Int)))))
    else
      some (.inr n12)

def code_Reader_Int (b1 : (List UInt8)) (bad2 : Bool) : Option (Int × ((List UInt8) × Bool)) :=
  (X.code_Reader_take (4 : Int) b1 bad2).bind fun r8 =>
  (run (X.code_Reader_Int_s10 r8) ((0 : UInt32), (0 : Int))).bind fun o10 => match o10 with
  | n15 => X.code_Reader_Int_e10 r8 n15

/-! (*cartridge/code.Reader).Raw -/
def code_Reader_Raw (n4 : Int) (b1 : (List UInt8)) (bad2 : Bool) : Option ((List UInt8) × ((List UInt8) × Bool)) :=
  (X.code_Reader_take (max (0 : Int) n4) b1 bad2).bind fun r7 =>
  (X.slices_Clone_Lbyte_byte r7.1).bind fun r9 =>
  some (r9, (r7.2.1, r7.2.2))

/-! (*cartridge/code.Reader).Bad -/
def code_Reader_Bad (b1 : (List UInt8)) (bad2 : Bool) : Option Bool :=
  some bad2

/-! cartridge/frame.room -/
def frame_room (kind1 : Int) : Option Int :=
  if (kind1 == (6 : Int)) then
    some (79 : Int)
  else
    some (64 : Int)

/-! cartridge/frame.check -/
def frame_check_j8 (u1 : Unit_api) : Option Int :=
  (X.frame_room u1.Kind).bind fun r12 =>
  if (decide ((u1.Load.length : Int) > r12)) then
    some (4 : Int)
  else
    some (0 : Int)

def frame_check (u1 : Unit_api) : Option Int :=
  if ((((decide (u1.Label < (1 : Int))) || (decide (u1.Label > (2147483647 : Int)))) || (decide (u1.Number < (0 : Int)))) || (decide (u1.Number > (2147483647 : Int)))) then
    some (1 : Int)
  else
    if (u1.Kind == (1 : Int)) then
      X.frame_check_j8 u1
    else
      if (u1.Kind == (2 : Int)) then
        X.frame_check_j8 u1
      else
        if (u1.Kind == (3 : Int)) then
          X.frame_check_j8 u1
        else
          if (u1.Kind == (4 : Int)) then
            X.frame_check_j8 u1
          else
            if (u1.Kind == (5 : Int)) then
              X.frame_check_j8 u1
            else
              if (u1.Kind == (6 : Int)) then
                X.frame_check_j8 u1
              else
                some (1 : Int)

/-! (*cartridge/code.Writer).Byte -/
def code_Writer_Byte (c4 : UInt8) (b1 : (List UInt8)) : Option (List UInt8) :=
  (need ((b1.length + ([c4] : List UInt8).length) * 1 ≤ 140737488355328)).bind fun u5 =>
  some (b1 ++ ([c4] : List UInt8))

/-! (*cartridge/code.Writer).Int -/
def code_Writer_Int (n4 : Int) (b1 : (List UInt8)) : Option (List UInt8) :=
  (need ((b1.length + ([(u8 ((shr32 (u32 n4) 24).toNat : Int)), (u8 ((shr32 (u32 n4) 16).toNat : Int)), (u8 ((shr32 (u32 n4) 8).toNat : Int)), (u8 ((u32 n4).toNat : Int))] : List UInt8).length) * 1 ≤ 140737488355328)).bind fun u6 =>
  some (b1 ++ ([(u8 ((shr32 (u32 n4) 24).toNat : Int)), (u8 ((shr32 (u32 n4) 16).toNat : Int)), (u8 ((shr32 (u32 n4) 8).toNat : Int)), (u8 ((u32 n4).toNat : Int))] : List UInt8))

/-! slices.Clone[[]byte,byte] -/
def slices_Clone_Lbyte_byte_own_or (s1 : (List UInt8)) : Option (List UInt8) :=
  nilU s1 fun z6 =>
  if z6 then
    some ([] : List UInt8)
  else
    (need (s1.length * 1 ≤ 140737488355328)).bind fun u10 =>
    some s1

/-! (*cartridge/code.Writer).Bytes -/
def code_Writer_Bytes_or (b1 : (List UInt8)) : Option (List UInt8) :=
  (X.slices_Clone_Lbyte_byte_own_or b1).bind fun r6 =>
  some r6

/-! cartridge/castagnoli.More -/
def castagnoli_More_e7 (x10 : UInt32) : Option UInt32 :=
  some (x10 ^^^ (4294967295 : UInt32))

def castagnoli_More_e19 (x9 : Int) (x22 : UInt32) : Option ((UInt32 × Int) ⊕ UInt32) :=
  some (.inl (x22, (wr (x9 + (1 : Int)))))

def castagnoli_More_s19 (s : (UInt32 × Int)) : Option ((UInt32 × Int) ⊕ UInt32) :=
  match s with
  | (x20, x21) =>
    if (decide (x21 < (8 : Int))) then
      if ((x20 &&& (1 : UInt32)) == (1 : UInt32)) then
        some (.inl (((shr32 x20 1) ^^^ (2197175160 : UInt32)), (wr (x21 + (1 : Int)))))
      else
        some (.inl ((shr32 x20 1), (wr (x21 + (1 : Int)))))
    else
      some (.inr x20)

def castagnoli_More_s7 (b2 : (List UInt8)) (s : (UInt32 × Int)) : Option ((UInt32 × Int) ⊕ UInt32) :=
  match s with
  | (x8, x9) =>
    if (decide (x9 < (b2.length : Int))) then
      (getI b2 x9).bind fun e16 =>
      (run (X.castagnoli_More_s19) ((x8 ^^^ (u32 (e16.toNat : Int))), (0 : Int))).bind fun o19 => match o19 with
      | x22 => X.castagnoli_More_e19 x9 x22
    else
      some (.inr x8)

def castagnoli_More (sum1 : UInt32) (b2 : (List UInt8)) : Option UInt32 :=
  (run (X.castagnoli_More_s7 b2) ((sum1 ^^^ (4294967295 : UInt32)), (0 : Int))).bind fun o7 => match o7 with
  | x10 => X.castagnoli_More_e7 x10

/-! cartridge/castagnoli.Sum -/
def castagnoli_Sum (b1 : (List UInt8)) : Option UInt32 :=
  (X.castagnoli_More (0 : UInt32) b1).bind fun r4 =>
  some r4

/-! slices.Clone[[]byte,byte] -/
def slices_Clone_Lbyte_byte_own (s1 : (List UInt8)) : Option (List UInt8) :=
  nilU s1 fun z6 =>
  if z6 then
    some ([] : (List UInt8))
  else
    (need (s1.length * 1 ≤ 140737488355328)).bind fun u9 =>
    some s1

/-! (*cartridge/code.Writer).Bytes -/
def code_Writer_Bytes (b1 : (List UInt8)) : Option (List UInt8) :=
  (X.slices_Clone_Lbyte_byte_own b1).bind fun r6 =>
  some r6

/-! cartridge/frame.made -/
def frame_made (u1 : Unit_api) : Option (List UInt8) :=
  (X.code_Writer_Byte (u8 u1.Kind) ([] : List UInt8)).bind fun r7 =>
  (X.code_Writer_Int u1.Label r7).bind fun r11 =>
  (X.code_Writer_Int u1.Number r11).bind fun r15 =>
  (X.code_Writer_Byte (u8 (shr64 (u1.Load.length : Int) ((8 : UInt64).toNat : Int))) r15).bind fun r19 =>
  (X.code_Writer_Byte (u8 (u1.Load.length : Int)) r19).bind fun r23 =>
  (X.frame_room u1.Kind).bind fun r27 =>
  (need (0 ≤ r27 ∧ r27 * 1 ≤ 281474976710656)).bind fun u28 =>
  (X.code_Writer_Bytes_or r23).bind fun r32 =>
  (need ((r32.length + (cpy (List.replicate r27.toNat (0 : UInt8)) u1.Load).length) * 1 ≤ 140737488355328)).bind fun u34 =>
  (X.castagnoli_Sum (r32 ++ (cpy (List.replicate r27.toNat (0 : UInt8)) u1.Load))).bind fun r39 =>
  (X.code_Writer_Int (r39.toNat : Int) ([] : List UInt8)).bind fun r40 =>
  (X.code_Writer_Bytes r40).bind fun r44 =>
  (need (((r32 ++ (cpy (List.replicate r27.toNat (0 : UInt8)) u1.Load)).length + r44.length) * 1 ≤ 140737488355328)).bind fun u45 =>
  some ((r32 ++ (cpy (List.replicate r27.toNat (0 : UInt8)) u1.Load)) ++ r44)

/-! slices.Equal[[]byte,byte] -/
def slices_Equal_Lbyte_byte_e9  : Option Bool :=
  some true

def slices_Equal_Lbyte_byte_s9 (s11 : (List UInt8)) (s22 : (List UInt8)) (s : Int) : Option (Int ⊕ (Unit ⊕ Bool)) :=
  match s with
  | x10 =>
    if (decide (x10 < (s11.length : Int))) then
      (getI s11 x10).bind fun e17 =>
      (getI s22 x10).bind fun e18 =>
      if (e17 != e18) then
        some (.inr (.inr false))
      else
        some (.inl (wr (x10 + (1 : Int))))
    else
      some (.inr (.inl ()))

def slices_Equal_Lbyte_byte (s11 : (List UInt8)) (s22 : (List UInt8)) : Option Bool :=
  if ((s11.length : Int) != (s22.length : Int)) then
    some false
  else
    (run (X.slices_Equal_Lbyte_byte_s9 s11 s22) (0 : Int)).bind fun o9 => match o9 with
    | .inl _ => X.slices_Equal_Lbyte_byte_e9
    | .inr rv9 => some rv9

/-! cartridge/frame.Get -/
def frame_Get (b1 : (List UInt8)) : Option (Unit_api × Int) :=
  (X.code_NewReader b1).bind fun r5 =>
  (X.code_Reader_Byte r5.1 r5.2).bind fun r8 =>
  (X.code_Reader_Int r8.2.1 r8.2.2).bind fun r12 =>
  (X.code_Reader_Int r12.2.1 r12.2.2).bind fun r15 =>
  (X.code_Reader_Byte r15.2.1 r15.2.2).bind fun r18 =>
  (X.code_Reader_Byte r18.2.1 r18.2.2).bind fun r20 =>
  (X.code_Reader_Raw (or64 (shl64 (r18.1.toNat : Int) ((8 : UInt64).toNat : Int)) (r20.1.toNat : Int)) r20.2.1 r20.2.2).bind fun r23 =>
  (X.code_Reader_Bad r23.2.1 r23.2.2).bind fun r27 =>
  ((optG (!r27) (X.frame_check (Unit_api.mk (Unit_api.mk (r8.1.toNat : Int) (0 : Int) (0 : Int) ([] : (List UInt8))).Kind r12.1 r15.1 r23.1)))).bind fun r28 =>
  ((optG (!((r27 || (r28 != (0 : Int))))) (X.frame_made (Unit_api.mk (Unit_api.mk (r8.1.toNat : Int) (0 : Int) (0 : Int) ([] : (List UInt8))).Kind r12.1 r15.1 r23.1)))).bind fun r29 =>
  ((optG (!((r27 || (r28 != (0 : Int))))) (X.slices_Equal_Lbyte_byte b1 r29))).bind fun r30 =>
  if ((r27 || (r28 != (0 : Int))) || (!r30)) then
    some ((Unit_api.mk (0 : Int) (0 : Int) (0 : Int) ([] : (List UInt8))), (2 : Int))
  else
    some ((Unit_api.mk (Unit_api.mk (r8.1.toNat : Int) (0 : Int) (0 : Int) ([] : (List UInt8))).Kind r12.1 r15.1 r23.1), (0 : Int))

/-! cartridge/volume.Good -/
def volume_Good (t1 : Tape_api) (n2 : Int) : Option (Unit_api × Bool) :=
  if ((t1.Lost || (decide (n2 < (0 : Int)))) || (decide (n2 ≥ (t1.Blocks.length : Int)))) then
    some ((Unit_api.mk (0 : Int) (0 : Int) (0 : Int) ([] : (List UInt8))), false)
  else
    (getI t1.Blocks n2).bind fun e9 =>
    (X.frame_Get e9).bind fun r10 =>
    if (((r10.2 != (0 : Int)) || (r10.1.Label != t1.Label)) || (r10.1.Number != n2)) then
      some ((Unit_api.mk (0 : Int) (0 : Int) (0 : Int) ([] : (List UInt8))), false)
    else
      some (r10.1, true)

/-! cartridge/write.room -/
def write_room (t1 : Tape_api) (seals2 : (List Seal_api)) : Option Int :=
  (X.group_Of seals2 t1.Label).bind fun r6 =>
  if (r6.2 || t1.Lost) then
    some (0 : Int)
  else
    if ((t1.Blocks.length : Int) == (0 : Int)) then
      some (wr ((max (1 : Int) t1.Cap) - (1 : Int)))
    else
      (X.volume_Good t1 (wr ((t1.Blocks.length : Int) - (1 : Int)))).bind fun r16 =>
      if (!r16.2) then
        some (0 : Int)
      else
        some (wr ((max (t1.Blocks.length : Int) t1.Cap) - (t1.Blocks.length : Int)))

/-! cartridge/write.Rooms -/
def write_Rooms_e8 (l13 : List Int) : Option (List Int) :=
  some l13

def write_Rooms_s8 (l1 : (List Tape_api)) (seals2 : (List Seal_api)) (s : ((List Int) × Int)) : Option (((List Int) × Int) ⊕ List Int) :=
  match s with
  | (out10, x11) =>
    if (decide (x11 < (l1.length : Int))) then
      (getI l1 x11).bind fun e19 =>
      (X.write_room e19 seals2).bind fun r21 =>
      (need ((out10.length + ([r21] : List Int).length) * 8 ≤ 140737488355328)).bind fun u22 =>
      some (.inl ((out10 ++ ([r21] : List Int)), (wr (x11 + (1 : Int)))))
    else
      some (.inr out10)

def write_Rooms (l1 : (List Tape_api)) (seals2 : (List Seal_api)) : Option (List Int) :=
  (run (X.write_Rooms_s8 l1 seals2) (([] : List Int), (0 : Int))).bind fun o8 => match o8 with
  | l13 => X.write_Rooms_e8 l13

/-! cartridge/span.Fits -/
def span_Fits (room1 : Int) : Option Int :=
  some (wr ((64 : Int) * (wr ((max (2 : Int) (min room1 (1099511627776 : Int))) - (2 : Int)))))

/-! cartridge/span.Plan -/
def span_Plan_e12  : Option ((List Piece_api) × Int) :=
  some (([] : (List Piece_api)), (7 : Int))

def span_Plan_s12 (rooms1 : (List Int)) (size2 : Int) (s : ((List Piece_api) × Int × Int)) : Option (((List Piece_api) × Int × Int) ⊕ (Unit ⊕ ((List Piece_api) × Int))) :=
  match s with
  | (out14, at15, x16) =>
    if (decide (x16 < (rooms1.length : Int))) then
      (getI rooms1 x16).bind fun e22 =>
      (X.span_Fits e22).bind fun r24 =>
      if (((min r24 (wr (size2 - at15))) == (0 : Int)) && ((decide (size2 > (0 : Int))) || (decide (e22 < (2 : Int))))) then
        some (.inl (out14, at15, (wr (x16 + (1 : Int)))))
      else
        (need ((out14.length + ([(Piece_api.mk x16 at15 (min r24 (wr (size2 - at15))))] : List Piece_api).length) * 24 ≤ 140737488355328)).bind fun u28 =>
        if ((wr (at15 + (min r24 (wr (size2 - at15))))) == size2) then
          some (.inr (.inr ((out14 ++ ([(Piece_api.mk x16 at15 (min r24 (wr (size2 - at15))))] : List Piece_api)), (0 : Int))))
        else
          some (.inl ((out14 ++ ([(Piece_api.mk x16 at15 (min r24 (wr (size2 - at15))))] : List Piece_api)), (wr (at15 + (min r24 (wr (size2 - at15))))), (wr (x16 + (1 : Int)))))
    else
      some (.inr (.inl ()))

def span_Plan (rooms1 : (List Int)) (size2 : Int) : Option ((List Piece_api) × Int) :=
  if ((decide (size2 < (0 : Int))) || (decide (size2 > (4000 : Int)))) then
    some (([] : (List Piece_api)), (1 : Int))
  else
    (run (X.span_Plan_s12 rooms1 size2) (([] : List Piece_api), (0 : Int), (0 : Int))).bind fun o12 => match o12 with
    | .inl _ => X.span_Plan_e12
    | .inr rv12 => some rv12

/-! strings.Count -/
def strings_Count_k47 (s1 : Str) : Option Int :=
  (getI (Str.mk [47]).l (0 : Int)).bind fun x8 =>
  some ((s1.l.count x8 : Nat) : Int)

/-! internal/stringslite.IndexByte -/
def stringslite_IndexByte (s1 : Str) (c2 : UInt8) : Option Int :=
  some (Lib.indexByte s1.l c2)

/-! internal/stringslite.Index -/
def stringslite_Index_k47 (s1 : Str) : Option Int :=
  if ((Str.mk [47]).l == s1.l) then
    some (0 : Int)
  else
    (getI (Str.mk [47]).l (0 : Int)).bind fun x9 =>
    (X.stringslite_IndexByte s1 x9).bind fun r10 =>
    some r10

/-! strings.Index -/
def strings_Index_k47 (s1 : Str) : Option Int :=
  (X.stringslite_Index_k47 s1).bind fun r4 =>
  some r4

/-! strings.genSplit -/
def strings_genSplit_k47_0_1_e17 (s22 : Str) (l24 : List Str) (i25 : Int) : Option (List Str) :=
  (getI l24 i25).bind fun e27 =>
  (need ((0 ≤ (0 : Int) ∧ (0 : Int) ≤ (wr (i25 + (1 : Int))) ∧ (wr (i25 + (1 : Int))) ≤ (l24.set i25.toNat s22).length) ∧ ((0 : Int) = 0 ∨ (0 : Int) < (l24.set i25.toNat s22).length))).bind fun u29 =>
  some (slc (l24.set i25.toNat s22) (0 : Int) (wr (i25 + (1 : Int))))

def strings_genSplit_k47_0_1_s17 (r9 : Int) (s1 : Str) (s : (Str × (List Str) × Int)) : Option ((Str × (List Str) × Int) ⊕ (Str × List Str × Int)) :=
  match s with
  | (s18, a20, i21) =>
    if (decide (i21 < (wr ((min (wr (r9 + (1 : Int))) (wr ((s1.l.length : Int) + (1 : Int)))) - (1 : Int))))) then
      (X.strings_Index_k47 s18).bind fun r33 =>
      if (decide (r33 < (0 : Int))) then
        some (.inr (s18, a20, i21))
      else
        (need (0 ≤ (0 : Int) ∧ (0 : Int) ≤ (wr (r33 + (0 : Int))) ∧ (wr (r33 + (0 : Int))) ≤ s18.l.length)).bind fun u37 =>
        (getI a20 i21).bind fun e38 =>
        (need (0 ≤ (wr (r33 + (1 : Int))) ∧ (wr (r33 + (1 : Int))) ≤ (s18.l.length : Int) ∧ (s18.l.length : Int) ≤ s18.l.length)).bind fun u40 =>
        some (.inl ((Str.mk (slc s18.l (wr (r33 + (1 : Int))) (s18.l.length : Int))), (a20.set i21.toNat (Str.mk (slc s18.l (0 : Int) (wr (r33 + (0 : Int)))))), (wr (i21 + (1 : Int)))))
    else
      some (.inr (s18, a20, i21))

def strings_genSplit_k47_0_1 (s1 : Str) : Option (List Str) :=
  (X.strings_Count_k47 s1).bind fun r9 =>
  (need (0 ≤ (min (wr (r9 + (1 : Int))) (wr ((s1.l.length : Int) + (1 : Int)))) ∧ (min (wr (r9 + (1 : Int))) (wr ((s1.l.length : Int) + (1 : Int)))) * 16 ≤ 281474976710656)).bind fun u12 =>
  (run (X.strings_genSplit_k47_0_1_s17 r9 s1) (s1, (List.replicate (min (wr (r9 + (1 : Int))) (wr ((s1.l.length : Int) + (1 : Int)))).toNat (Str.mk [])), (0 : Int))).bind fun o17 => match o17 with
  | (s22, l24, i25) => X.strings_genSplit_k47_0_1_e17 s22 l24 i25

/-! strings.Split -/
def strings_Split_k47 (s1 : Str) : Option (List Str) :=
  (X.strings_genSplit_k47_0_1 s1).bind fun r4 =>
  some r4

/-! slices.IndexFunc[[]string,string] -/
def slices_IndexFunc_Lstring_string_e6  : Option Int :=
  some ((-1) : Int)

def slices_IndexFunc_Lstring_string_s6 (s1 : (List Str)) (g2 : Str → Option Bool) (s : Int) : Option (Int ⊕ (Unit ⊕ Int)) :=
  match s with
  | x7 =>
    if (decide (x7 < (s1.length : Int))) then
      (getI s1 x7).bind fun e14 =>
      (g2 e14).bind fun r15 =>
      if r15 then
        some (.inr (.inr x7))
      else
        some (.inl (wr (x7 + (1 : Int))))
    else
      some (.inr (.inl ()))

def slices_IndexFunc_Lstring_string (s1 : (List Str)) (g2 : Str → Option Bool) : Option Int :=
  (run (X.slices_IndexFunc_Lstring_string_s6 s1 g2) (0 : Int)).bind fun o6 => match o6 with
  | .inl _ => X.slices_IndexFunc_Lstring_string_e6
  | .inr rv6 => some rv6

/-! slices.ContainsFunc[[]string,string] -/
def slices_ContainsFunc_Lstring_string (s1 : (List Str)) (g2 : Str → Option Bool) : Option Bool :=
  (X.slices_IndexFunc_Lstring_string s1 g2).bind fun r5 =>
  some (decide (r5 ≥ (0 : Int)))

/-! strings.indexFunc -/
open Classical in
def strings_indexFunc (s1 : Str) (g2 : I32 → Option Bool) (truth3 : Bool) : Option Int :=
  if ∀ x : Nat, x ≤ 1114111 → (g2 (I32.mk x)).isSome = true then some (Lib.idxFunc (fun x => (g2 (I32.mk x)).getD false) truth3 s1.ba) else none

/-! strings.IndexFunc -/
def strings_IndexFunc (s1 : Str) (g2 : I32 → Option Bool) : Option Int :=
  (X.strings_indexFunc s1 g2 true).bind fun r5 =>
  some r5

/-! strings.ContainsFunc -/
def strings_ContainsFunc (s1 : Str) (g2 : I32 → Option Bool) : Option Bool :=
  (X.strings_IndexFunc s1 g2).bind fun r5 =>
  some (decide (r5 ≥ (0 : Int)))

/-! cartridge/path.other -/
def path_other (c1 : I32) : Option Bool :=
  some ((((((decide (c1.n < (I32.mk (97)).n)) || (decide (c1.n > (I32.mk (122)).n))) && ((decide (c1.n < (I32.mk (48)).n)) || (decide (c1.n > (I32.mk (57)).n)))) && (c1.n != (I32.mk (46)).n)) && (c1.n != (I32.mk (45)).n)) && (c1.n != (I32.mk (95)).n))

/-! cartridge/path.wrong -/
def path_wrong (s1 : Str) : Option Bool :=
  ((optG (!((((s1.l == (Str.mk []).l) || (s1.l == (Str.mk [46]).l)) || (s1.l == (Str.mk [46, 46]).l)))) (X.strings_ContainsFunc s1 (fun a1 => X.path_other a1)))).bind fun r4 =>
  some ((((s1.l == (Str.mk []).l) || (s1.l == (Str.mk [46]).l)) || (s1.l == (Str.mk [46, 46]).l)) || r4)

/-! cartridge/path.Right -/
def path_Right (s1 : Str) : Option Bool :=
  ((optG ((decide ((s1.l.length : Int) ≤ (24 : Int)))) (X.strings_Split_k47 s1))).bind fun r4 =>
  ((optG ((decide ((s1.l.length : Int) ≤ (24 : Int)))) (X.slices_ContainsFunc_Lstring_string r4 (fun a1 => X.path_wrong a1)))).bind fun r5 =>
  some ((decide ((s1.l.length : Int) ≤ (24 : Int))) && (!r5))

/-! cartridge/record.within -/
def record_within (n1 : Int) (low2 : Int) (high3 : Int) : Option Bool :=
  some ((decide (n1 ≥ low2)) && (decide (n1 ≤ high3)))

/-! cartridge/record.RightHead -/
def record_RightHead (h1 : Head_api) : Option Bool :=
  (X.path_Right h1.Path).bind fun r5 =>
  ((optG (!((!r5))) (X.record_within h1.Version (1 : Int) (1073741824 : Int)))).bind fun r6 =>
  ((optG (!(((!r5) || (!r6)))) (X.record_within h1.Serial (1 : Int) (1073741824 : Int)))).bind fun r7 =>
  ((optG (!((((!r5) || (!r6)) || (!r7)))) (X.record_within h1.Size (0 : Int) (4000 : Int)))).bind fun r8 =>
  ((optG (!(((((!r5) || (!r6)) || (!r7)) || (!r8)))) (X.record_within h1.Sum (0 : Int) (4294967295 : Int)))).bind fun r9 =>
  if (((((!r5) || (!r6)) || (!r7)) || (!r8)) || (!r9)) then
    some false
  else
    (X.record_within h1.From (0 : Int) h1.Size).bind fun r13 =>
    ((optG (!((!r13))) (X.record_within h1.Len (0 : Int) (wr (h1.Size - h1.From))))).bind fun r14 =>
    if (((!r13) || (!r14)) || ((h1.Len == (0 : Int)) && (decide (h1.Size > (0 : Int))))) then
      some false
    else
      some ((!h1.Gone) || ((h1.Size == (0 : Int)) && (h1.Sum == (0 : Int))))

/-! cartridge/frame.Put -/
def frame_Put (u1 : Unit_api) : Option ((List UInt8) × Int) :=
  (X.frame_check u1).bind fun r5 =>
  if (r5 != (0 : Int)) then
    some (([] : (List UInt8)), r5)
  else
    (X.frame_made u1).bind fun r9 =>
    some (r9, (0 : Int))

/-! (*cartridge/code.Writer).Text -/
def code_Writer_Text (s4 : Str) (b1 : (List UInt8)) : Option (List UInt8) :=
  (need (0 ≤ (0 : Int) ∧ (0 : Int) ≤ (min (s4.l.length : Int) (255 : Int)) ∧ (min (s4.l.length : Int) (255 : Int)) ≤ s4.l.length)).bind fun u6 =>
  (need ((b1.length + ([(u8 ((Str.mk (slc s4.l (0 : Int) (min (s4.l.length : Int) (255 : Int)))).l.length : Int))] : List UInt8).length) * 1 ≤ 140737488355328)).bind fun u9 =>
  (need (((b1 ++ ([(u8 ((Str.mk (slc s4.l (0 : Int) (min (s4.l.length : Int) (255 : Int)))).l.length : Int))] : List UInt8)).length + (Str.mk (slc s4.l (0 : Int) (min (s4.l.length : Int) (255 : Int)))).l.length) * 1 ≤ 140737488355328)).bind fun u10 =>
  some ((b1 ++ ([(u8 ((Str.mk (slc s4.l (0 : Int) (min (s4.l.length : Int) (255 : Int)))).l.length : Int))] : List UInt8)) ++ (Str.mk (slc s4.l (0 : Int) (min (s4.l.length : Int) (255 : Int)))).l)

/-! cartridge/record.HeadBytes -/
def record_HeadBytes_j25 (l23 : List UInt8) (gone28 : UInt8) : Option (List UInt8) :=
  (X.code_Writer_Byte gone28 l23).bind fun r30 =>
  (X.code_Writer_Bytes r30).bind fun r34 =>
  some r34

def record_HeadBytes_e16 (h1 : Head_api) (l23 : List UInt8) : Option (List UInt8) :=
  if h1.Gone then
    X.record_HeadBytes_j25 l23 (1 : UInt8)
  else
    X.record_HeadBytes_j25 l23 (0 : UInt8)

def record_HeadBytes_s16 (h1 : Head_api) (s : ((List UInt8) × Int)) : Option (((List UInt8) × Int) ⊕ List UInt8) :=
  match s with
  | (l19, x20) =>
    if (decide (x20 < (([h1.Version, h1.Size, h1.From, h1.Len, h1.Serial, h1.Sum] : List Int).length : Int))) then
      (getI ([h1.Version, h1.Size, h1.From, h1.Len, h1.Serial, h1.Sum] : List Int) x20).bind fun e40 =>
      (X.code_Writer_Int e40 l19).bind fun r41 =>
      some (.inl (r41, (wr (x20 + (1 : Int)))))
    else
      some (.inr l19)

def record_HeadBytes (h1 : Head_api) : Option (List UInt8) :=
  (X.record_RightHead h1).bind fun r5 =>
  if (!r5) then
    some ([] : (List UInt8))
  else
    (X.code_Writer_Text h1.Path ([] : List UInt8)).bind fun r11 =>
    (run (X.record_HeadBytes_s16 h1) (r11, (0 : Int))).bind fun o16 => match o16 with
    | l23 => X.record_HeadBytes_e16 h1 l23

/-! cartridge/volume.Blocks -/
def volume_Blocks_e26 (l32 : List (List UInt8)) : Option ((List (List UInt8)) × Int) :=
  some (l32, (0 : Int))

def volume_Blocks_s26 (l19 : List Unit_api) (label1 : Int) (at2 : Int) (s : ((List (List UInt8)) × Int)) : Option (((List (List UInt8)) × Int) ⊕ (List (List UInt8) ⊕ ((List (List UInt8)) × Int))) :=
  match s with
  | (out28, x30) =>
    if (decide (x30 < ((l19 ++ ([(Unit_api.mk (4 : Int) (0 : Int) (0 : Int) ([] : (List UInt8)))] : List Unit_api)).length : Int))) then
      (getI (l19 ++ ([(Unit_api.mk (4 : Int) (0 : Int) (0 : Int) ([] : (List UInt8)))] : List Unit_api)) x30).bind fun e38 =>
      (X.frame_Put (Unit_api.mk e38.Kind label1 (wr (at2 + x30)) e38.Load)).bind fun r42 =>
      if (r42.2 != (0 : Int)) then
        some (.inr (.inr (([] : (List (List UInt8))), r42.2)))
      else
        (need ((out28.length + ([r42.1] : List (List UInt8)).length) * 24 ≤ 140737488355328)).bind fun u46 =>
        some (.inl ((out28 ++ ([r42.1] : List (List UInt8))), (wr (x30 + (1 : Int)))))
    else
      some (.inr (.inl out28))

def volume_Blocks_e14 (label1 : Int) (at2 : Int) (l19 : List Unit_api) : Option ((List (List UInt8)) × Int) :=
  (need ((l19.length + ([(Unit_api.mk (4 : Int) (0 : Int) (0 : Int) ([] : (List UInt8)))] : List Unit_api).length) * 48 ≤ 140737488355328)).bind fun u21 =>
  (run (X.volume_Blocks_s26 l19 label1 at2) (([] : List (List UInt8)), (0 : Int))).bind fun o26 => match o26 with
  | .inl l32 => X.volume_Blocks_e26 l32
  | .inr rv26 => some rv26

def volume_Blocks_s14 (s : ((List UInt8) × (List Unit_api))) : Option (((List UInt8) × (List Unit_api)) ⊕ List Unit_api) :=
  match s with
  | (b15, l17) =>
    if (decide ((b15.length : Int) > (0 : Int))) then
      (need (0 ≤ (0 : Int) ∧ (0 : Int) ≤ (min (b15.length : Int) (64 : Int)) ∧ (min (b15.length : Int) (64 : Int)) ≤ b15.length)).bind fun u50 =>
      (need ((l17.length + ([(Unit_api.mk (3 : Int) (0 : Int) (0 : Int) (slc b15 (0 : Int) (min (b15.length : Int) (64 : Int))))] : List Unit_api).length) * 48 ≤ 140737488355328)).bind fun u51 =>
      (need (0 ≤ (min (b15.length : Int) (64 : Int)) ∧ (min (b15.length : Int) (64 : Int)) ≤ (b15.length : Int) ∧ (b15.length : Int) ≤ b15.length)).bind fun u52 =>
      some (.inl ((slc b15 (min (b15.length : Int) (64 : Int)) (b15.length : Int)), (l17 ++ ([(Unit_api.mk (3 : Int) (0 : Int) (0 : Int) (slc b15 (0 : Int) (min (b15.length : Int) (64 : Int))))] : List Unit_api))))
    else
      some (.inr l17)

def volume_Blocks (label1 : Int) (at2 : Int) (h3 : Head_api) (b4 : (List UInt8)) : Option ((List (List UInt8)) × Int) :=
  (X.record_RightHead h3).bind fun r8 =>
  if ((!r8) || ((b4.length : Int) != h3.Len)) then
    some (([] : (List (List UInt8))), (1 : Int))
  else
    (X.record_HeadBytes h3).bind fun r11 =>
    (run (X.volume_Blocks_s14) (b4, ([(Unit_api.mk (2 : Int) (0 : Int) (0 : Int) r11)] : List Unit_api))).bind fun o14 => match o14 with
    | l19 => X.volume_Blocks_e14 label1 at2 l19

/-! cartridge/write.piece -/
def write_piece_j7 (t1 : Tape_api) (h2 : Head_api) (b3 : (List UInt8)) (l9 : List (List UInt8)) : Option ((List (List UInt8)) × Int) :=
  (X.volume_Blocks t1.Label (wr ((t1.Blocks.length : Int) + (l9.length : Int))) h2 b3).bind fun r11 =>
  (need ((l9.length + r11.1.length) * 24 ≤ 140737488355328)).bind fun u13 =>
  some ((l9 ++ r11.1), r11.2)

def write_piece (t1 : Tape_api) (h2 : Head_api) (b3 : (List UInt8)) : Option ((List (List UInt8)) × Int) :=
  if ((t1.Blocks.length : Int) == (0 : Int)) then
    (X.frame_Put (Unit_api.mk (1 : Int) t1.Label (0 : Int) ([(68 : UInt8)] : List UInt8))).bind fun r17 =>
    if (r17.2 != (0 : Int)) then
      some (([] : (List (List UInt8))), r17.2)
    else
      (need ((([] : List (List UInt8)).length + ([r17.1] : List (List UInt8)).length) * 24 ≤ 140737488355328)).bind fun u21 =>
      X.write_piece_j7 t1 h2 b3 (([] : List (List UInt8)) ++ ([r17.1] : List (List UInt8)))
  else
    X.write_piece_j7 t1 h2 b3 ([] : List (List UInt8))

/-! cartridge/write.File -/
def write_File_e22 (l36 : List Step_api) : Option ((List Step_api) × Int) :=
  some (l36, (0 : Int))

def write_File_e57 (c24 : Str) (c25 : Int) (c26 : Int) (e42 : Piece_api) (c29 : Int) (c30 : Int) (c31 : Bool) (x34 : Int) (l65 : List Step_api) : Option ((Str × Int × Int × Int × Int × Int × Int × Bool × (List Step_api) × Int) ⊕ (List Step_api ⊕ ((List Step_api) × Int))) :=
  some (.inl (c24, c25, c26, e42.From, e42.Len, c29, c30, c31, l65, (wr (x34 + (1 : Int)))))

def write_File_s57 (r52 : ((List (List UInt8)) × Int)) (e42 : Piece_api) (s : ((List Step_api) × Int)) : Option (((List Step_api) × Int) ⊕ List Step_api) :=
  match s with
  | (out60, x62) =>
    if (decide (x62 < (r52.1.length : Int))) then
      (getI r52.1 x62).bind fun e70 =>
      (need ((out60.length + ([(Step_api.mk e42.Tape e70)] : List Step_api).length) * 32 ≤ 140737488355328)).bind fun u71 =>
      some (.inl ((out60 ++ ([(Step_api.mk e42.Tape e70)] : List Step_api)), (wr (x62 + (1 : Int)))))
    else
      some (.inr out60)

def write_File_s22 (r9 : ((List Piece_api) × Int)) (l1 : (List Tape_api)) (b4 : (List UInt8)) (s : (Str × Int × Int × Int × Int × Int × Int × Bool × (List Step_api) × Int)) : Option ((Str × Int × Int × Int × Int × Int × Int × Bool × (List Step_api) × Int) ⊕ (List Step_api ⊕ ((List Step_api) × Int))) :=
  match s with
  | (c24, c25, c26, c27, c28, c29, c30, c31, out33, x34) =>
    if (decide (x34 < (r9.1.length : Int))) then
      (getI r9.1 x34).bind fun e42 =>
      (X.record_RightHead (Head_api.mk c24 c25 c26 e42.From e42.Len c29 c30 c31)).bind fun r47 =>
      if (!r47) then
        some (.inr (.inr (([] : (List Step_api)), (1 : Int))))
      else
        (getI l1 e42.Tape).bind fun e50 =>
        (need (0 ≤ e42.From ∧ e42.From ≤ (wr (e42.From + e42.Len)) ∧ (wr (e42.From + e42.Len)) ≤ b4.length)).bind fun u51 =>
        (X.write_piece e50 (Head_api.mk c24 c25 c26 e42.From e42.Len c29 c30 c31) (slc b4 e42.From (wr (e42.From + e42.Len)))).bind fun r52 =>
        if (r52.2 != (0 : Int)) then
          some (.inr (.inr (([] : (List Step_api)), r52.2)))
        else
          (run (X.write_File_s57 r52 e42) (out33, (0 : Int))).bind fun o57 => match o57 with
          | l65 => X.write_File_e57 c24 c25 c26 e42 c29 c30 c31 x34 l65
    else
      some (.inr (.inl out33))

def write_File (l1 : (List Tape_api)) (seals2 : (List Seal_api)) (h3 : Head_api) (b4 : (List UInt8)) : Option ((List Step_api) × Int) :=
  (X.write_Rooms l1 seals2).bind fun r8 =>
  (X.span_Plan r8 (b4.length : Int)).bind fun r9 =>
  if (r9.2 != (0 : Int)) then
    some (([] : (List Step_api)), r9.2)
  else
    (X.castagnoli_Sum b4).bind fun r14 =>
    if (h3.Size != (b4.length : Int)) then
      some (([] : (List Step_api)), (1 : Int))
    else
      (run (X.write_File_s22 r9 l1 b4) (h3.Path, h3.Version, h3.Size, h3.From, h3.Len, h3.Serial, (r14.toNat : Int), h3.Gone, ([] : List Step_api), (0 : Int))).bind fun o22 => match o22 with
      | .inl l36 => X.write_File_e22 l36
      | .inr rv22 => some rv22

/-! slices.Clone[[][]byte,[]byte] -/
def slices_Clone_LLbyte_Lbyte_or (s1 : (List (List UInt8))) : Option (List (List UInt8)) :=
  nilU s1 fun z5 =>
  if z5 then
    some ([] : List (List UInt8))
  else
    (need (s1.length * 24 ≤ 140737488355328)).bind fun u9 =>
    some s1

/-! cartridge/tape.Clone -/
def tape_Clone_e10 (t1 : Tape_api) (l18 : List (List UInt8)) : Option Tape_api :=
  some (Tape_api.mk t1.Label t1.Cap l18 t1.Lost)

def tape_Clone_s10 (r6 : (List (List UInt8))) (s : ((List (List UInt8)) × Int)) : Option (((List (List UInt8)) × Int) ⊕ List (List UInt8)) :=
  match s with
  | (l13, x15) =>
    if (decide (x15 < (r6.length : Int))) then
      (getI l13 x15).bind fun e25 =>
      (X.slices_Clone_Lbyte_byte e25).bind fun r26 =>
      (getI l13 x15).bind fun e27 =>
      some (.inl ((l13.set x15.toNat r26), (wr (x15 + (1 : Int)))))
    else
      some (.inr l13)

def tape_Clone (t1 : Tape_api) : Option Tape_api :=
  (X.slices_Clone_LLbyte_Lbyte_or t1.Blocks).bind fun r6 =>
  (run (X.tape_Clone_s10 r6) (r6, (0 : Int))).bind fun o10 => match o10 with
  | l18 => X.tape_Clone_e10 t1 l18

/-! cartridge/tape.CloneAll -/
def tape_CloneAll_or_e7 (l12 : List Tape_api) : Option (List Tape_api) :=
  some l12

def tape_CloneAll_or_s7 (l1 : (List Tape_api)) (s : ((List Tape_api) × Int)) : Option (((List Tape_api) × Int) ⊕ List Tape_api) :=
  match s with
  | (out9, x10) =>
    if (decide (x10 < (l1.length : Int))) then
      (getI l1 x10).bind fun e18 =>
      (X.tape_Clone e18).bind fun r20 =>
      (need ((out9.length + ([r20] : List Tape_api).length) * 48 ≤ 140737488355328)).bind fun u21 =>
      some (.inl ((out9 ++ ([r20] : List Tape_api)), (wr (x10 + (1 : Int)))))
    else
      some (.inr out9)

def tape_CloneAll_or (l1 : (List Tape_api)) : Option (List Tape_api) :=
  (run (X.tape_CloneAll_or_s7 l1) (([] : List Tape_api), (0 : Int))).bind fun o7 => match o7 with
  | l12 => X.tape_CloneAll_or_e7 l12

/-! slices.IndexFunc[[][]byte,[]byte] -/
def slices_IndexFunc_LLbyte_Lbyte_e6  : Option Int :=
  some ((-1) : Int)

def slices_IndexFunc_LLbyte_Lbyte_s6 (s1 : (List (List UInt8))) (g2 : (List UInt8) → Option Bool) (s : Int) : Option (Int ⊕ (Unit ⊕ Int)) :=
  match s with
  | x7 =>
    if (decide (x7 < (s1.length : Int))) then
      (getI s1 x7).bind fun e14 =>
      (g2 e14).bind fun r15 =>
      if r15 then
        some (.inr (.inr x7))
      else
        some (.inl (wr (x7 + (1 : Int))))
    else
      some (.inr (.inl ()))

def slices_IndexFunc_LLbyte_Lbyte (s1 : (List (List UInt8))) (g2 : (List UInt8) → Option Bool) : Option Int :=
  (run (X.slices_IndexFunc_LLbyte_Lbyte_s6 s1 g2) (0 : Int)).bind fun o6 => match o6 with
  | .inl _ => X.slices_IndexFunc_LLbyte_Lbyte_e6
  | .inr rv6 => some rv6

/-! slices.ContainsFunc[[][]byte,[]byte] -/
def slices_ContainsFunc_LLbyte_Lbyte (s1 : (List (List UInt8))) (g2 : (List UInt8) → Option Bool) : Option Bool :=
  (X.slices_IndexFunc_LLbyte_Lbyte s1 g2).bind fun r5 =>
  some (decide (r5 ≥ (0 : Int)))

/-! cartridge/tape.wrong -/
def tape_wrong (b1 : (List UInt8)) : Option Bool :=
  some (((b1.length : Int) == (0 : Int)) || (decide ((b1.length : Int) > (94 : Int))))

/-! cartridge/tape.Clone -/
def tape_Clone_os_e10 (t1 : Tape_api) (l18 : List (List UInt8)) : Option Tape_api :=
  some (Tape_api.mk t1.Label t1.Cap l18 t1.Lost)

def tape_Clone_os_s10 (r6 : (List (List UInt8))) (s : ((List (List UInt8)) × Int)) : Option (((List (List UInt8)) × Int) ⊕ List (List UInt8)) :=
  match s with
  | (l13, x15) =>
    if (decide (x15 < (r6.length : Int))) then
      (getI l13 x15).bind fun e25 =>
      (X.slices_Clone_Lbyte_byte e25).bind fun r26 =>
      (getI l13 x15).bind fun e27 =>
      some (.inl ((l13.set x15.toNat r26), (wr (x15 + (1 : Int)))))
    else
      some (.inr l13)

def tape_Clone_os (t1 : Tape_api) : Option Tape_api :=
  (X.slices_Clone_LLbyte_Lbyte_or t1.Blocks).bind fun r6 =>
  (run (X.tape_Clone_os_s10 r6) (r6, (0 : Int))).bind fun o10 => match o10 with
  | l18 => X.tape_Clone_os_e10 t1 l18

/-! cartridge/tape.Load -/
def tape_Load (t1 : Tape_api) : Option ((Option (Int × Int × (List (List UInt8)) × Bool)) × Int) :=
  ((optG (!(((((decide (t1.Label < (1 : Int))) || (decide (t1.Cap < (0 : Int)))) || (decide (t1.Cap > (64 : Int)))) || (decide ((t1.Blocks.length : Int) > t1.Cap))))) (X.slices_ContainsFunc_LLbyte_Lbyte t1.Blocks (fun a1 => X.tape_wrong a1)))).bind fun r5 =>
  if (((((decide (t1.Label < (1 : Int))) || (decide (t1.Cap < (0 : Int)))) || (decide (t1.Cap > (64 : Int)))) || (decide ((t1.Blocks.length : Int) > t1.Cap))) || r5) then
    some (none, (1 : Int))
  else
    if t1.Lost then
      some (none, (9 : Int))
    else
      (X.tape_Clone_os t1).bind fun r10 =>
      some ((some (r10.Label, r10.Cap, r10.Blocks, r10.Lost)), (0 : Int))

/-! (*cartridge/tape.Drive).Append -/
def tape_Drive_Append_nil (b1 : (List UInt8)) : Option Int :=
  some (5 : Int)

/-! (*cartridge/tape.Drive).Tape -/
def tape_Drive_Tape_nil  : Option Tape_api :=
  some (Tape_api.mk (0 : Int) (0 : Int) ([] : (List (List UInt8))) false)

/-! (*cartridge/tape.Drive).Room -/
def tape_Drive_Room (Label1 : Int) (Cap2 : Int) (Blocks3 : (List (List UInt8))) (Lost4 : Bool) : Option Int :=
  some (wr (Cap2 - (Blocks3.length : Int)))

/-! (*cartridge/tape.Drive).Append -/
def tape_Drive_Append (b7 : (List UInt8)) (Label1 : Int) (Cap2 : Int) (Blocks3 : (List (List UInt8))) (Lost4 : Bool) : Option (Int × (Int × Int × (List (List UInt8)) × Bool)) :=
  (X.tape_wrong b7).bind fun r12 =>
  if r12 then
    some ((1 : Int), (Label1, Cap2, Blocks3, Lost4))
  else
    (X.tape_Drive_Room Label1 Cap2 Blocks3 Lost4).bind fun r15 =>
    if (r15 == (0 : Int)) then
      some ((6 : Int), (Label1, Cap2, Blocks3, Lost4))
    else
      (X.slices_Clone_Lbyte_byte b7).bind fun r18 =>
      (need ((Blocks3.length + ([r18] : List (List UInt8)).length) * 24 ≤ 140737488355328)).bind fun u19 =>
      some ((0 : Int), (Label1, Cap2, (Blocks3 ++ ([r18] : List (List UInt8))), Lost4))

/-! (*cartridge/tape.Drive).Tape -/
def tape_Drive_Tape (Label1 : Int) (Cap2 : Int) (Blocks3 : (List (List UInt8))) (Lost4 : Bool) : Option Tape_api :=
  (X.tape_Clone (Tape_api.mk Label1 Cap2 Blocks3 Lost4)).bind fun r12 =>
  some r12

/-! cartridge/write.lay -/
def write_lay (at3 : Int) (b4 : (List UInt8)) (l1 : (List Tape_api)) : Option (List Tape_api) :=
  if ((decide (at3 < (0 : Int))) || (decide (at3 ≥ (l1.length : Int)))) then
    some l1
  else
    (getI l1 at3).bind fun e8 =>
    (X.tape_Load e8).bind fun r9 =>
    match r9.1 with
    | none =>
      ((optG ((r9.2 == (0 : Int))) (X.tape_Drive_Append_nil b4))).bind fun r11 =>
      if ((r9.2 == (0 : Int)) && (r11 == (0 : Int))) then
        (X.tape_Drive_Tape_nil).bind fun r12 =>
        (getI l1 at3).bind fun e13 =>
        some (l1.set at3.toNat r12)
      else
        some l1
    | some o14 =>
      if (r9.2 == (0 : Int)) then
        (X.tape_Drive_Append b4 o14.1 o14.2.1 o14.2.2.1 o14.2.2.2).bind fun r18 =>
        if (r18.1 == (0 : Int)) then
          (X.tape_Drive_Tape r18.2.1 r18.2.2.1 r18.2.2.2.1 r18.2.2.2.2).bind fun r21 =>
          (getI l1 at3).bind fun e22 =>
          some (l1.set at3.toNat r21)
        else
          some l1
      else
        some l1

def write_layL (at3 : Int) (b4 : (List UInt8)) (l1 : (List Tape_api)) : Option (List Tape_api) :=
  (X.write_lay at3 b4 l1).bind fun q => if q.length = l1.length then some q else none

/-! cartridge/write.Do -/
def write_Do_e11 (l16 : List Tape_api) : Option ((List Tape_api) × Bool) :=
  some (l16, false)

def write_Do_j26 (l28 : List Tape_api) : Option (((List Tape_api) × Int) ⊕ (List Tape_api ⊕ ((List Tape_api) × Bool))) :=
  some (.inr (.inr (l28, true)))

def write_Do_s11 (steps2 : (List Step_api)) (stop3 : Int) (bytes4 : Int) (s : ((List Tape_api) × Int)) : Option (((List Tape_api) × Int) ⊕ (List Tape_api ⊕ ((List Tape_api) × Bool))) :=
  match s with
  | (out13, x14) =>
    if (decide (x14 < (steps2.length : Int))) then
      (getI steps2 x14).bind fun e22 =>
      if (x14 == stop3) then
        if (decide (bytes4 > (0 : Int))) then
          (need (0 ≤ (0 : Int) ∧ (0 : Int) ≤ (min bytes4 (e22.Block.length : Int)) ∧ (min bytes4 (e22.Block.length : Int)) ≤ e22.Block.length)).bind fun u31 =>
          (X.write_layL e22.Tape (slc e22.Block (0 : Int) (min bytes4 (e22.Block.length : Int))) out13).bind fun r32 =>
          X.write_Do_j26 r32
        else
          X.write_Do_j26 out13
      else
        (X.write_layL e22.Tape e22.Block out13).bind fun r33 =>
        some (.inl (r33, (wr (x14 + (1 : Int)))))
    else
      some (.inr (.inl out13))

def write_Do (l1 : (List Tape_api)) (steps2 : (List Step_api)) (stop3 : Int) (bytes4 : Int) : Option ((List Tape_api) × Bool) :=
  (X.tape_CloneAll_or l1).bind fun r7 =>
  (run (X.write_Do_s11 steps2 stop3 bytes4) (r7, (0 : Int))).bind fun o11 => match o11 with
  | .inl l16 => X.write_Do_e11 l16
  | .inr rv11 => some rv11

/-! cartridge/cartridgelaw20.num -/
def cartridgelaw20_num (e1 : Int) : Option Int :=
  some e1

/-! cartridge/cartridgelaw20.alive -/
def cartridgelaw20_alive  : Option Bool :=
  (X.write_File ([(Tape_api.mk (1 : Int) (9 : Int) ([] : (List (List UInt8))) false)] : List Tape_api) ([] : List Seal_api) (Head_api.mk (Str.mk [97]) (1 : Int) (1 : Int) (0 : Int) (0 : Int) (1 : Int) (0 : Int) false) ([(120 : UInt8)] : List UInt8)).bind fun r5 =>
  (X.write_Do ([(Tape_api.mk (1 : Int) (9 : Int) ([] : (List (List UInt8))) false)] : List Tape_api) r5.1 ((-1) : Int) (0 : Int)).bind fun r7 =>
  (X.write_Rooms ([] : List Tape_api) ([] : List Seal_api)).bind fun r9 =>
  ((optG (((r9.length : Int) == (0 : Int))) (X.cartridgelaw20_num r5.2))).bind fun r10 =>
  ((optG ((((((r9.length : Int) == (0 : Int)) && (r10 == (0 : Int))) && ((r5.1.length : Int) == (4 : Int))) && ((r7.1.length : Int) == (1 : Int)))) (getI r7.1 (0 : Int)))).bind fun e11 =>
  some (((((((r9.length : Int) == (0 : Int)) && (r10 == (0 : Int))) && ((r5.1.length : Int) == (4 : Int))) && ((r7.1.length : Int) == (1 : Int))) && ((e11.Blocks.length : Int) == (4 : Int))) && (!r7.2))

/-! (*cartridge/cartridgeref1.Writer).Byte -/
def cartridgeref1_Writer_Byte (c4 : UInt8) (B1 : (List UInt8)) : Option (List UInt8) :=
  (need ((B1.length + ([c4] : List UInt8).length) * 1 ≤ 140737488355328)).bind fun u5 =>
  some (B1 ++ ([c4] : List UInt8))

/-! (*cartridge/cartridgeref1.Writer).Int -/
def cartridgeref1_Writer_Int (n4 : Int) (B1 : (List UInt8)) : Option (List UInt8) :=
  (need ((B1.length + ([(u8 (((shru64 (u64 n4) 24) &&& (255 : UInt64)).toNat : Int)), (u8 (((shru64 (u64 n4) 16) &&& (255 : UInt64)).toNat : Int)), (u8 (((shru64 (u64 n4) 8) &&& (255 : UInt64)).toNat : Int)), (u8 (((u64 n4) &&& (255 : UInt64)).toNat : Int))] : List UInt8).length) * 1 ≤ 140737488355328)).bind fun u6 =>
  some (B1 ++ ([(u8 (((shru64 (u64 n4) 24) &&& (255 : UInt64)).toNat : Int)), (u8 (((shru64 (u64 n4) 16) &&& (255 : UInt64)).toNat : Int)), (u8 (((shru64 (u64 n4) 8) &&& (255 : UInt64)).toNat : Int)), (u8 (((u64 n4) &&& (255 : UInt64)).toNat : Int))] : List UInt8))

/-! cartridge/cartridgeref1.More -/
def cartridgeref1_More_e7 (c10 : UInt32) : Option UInt32 :=
  some (c10 ^^^ (4294967295 : UInt32))

def cartridgeref1_More_e18 (i9 : Int) (c21 : UInt32) : Option ((UInt32 × Int) ⊕ UInt32) :=
  some (.inl (c21, (wr (i9 + (1 : Int)))))

def cartridgeref1_More_j24 (k20 : Int) (c25 : UInt32) : Option ((UInt32 × Int) ⊕ UInt32) :=
  some (.inl (c25, (wr (k20 + (1 : Int)))))

def cartridgeref1_More_s18 (s : (UInt32 × Int)) : Option ((UInt32 × Int) ⊕ UInt32) :=
  match s with
  | (c19, k20) =>
    if (decide (k20 < (8 : Int))) then
      if ((c19 &&& (1 : UInt32)) == (1 : UInt32)) then
        X.cartridgeref1_More_j24 k20 ((shr32 c19 1) ^^^ (2197175160 : UInt32))
      else
        X.cartridgeref1_More_j24 k20 (shr32 c19 1)
    else
      some (.inr c19)

def cartridgeref1_More_s7 (b2 : (List UInt8)) (s : (UInt32 × Int)) : Option ((UInt32 × Int) ⊕ UInt32) :=
  match s with
  | (c8, i9) =>
    if (decide (i9 < (b2.length : Int))) then
      (getI b2 i9).bind fun e16 =>
      (run (X.cartridgeref1_More_s18) ((c8 ^^^ (u32 (e16.toNat : Int))), (0 : Int))).bind fun o18 => match o18 with
      | c21 => X.cartridgeref1_More_e18 i9 c21
    else
      some (.inr c8)

def cartridgeref1_More (sum1 : UInt32) (b2 : (List UInt8)) : Option UInt32 :=
  (run (X.cartridgeref1_More_s7 b2) ((sum1 ^^^ (4294967295 : UInt32)), (0 : Int))).bind fun o7 => match o7 with
  | c10 => X.cartridgeref1_More_e7 c10

/-! cartridge/cartridgeref1.Crc -/
def cartridgeref1_Crc (b1 : (List UInt8)) : Option UInt32 :=
  (X.cartridgeref1_More (0 : UInt32) b1).bind fun r4 =>
  some r4

/-! cartridge/cartridgeref1.PutFrame -/
def cartridgeref1_PutFrame_or_j4 (u1 : Unit_api) (most5 : Int) : Option ((List UInt8) × Int) :=
  if ((((((decide (u1.Kind < (1 : Int))) || (decide (u1.Kind > (6 : Int)))) || (decide (u1.Label < (1 : Int)))) || (decide (u1.Label > (2147483647 : Int)))) || (decide (u1.Number < (0 : Int)))) || (decide (u1.Number > (2147483647 : Int)))) then
    some (([] : List UInt8), (1 : Int))
  else
    if (decide ((u1.Load.length : Int) > most5)) then
      some (([] : List UInt8), (4 : Int))
    else
      (X.cartridgeref1_Writer_Byte (u8 u1.Kind) ([] : List UInt8)).bind fun r17 =>
      (X.cartridgeref1_Writer_Int u1.Label r17).bind fun r21 =>
      (X.cartridgeref1_Writer_Int u1.Number r21).bind fun r25 =>
      (need ((r25.length + ([(u8 (shr64 (u1.Load.length : Int) ((8 : UInt64).toNat : Int))), (u8 (and64 (u1.Load.length : Int) (255 : Int)))] : List UInt8).length) * 1 ≤ 140737488355328)).bind fun u29 =>
      (need (((r25 ++ ([(u8 (shr64 (u1.Load.length : Int) ((8 : UInt64).toNat : Int))), (u8 (and64 (u1.Load.length : Int) (255 : Int)))] : List UInt8)).length + u1.Load.length) * 1 ≤ 140737488355328)).bind fun u31 =>
      (need (0 ≤ (wr (most5 - (u1.Load.length : Int))) ∧ (((r25 ++ ([(u8 (shr64 (u1.Load.length : Int) ((8 : UInt64).toNat : Int))), (u8 (and64 (u1.Load.length : Int) (255 : Int)))] : List UInt8)) ++ u1.Load).length + (wr (most5 - (u1.Load.length : Int))).toNat) * 1 ≤ 140737488355328)).bind fun u33 =>
      (X.cartridgeref1_Crc (((r25 ++ ([(u8 (shr64 (u1.Load.length : Int) ((8 : UInt64).toNat : Int))), (u8 (and64 (u1.Load.length : Int) (255 : Int)))] : List UInt8)) ++ u1.Load) ++ (List.replicate (wr (most5 - (u1.Load.length : Int))).toNat (0 : UInt8)))).bind fun r35 =>
      (X.cartridgeref1_Writer_Int (r35.toNat : Int) (((r25 ++ ([(u8 (shr64 (u1.Load.length : Int) ((8 : UInt64).toNat : Int))), (u8 (and64 (u1.Load.length : Int) (255 : Int)))] : List UInt8)) ++ u1.Load) ++ (List.replicate (wr (most5 - (u1.Load.length : Int))).toNat (0 : UInt8)))).bind fun r36 =>
      some (r36, (0 : Int))

def cartridgeref1_PutFrame_or (u1 : Unit_api) : Option ((List UInt8) × Int) :=
  if (u1.Kind == (6 : Int)) then
    X.cartridgeref1_PutFrame_or_j4 u1 (79 : Int)
  else
    X.cartridgeref1_PutFrame_or_j4 u1 (64 : Int)

/-! cartridge/cartridgelaw20.WriteRooms -/
def cartridgelaw20_WriteRooms_j35 (c24 : Int) (c25 : Int) (l38 : List (List UInt8)) (c39 : Bool) (want40 : Int) (s41 : (List Seal_api)) : Option Bool :=
  (X.write_Rooms ([(Tape_api.mk c24 c25 l38 c39)] : List Tape_api) s41).bind fun r43 =>
  ((optG (((r43.length : Int) == (1 : Int))) (getI r43 (0 : Int)))).bind fun e45 =>
  some (((r43.length : Int) == (1 : Int)) && (e45 == want40))

def cartridgelaw20_WriteRooms_j30 (which3 : Int) (c24 : Int) (c25 : Int) (l27 : List (List UInt8)) (c28 : Bool) (blocks2 : Int) (want33 : Int) : Option Bool :=
  if (which3 == (1 : Int)) then
    X.cartridgelaw20_WriteRooms_j35 c24 c25 l27 true (0 : Int) ([] : List Seal_api)
  else
    if (which3 == (2 : Int)) then
      X.cartridgelaw20_WriteRooms_j35 c24 c25 l27 c28 (0 : Int) ([(Seal_api.mk (1 : Int) (0 : Int) (1 : Int) (1 : Int) ([(3 : Int), (4 : Int)] : List Int))] : List Seal_api)
    else
      if (which3 == (3 : Int)) then
        if (decide (blocks2 > (0 : Int))) then
          (getI l27 (wr (blocks2 - (1 : Int)))).bind fun e54 =>
          (getI l27 (wr (blocks2 - (1 : Int)))).bind fun e56 =>
          (getI e54 (7 : Int)).bind fun e57 =>
          X.cartridgelaw20_WriteRooms_j35 c24 c25 (l27.set ((wr (blocks2 - (1 : Int))).toNat) (e54.set (7 : Int).toNat (5 : UInt8))) c28 (0 : Int) ([] : List Seal_api)
        else
          X.cartridgelaw20_WriteRooms_j35 c24 c25 l27 c28 want33 ([] : List Seal_api)
      else
        X.cartridgelaw20_WriteRooms_j35 c24 c25 l27 c28 want33 ([] : List Seal_api)

def cartridgelaw20_WriteRooms_e15 (blocks2 : Int) (most1 : Int) (which3 : Int) (c24 : Int) (c25 : Int) (l27 : List (List UInt8)) (c28 : Bool) : Option Bool :=
  if ((blocks2 == (0 : Int)) && (decide ((wr (most1 - blocks2)) > (0 : Int)))) then
    X.cartridgelaw20_WriteRooms_j30 which3 c24 c25 l27 c28 blocks2 (wr ((wr (most1 - blocks2)) - (1 : Int)))
  else
    X.cartridgelaw20_WriteRooms_j30 which3 c24 c25 l27 c28 blocks2 (wr (most1 - blocks2))

def cartridgelaw20_WriteRooms_s15 (blocks2 : Int) (s : (Int × Int × (List (List UInt8)) × Bool × Int)) : Option ((Int × Int × (List (List UInt8)) × Bool × Int) ⊕ (Int × Int × List (List UInt8) × Bool)) :=
  match s with
  | (c17, c18, l20, c21, i22) =>
    if (decide (i22 < blocks2)) then
      (X.cartridgeref1_PutFrame_or (Unit_api.mk (4 : Int) (3 : Int) i22 ([] : (List UInt8)))).bind fun r63 =>
      (need ((l20.length + ([r63.1] : List (List UInt8)).length) * 24 ≤ 140737488355328)).bind fun u65 =>
      some (.inl (c17, c18, (l20 ++ ([r63.1] : List (List UInt8))), c21, (wr (i22 + (1 : Int)))))
    else
      some (.inr (c17, c18, l20, c21))

def cartridgelaw20_WriteRooms (most1 : Int) (blocks2 : Int) (which3 : Int) : Option Bool :=
  (X.cartridgelaw20_alive).bind fun r6 =>
  if (((((((!r6) || (decide (most1 < (0 : Int)))) || (decide (most1 > (30 : Int)))) || (decide (blocks2 < (0 : Int)))) || (decide (blocks2 > most1))) || (decide (which3 < (0 : Int)))) || (decide (which3 > (3 : Int)))) then
    some r6
  else
    (run (X.cartridgelaw20_WriteRooms_s15 blocks2) ((3 : Int), most1, ([] : List (List UInt8)), false, (0 : Int))).bind fun o15 => match o15 with
    | (c24, c25, l27, c28) => X.cartridgelaw20_WriteRooms_e15 blocks2 most1 which3 c24 c25 l27 c28

end
end X
end Go.AX
