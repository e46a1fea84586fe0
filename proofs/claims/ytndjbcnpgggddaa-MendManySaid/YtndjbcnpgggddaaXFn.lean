import Derived.Test.YtndjbcnpgggddaaXT
set_option linter.unusedVariables false
namespace Go.AX
open Go.AM
namespace X
def record_within (n1:Int) (low2:Int) (high3:Int):Option Bool:=
 some ((decide (n1≥low2))&&(decide (n1≤high3)))
def slices_Index_Lint_int_e6:Option Int:=
 some ((-1):Int)
def slices_Index_Lint_int_s6 (s1:(List Int)) (v2:Int) (s:Int):Option (Int ⊕ (Unit ⊕ Int)):=
 match s with
 |x7=>
  if (decide (x7<(s1.length:Int))) then
   (getI s1 x7).bind fun e14=>
   if (v2==e14) then
    some (.inr (.inr x7))
   else
    some (.inl (wr (x7+(1:Int))))
  else
   some (.inr (.inl ()))
def slices_Index_Lint_int (s1:(List Int)) (v2:Int):Option Int:=
 (run (X.slices_Index_Lint_int_s6 s1 v2) (0:Int)).bind fun o6=>match o6 with
 | .inl _=>X.slices_Index_Lint_int_e6
 | .inr rv6=>some rv6
def slices_Contains_Lint_int (s1:(List Int)) (v2:Int):Option Bool:=
 (X.slices_Index_Lint_int s1 v2).bind fun r5=>
 some (decide (r5≥(0:Int)))
def record_RightSeal_e16:Option Bool:=
 some true
def record_RightSeal_s16 (s1:Seal_api) (s:Int):Option (Int ⊕ (Unit ⊕ Bool)):=
 match s with
 |x17=>
  if (decide (x17<(s1.Labels.length:Int))) then
   (getI s1.Labels x17).bind fun e23=>
   (X.record_within e23 (1:Int) (2147483647:Int)).bind fun r25=>
   ((optG (!((!r25))) (need (0≤(0:Int)∧(0:Int)≤x17∧x17≤s1.Labels.length)))).bind fun u26=>
   ((optG (!((!r25))) (X.slices_Contains_Lint_int (slc s1.Labels (0:Int) x17) e23))).bind fun r27=>
   if ((!r25)||r27) then
    some (.inr (.inr false))
   else
    some (.inl (wr (x17+(1:Int))))
  else
   some (.inr (.inl ()))
def record_RightSeal (s1:Seal_api):Option Bool:=
 (X.record_within s1.Number (1:Int) (1073741824:Int)).bind fun r5=>
 ((optG (!((!r5))) (X.record_within s1.Data (1:Int) (14:Int)))).bind fun r6=>
 ((optG (!(((!r5)||(!r6)))) (X.record_within s1.Parity (1:Int) (wr ((14:Int)-s1.Data))))).bind fun r7=>
 if (((!r5)||(!r6))||(!r7)) then
  some false
 else
  (X.record_within s1.Index (0:Int) (wr ((wr (s1.Data+s1.Parity))-(1:Int)))).bind fun r12=>
  if ((!r12)||((s1.Labels.length:Int) !=(wr (s1.Data+s1.Parity)))) then
   some false
  else
   (run (X.record_RightSeal_s16 s1) (0:Int)).bind fun o16=>match o16 with
   | .inl _=>X.record_RightSeal_e16
   | .inr rv16=>some rv16
def mend_place (s1:Seal_api) (label2:Int):Option (Int×Bool):=
 (X.record_RightSeal s1).bind fun r6=>
 if (!r6) then
  some ((0:Int),false)
 else
  (X.slices_Index_Lint_int s1.Labels label2).bind fun r9=>
  some (r9,((decide (r9≥(0:Int)))&&(decide (r9<s1.Data))))
def slices_IndexFunc_Lapi_Tape_api_Tape_e6:Option Int:=
 some ((-1):Int)
def slices_IndexFunc_Lapi_Tape_api_Tape_s6 (s1:(List Tape_api)) (g2:Tape_api→Option Bool) (s:Int):Option (Int ⊕ (Unit ⊕ Int)):=
 match s with
 |x7=>
  if (decide (x7<(s1.length:Int))) then
   (getI s1 x7).bind fun e14=>
   (g2 e14).bind fun r15=>
   if r15 then
    some (.inr (.inr x7))
   else
    some (.inl (wr (x7+(1:Int))))
  else
   some (.inr (.inl ()))
def slices_IndexFunc_Lapi_Tape_api_Tape (s1:(List Tape_api)) (g2:Tape_api→Option Bool):Option Int:=
 (run (X.slices_IndexFunc_Lapi_Tape_api_Tape_s6 s1 g2) (0:Int)).bind fun o6=>match o6 with
 | .inl _=>X.slices_IndexFunc_Lapi_Tape_api_Tape_e6
 | .inr rv6=>some rv6
def mend_member_c1 (t1:Tape_api) (c2:Int):Option Bool:=
 some (t1.Label==c2)
def mend_member (l1:(List Tape_api)) (label2:Int):Option Tape_api:=
 (X.slices_IndexFunc_Lapi_Tape_api_Tape l1 (fun a1=>X.mend_member_c1 a1 label2)).bind fun r6=>
 if (decide (r6<(0:Int))) then
  some (Tape_api.mk label2 (0:Int) ([]:(List (List UInt8))) true)
 else
  (getI l1 r6).bind fun e11=>
  some e11
def slices_Clone_Lbyte_byte (s1:(List UInt8)):Option (List UInt8):=
 nilU s1 fun z5=>
 if z5 then
  some ([]:(List UInt8))
 else
  (need (s1.length*1≤140737488355328)).bind fun u9=>
  some s1
def code_NewReader (b1:(List UInt8)):Option ((List UInt8)×Bool):=
 (X.slices_Clone_Lbyte_byte b1).bind fun r4=>
 some ((Reader_code.mk r4 false).b_,(Reader_code.mk r4 false).bad_)
def code_Reader_take (n4:Int) (b1:(List UInt8)) (bad2:Bool):Option ((List UInt8)×((List UInt8)×Bool)):=
 if bad2 then
  some (([]:(List UInt8)),(b1,bad2))
 else
  if (decide (n4>(b1.length:Int))) then
   some (([]:(List UInt8)),(([]:(List UInt8)),true))
  else
   (need (0≤(0:Int)∧(0:Int)≤n4∧n4≤b1.length)).bind fun u14=>
   (need (0≤n4∧n4≤(b1.length:Int)∧(b1.length:Int)≤b1.length)).bind fun u16=>
   some ((slc b1 (0:Int) n4),((slc b1 n4 (b1.length:Int)),bad2))
def code_Reader_Byte (b1:(List UInt8)) (bad2:Bool):Option (UInt8×((List UInt8)×Bool)):=
 (X.code_Reader_take (1:Int) b1 bad2).bind fun r6=>
 if ((r6.1.length:Int)==(0:Int)) then
  some ((0:UInt8),(r6.2.1,r6.2.2))
 else
  (getI r6.1 (0:Int)).bind fun e12=>
  some (e12,(r6.2.1,r6.2.2))
def code_Reader_Int_e10 (r8:((List UInt8)×((List UInt8)×Bool))) (n15:UInt32):Option (Int×((List UInt8)×Bool)):=
 some ((n15.toNat:Int),(r8.2.1,r8.2.2))
def code_Reader_Int_s10 (r8:((List UInt8)×((List UInt8)×Bool))) (s:(UInt32×Int)):Option ((UInt32×Int) ⊕ UInt32):=
 match s with
 |(n12,x13)=>
  if (decide (x13<(r8.1.length:Int))) then
   (getI r8.1 x13).bind fun e21=>
   some (.inl (((shl32 n12 8)|||(u32 (e21.toNat:Int))),(wr (x13+(1:Int)))))
  else
   some (.inr n12)
def code_Reader_Int (b1:(List UInt8)) (bad2:Bool):Option (Int×((List UInt8)×Bool)):=
 (X.code_Reader_take (4:Int) b1 bad2).bind fun r8=>
 (run (X.code_Reader_Int_s10 r8) ((0:UInt32),(0:Int))).bind fun o10=>match o10 with
 |n15=>X.code_Reader_Int_e10 r8 n15
def code_Reader_Raw (n4:Int) (b1:(List UInt8)) (bad2:Bool):Option ((List UInt8)×((List UInt8)×Bool)):=
 (X.code_Reader_take (max (0:Int) n4) b1 bad2).bind fun r7=>
 (X.slices_Clone_Lbyte_byte r7.1).bind fun r9=>
 some (r9,(r7.2.1,r7.2.2))
def code_Reader_Bad (b1:(List UInt8)) (bad2:Bool):Option Bool:=
 some bad2
def frame_room (kind1:Int):Option Int:=
 if (kind1==(6:Int)) then
  some (79:Int)
 else
  some (64:Int)
def frame_check_j8 (u1:Unit_api):Option Int:=
 (X.frame_room u1.Kind).bind fun r12=>
 if (decide ((u1.Load.length:Int)>r12)) then
  some (4:Int)
 else
  some (0:Int)
def frame_check (u1:Unit_api):Option Int:=
 if ((((decide (u1.Label<(1:Int)))||(decide (u1.Label>(2147483647:Int))))||(decide (u1.Number<(0:Int))))||(decide (u1.Number>(2147483647:Int)))) then
  some (1:Int)
 else
  if (u1.Kind==(1:Int)) then
   X.frame_check_j8 u1
  else
   if (u1.Kind==(2:Int)) then
    X.frame_check_j8 u1
   else
    if (u1.Kind==(3:Int)) then
     X.frame_check_j8 u1
    else
     if (u1.Kind==(4:Int)) then
      X.frame_check_j8 u1
     else
      if (u1.Kind==(5:Int)) then
       X.frame_check_j8 u1
      else
       if (u1.Kind==(6:Int)) then
        X.frame_check_j8 u1
       else
        some (1:Int)
def code_Writer_Byte (c4:UInt8) (b1:(List UInt8)):Option (List UInt8):=
 (need ((b1.length+([c4]:List UInt8).length)*1≤140737488355328)).bind fun u5=>
 some (b1++([c4]:List UInt8))
def code_Writer_Int (n4:Int) (b1:(List UInt8)):Option (List UInt8):=
 (need ((b1.length+([(u8 ((shr32 (u32 n4) 24).toNat:Int)),(u8 ((shr32 (u32 n4) 16).toNat:Int)),(u8 ((shr32 (u32 n4) 8).toNat:Int)),(u8 ((u32 n4).toNat:Int))]:List UInt8).length)*1≤140737488355328)).bind fun u6=>
 some (b1++([(u8 ((shr32 (u32 n4) 24).toNat:Int)),(u8 ((shr32 (u32 n4) 16).toNat:Int)),(u8 ((shr32 (u32 n4) 8).toNat:Int)),(u8 ((u32 n4).toNat:Int))]:List UInt8))
def slices_Clone_Lbyte_byte_own_or (s1:(List UInt8)):Option (List UInt8):=
 nilU s1 fun z6=>
 if z6 then
  some ([]:List UInt8)
 else
  (need (s1.length*1≤140737488355328)).bind fun u10=>
  some s1
def code_Writer_Bytes_or (b1:(List UInt8)):Option (List UInt8):=
 (X.slices_Clone_Lbyte_byte_own_or b1).bind fun r6=>
 some r6
def castagnoli_More_e7 (x10:UInt32):Option UInt32:=
 some (x10^^^(4294967295:UInt32))
def castagnoli_More_e19 (x9:Int) (x22:UInt32):Option ((UInt32×Int) ⊕ UInt32):=
 some (.inl (x22,(wr (x9+(1:Int)))))
def castagnoli_More_s19 (s:(UInt32×Int)):Option ((UInt32×Int) ⊕ UInt32):=
 match s with
 |(x20,x21)=>
  if (decide (x21<(8:Int))) then
   if ((x20&&&(1:UInt32))==(1:UInt32)) then
    some (.inl (((shr32 x20 1)^^^(2197175160:UInt32)),(wr (x21+(1:Int)))))
   else
    some (.inl ((shr32 x20 1),(wr (x21+(1:Int)))))
  else
   some (.inr x20)
def castagnoli_More_s7 (b2:(List UInt8)) (s:(UInt32×Int)):Option ((UInt32×Int) ⊕ UInt32):=
 match s with
 |(x8,x9)=>
  if (decide (x9<(b2.length:Int))) then
   (getI b2 x9).bind fun e16=>
   (run (X.castagnoli_More_s19) ((x8^^^(u32 (e16.toNat:Int))),(0:Int))).bind fun o19=>match o19 with
   |x22=>X.castagnoli_More_e19 x9 x22
  else
   some (.inr x8)
def castagnoli_More (sum1:UInt32) (b2:(List UInt8)):Option UInt32:=
 (run (X.castagnoli_More_s7 b2) ((sum1^^^(4294967295:UInt32)),(0:Int))).bind fun o7=>match o7 with
 |x10=>X.castagnoli_More_e7 x10
def castagnoli_Sum (b1:(List UInt8)):Option UInt32:=
 (X.castagnoli_More (0:UInt32) b1).bind fun r4=>
 some r4
def slices_Clone_Lbyte_byte_own (s1:(List UInt8)):Option (List UInt8):=
 nilU s1 fun z6=>
 if z6 then
  some ([]:(List UInt8))
 else
  (need (s1.length*1≤140737488355328)).bind fun u9=>
  some s1
def code_Writer_Bytes (b1:(List UInt8)):Option (List UInt8):=
 (X.slices_Clone_Lbyte_byte_own b1).bind fun r6=>
 some r6
def frame_made (u1:Unit_api):Option (List UInt8):=
 (X.code_Writer_Byte (u8 u1.Kind) ([]:List UInt8)).bind fun r7=>
 (X.code_Writer_Int u1.Label r7).bind fun r11=>
 (X.code_Writer_Int u1.Number r11).bind fun r15=>
 (X.code_Writer_Byte (u8 (shr64 (u1.Load.length:Int) ((8:UInt64).toNat:Int))) r15).bind fun r19=>
 (X.code_Writer_Byte (u8 (u1.Load.length:Int)) r19).bind fun r23=>
 (X.frame_room u1.Kind).bind fun r27=>
 (need (0≤r27∧r27*1≤281474976710656)).bind fun u28=>
 (X.code_Writer_Bytes_or r23).bind fun r32=>
 (need ((r32.length+(cpy (List.replicate r27.toNat (0:UInt8)) u1.Load).length)*1≤140737488355328)).bind fun u34=>
 (X.castagnoli_Sum (r32++(cpy (List.replicate r27.toNat (0:UInt8)) u1.Load))).bind fun r39=>
 (X.code_Writer_Int (r39.toNat:Int) ([]:List UInt8)).bind fun r40=>
 (X.code_Writer_Bytes r40).bind fun r44=>
 (need (((r32++(cpy (List.replicate r27.toNat (0:UInt8)) u1.Load)).length+r44.length)*1≤140737488355328)).bind fun u45=>
 some ((r32++(cpy (List.replicate r27.toNat (0:UInt8)) u1.Load))++r44)
def slices_Equal_Lbyte_byte_e9:Option Bool:=
 some true
def slices_Equal_Lbyte_byte_s9 (s11:(List UInt8)) (s22:(List UInt8)) (s:Int):Option (Int ⊕ (Unit ⊕ Bool)):=
 match s with
 |x10=>
  if (decide (x10<(s11.length:Int))) then
   (getI s11 x10).bind fun e17=>
   (getI s22 x10).bind fun e18=>
   if (e17 !=e18) then
    some (.inr (.inr false))
   else
    some (.inl (wr (x10+(1:Int))))
  else
   some (.inr (.inl ()))
def slices_Equal_Lbyte_byte (s11:(List UInt8)) (s22:(List UInt8)):Option Bool:=
 if ((s11.length:Int) !=(s22.length:Int)) then
  some false
 else
  (run (X.slices_Equal_Lbyte_byte_s9 s11 s22) (0:Int)).bind fun o9=>match o9 with
  | .inl _=>X.slices_Equal_Lbyte_byte_e9
  | .inr rv9=>some rv9
def frame_Get (b1:(List UInt8)):Option (Unit_api×Int):=
 (X.code_NewReader b1).bind fun r5=>
 (X.code_Reader_Byte r5.1 r5.2).bind fun r8=>
 (X.code_Reader_Int r8.2.1 r8.2.2).bind fun r12=>
 (X.code_Reader_Int r12.2.1 r12.2.2).bind fun r15=>
 (X.code_Reader_Byte r15.2.1 r15.2.2).bind fun r18=>
 (X.code_Reader_Byte r18.2.1 r18.2.2).bind fun r20=>
 (X.code_Reader_Raw (or64 (shl64 (r18.1.toNat:Int) ((8:UInt64).toNat:Int)) (r20.1.toNat:Int)) r20.2.1 r20.2.2).bind fun r23=>
 (X.code_Reader_Bad r23.2.1 r23.2.2).bind fun r27=>
 ((optG (!r27) (X.frame_check (Unit_api.mk (Unit_api.mk (r8.1.toNat:Int) (0:Int) (0:Int) ([]:(List UInt8))).Kind r12.1 r15.1 r23.1)))).bind fun r28=>
 ((optG (!((r27||(r28 !=(0:Int))))) (X.frame_made (Unit_api.mk (Unit_api.mk (r8.1.toNat:Int) (0:Int) (0:Int) ([]:(List UInt8))).Kind r12.1 r15.1 r23.1)))).bind fun r29=>
 ((optG (!((r27||(r28 !=(0:Int))))) (X.slices_Equal_Lbyte_byte b1 r29))).bind fun r30=>
 if ((r27||(r28 !=(0:Int)))||(!r30)) then
  some ((Unit_api.mk (0:Int) (0:Int) (0:Int) ([]:(List UInt8))),(2:Int))
 else
  some ((Unit_api.mk (Unit_api.mk (r8.1.toNat:Int) (0:Int) (0:Int) ([]:(List UInt8))).Kind r12.1 r15.1 r23.1),(0:Int))
def volume_Good (t1:Tape_api) (n2:Int):Option (Unit_api×Bool):=
 if ((t1.Lost||(decide (n2<(0:Int))))||(decide (n2≥(t1.Blocks.length:Int)))) then
  some ((Unit_api.mk (0:Int) (0:Int) (0:Int) ([]:(List UInt8))),false)
 else
  (getI t1.Blocks n2).bind fun e9=>
  (X.frame_Get e9).bind fun r10=>
  if (((r10.2 !=(0:Int))||(r10.1.Label !=t1.Label))||(r10.1.Number !=n2)) then
   some ((Unit_api.mk (0:Int) (0:Int) (0:Int) ([]:(List UInt8))),false)
  else
   some (r10.1,true)
def code_Reader_Left (b1:(List UInt8)) (bad2:Bool):Option Int:=
 some (b1.length:Int)
def record_ReadSeal_e37 (c53:(List UInt8)) (c54:Bool) (c56:Int) (c57:Int) (c58:Int) (c59:Int) (l61:List Int):Option (Seal_api×Int):=
 (X.code_Reader_Bad c53 c54).bind fun r64=>
 ((optG (!r64) (X.record_RightSeal (Seal_api.mk c56 c57 c58 c59 l61)))).bind fun r65=>
 if (r64||(!r65)) then
  some ((Seal_api.mk (0:Int) (0:Int) (0:Int) (0:Int) ([]:List Int)),(2:Int))
 else
  some ((Seal_api.mk c56 c57 c58 c59 l61),(0:Int))
def record_ReadSeal_s37 (s:((List UInt8)×Bool×Int×Int×Int×Int×(List Int))):Option (((List UInt8)×Bool×Int×Int×Int×Int×(List Int)) ⊕ ((List UInt8)×Bool×Int×Int×Int×Int×List Int)):=
 match s with
 |(c41,c42,c44,c45,c46,c47,l49)=>
  (X.code_Reader_Left c41 c42).bind fun r71=>
  if (decide (r71>(0:Int))) then
   (X.code_Reader_Int c41 c42).bind fun r72=>
   (need ((l49.length+([r72.1]:List Int).length)*8≤140737488355328)).bind fun u74=>
   some (.inl (r72.2.1,r72.2.2,c44,c45,c46,c47,(l49++([r72.1]:List Int))))
  else
   some (.inr (c41,c42,c44,c45,c46,c47,l49))
def record_ReadSeal (b1:(List UInt8)):Option (Seal_api×Int):=
 (X.code_NewReader b1).bind fun r6=>
 (X.code_Reader_Int r6.1 r6.2).bind fun r9=>
 (X.code_Reader_Byte r9.2.1 r9.2.2).bind fun r20=>
 (X.code_Reader_Byte r20.2.1 r20.2.2).bind fun r26=>
 (X.code_Reader_Byte r26.2.1 r26.2.2).bind fun r32=>
 (run (X.record_ReadSeal_s37) (r32.2.1,r32.2.2,r9.1,(r20.1.toNat:Int),(r26.1.toNat:Int),(r32.1.toNat:Int),([]:List Int))).bind fun o37=>match o37 with
 |(c53,c54,c56,c57,c58,c59,l61)=>X.record_ReadSeal_e37 c53 c54 c56 c57 c58 c59 l61
def volume_Sealed (t1:Tape_api):Option (Seal_api×Bool):=
 (X.volume_Good t1 (wr ((t1.Blocks.length:Int)-(1:Int)))).bind fun r5=>
 if ((!r5.2)||(r5.1.Kind !=(5:Int))) then
  some ((Seal_api.mk (0:Int) (0:Int) (0:Int) (0:Int) ([]:(List Int))),false)
 else
  (X.record_ReadSeal r5.1.Load).bind fun r11=>
  some (r11.1,(r11.2==(0:Int)))
def mend_rows_e7:Option (Int×Bool):=
 some ((0:Int),false)
def mend_rows_s7 (s2:Seal_api) (l1:(List Tape_api)) (s:Int):Option (Int ⊕ (Unit ⊕ (Int×Bool))):=
 match s with
 |x8=>
  if (decide (x8<((slc s2.Labels s2.Data (s2.Labels.length:Int)).length:Int))) then
   (getI (slc s2.Labels s2.Data (s2.Labels.length:Int)) x8).bind fun e14=>
   (X.mend_member l1 e14).bind fun r16=>
   (X.volume_Sealed r16).bind fun r19=>
   if r19.2 then
    some (.inr (.inr ((wr ((r16.Blocks.length:Int)-(2:Int))),(decide ((wr ((r16.Blocks.length:Int)-(2:Int)))≥(0:Int))))))
   else
    some (.inl (wr (x8+(1:Int))))
  else
   some (.inr (.inl ()))
def mend_rows (l1:(List Tape_api)) (s2:Seal_api):Option (Int×Bool):=
 (need (0≤s2.Data∧s2.Data≤(s2.Labels.length:Int)∧(s2.Labels.length:Int)≤s2.Labels.length)).bind fun u6=>
 (run (X.mend_rows_s7 s2 l1) (0:Int)).bind fun o7=>match o7 with
 | .inl _=>X.mend_rows_e7
 | .inr rv7=>some rv7
def mend_ofData (t1:Tape_api) (n2:Int):Option (List UInt8):=
 if ((!t1.Lost)&&(decide (n2≥(t1.Blocks.length:Int)))) then
  (need (0≤(79:Int)∧(79:Int)*1≤281474976710656)).bind fun u7=>
  some (List.replicate (79:Int).toNat (0:UInt8))
 else
  (X.volume_Good t1 n2).bind fun r10=>
  ((optG (!((!r10.2))) (getI t1.Blocks n2))).bind fun e13=>
  if ((!r10.2)||((e13.length:Int) !=(79:Int))) then
   some ([]:(List UInt8))
  else
   (getI t1.Blocks n2).bind fun e16=>
   some e16
def mend_ofParity (t1:Tape_api) (n2:Int):Option (List UInt8):=
 (X.volume_Good t1 (wr (n2+(1:Int)))).bind fun r5=>
 if (((!r5.2)||(r5.1.Kind !=(6:Int)))||((r5.1.Load.length:Int) !=(79:Int))) then
  some ([]:(List UInt8))
 else
  some r5.1.Load
def mend_row_e9 (l14:List (List UInt8)):Option (List (List UInt8)):=
 some l14
def mend_row_s9 (s2:Seal_api) (l1:(List Tape_api)) (n3:Int) (s:((List (List UInt8))×Int)):Option (((List (List UInt8))×Int) ⊕ List (List UInt8)):=
 match s with
 |(out11,x12)=>
  if (decide (x12<(s2.Labels.length:Int))) then
   (getI s2.Labels x12).bind fun e20=>
   (X.mend_member l1 e20).bind fun r22=>
   if (decide (x12<s2.Data)) then
    (X.mend_ofData r22 n3).bind fun r25=>
    (need ((out11.length+([r25]:List (List UInt8)).length)*24≤140737488355328)).bind fun u26=>
    some (.inl ((out11++([r25]:List (List UInt8))),(wr (x12+(1:Int)))))
   else
    (X.mend_ofParity r22 n3).bind fun r27=>
    (need ((out11.length+([r27]:List (List UInt8)).length)*24≤140737488355328)).bind fun u28=>
    some (.inl ((out11++([r27]:List (List UInt8))),(wr (x12+(1:Int)))))
  else
   some (.inr out11)
def mend_row (l1:(List Tape_api)) (s2:Seal_api) (n3:Int):Option (List (List UInt8)):=
 (run (X.mend_row_s9 s2 l1 n3) (([]:List (List UInt8)),(0:Int))).bind fun o9=>match o9 with
 |l14=>X.mend_row_e9 l14
def slices_IndexFunc_LLbyte_Lbyte_e6:Option Int:=
 some ((-1):Int)
def slices_IndexFunc_LLbyte_Lbyte_s6 (s1:(List (List UInt8))) (g2:(List UInt8)→Option Bool) (s:Int):Option (Int ⊕ (Unit ⊕ Int)):=
 match s with
 |x7=>
  if (decide (x7<(s1.length:Int))) then
   (getI s1 x7).bind fun e14=>
   (g2 e14).bind fun r15=>
   if r15 then
    some (.inr (.inr x7))
   else
    some (.inl (wr (x7+(1:Int))))
  else
   some (.inr (.inl ()))
def slices_IndexFunc_LLbyte_Lbyte (s1:(List (List UInt8))) (g2:(List UInt8)→Option Bool):Option Int:=
 (run (X.slices_IndexFunc_LLbyte_Lbyte_s6 s1 g2) (0:Int)).bind fun o6=>match o6 with
 | .inl _=>X.slices_IndexFunc_LLbyte_Lbyte_e6
 | .inr rv6=>some rv6
def slices_ContainsFunc_LLbyte_Lbyte (s1:(List (List UInt8))) (g2:(List UInt8)→Option Bool):Option Bool:=
 (X.slices_IndexFunc_LLbyte_Lbyte s1 g2).bind fun r5=>
 some (decide (r5≥(0:Int)))
def erasure_alike_c1 (r1:(List UInt8)) (c2:(List (List UInt8))):Option Bool:=
 (getI c2 (0:Int)).bind fun e5=>
 some ((r1.length:Int) !=(e5.length:Int))
def erasure_alike (l1:(List (List UInt8))):Option Bool:=
 (X.slices_ContainsFunc_LLbyte_Lbyte l1 (fun a1=>X.erasure_alike_c1 a1 l1)).bind fun r4=>
 some (!r4)
def gf_Add (a1:UInt8) (b2:UInt8):Option UInt8:=
 some (a1^^^b2)
def gf_Mul_e6 (out10:UInt8):Option UInt8:=
 some out10
def gf_Mul_j14 (b8:UInt8) (a15:UInt8) (out16:UInt8):Option ((UInt8×UInt8×UInt8) ⊕ UInt8):=
 some (.inl (a15,(shr8 b8 1),out16))
def gf_Mul_j17 (a7:UInt8) (b8:UInt8) (out18:UInt8):Option ((UInt8×UInt8×UInt8) ⊕ UInt8):=
 if ((a7&&&(128:UInt8)) !=(0:UInt8)) then
  X.gf_Mul_j14 b8 ((shl8 a7 1)^^^(29:UInt8)) out18
 else
  X.gf_Mul_j14 b8 (shl8 a7 1) out18
def gf_Mul_s6 (s:(UInt8×UInt8×UInt8)):Option ((UInt8×UInt8×UInt8) ⊕ UInt8):=
 match s with
 |(a7,b8,out9)=>
  if (b8 !=(0:UInt8)) then
   if ((b8&&&(1:UInt8))==(1:UInt8)) then
    X.gf_Mul_j17 a7 b8 (out9^^^a7)
   else
    X.gf_Mul_j17 a7 b8 out9
  else
   some (.inr out9)
def gf_Mul (a1:UInt8) (b2:UInt8):Option UInt8:=
 (run (X.gf_Mul_s6) (a1,b2,(0:UInt8))).bind fun o6=>match o6 with
 |out10=>X.gf_Mul_e6 out10
def gf_power_e6 (out10:UInt8):Option UInt8:=
 some out10
def gf_power_j15 (a7:UInt8) (n8:Int) (out16:UInt8):Option ((UInt8×Int×UInt8) ⊕ UInt8):=
 (X.gf_Mul a7 a7).bind fun r17=>
 some (.inl (r17,(shr64 n8 ((1:UInt64).toNat:Int)),out16))
def gf_power_s6 (s:(UInt8×Int×UInt8)):Option ((UInt8×Int×UInt8) ⊕ UInt8):=
 match s with
 |(a7,n8,out9)=>
  if (decide (n8>(0:Int))) then
   if ((and64 n8 (1:Int))==(1:Int)) then
    (X.gf_Mul out9 a7).bind fun r19=>
    X.gf_power_j15 a7 n8 r19
   else
    X.gf_power_j15 a7 n8 out9
  else
   some (.inr out9)
def gf_power (a1:UInt8) (n2:Int):Option UInt8:=
 (run (X.gf_power_s6) (a1,n2,(1:UInt8))).bind fun o6=>match o6 with
 |out10=>X.gf_power_e6 out10
def gf_Inv (a1:UInt8):Option UInt8:=
 (X.gf_power a1 (254:Int)).bind fun r4=>
 some r4
def matrix_Cauchy_e11 (l16:List (List UInt8)):Option ((List (List UInt8))×Int):=
 some (l16,(0:Int))
def matrix_Cauchy_e26 (out13:(List (List UInt8))) (x14:Int) (l33:List UInt8):Option (((List (List UInt8))×Int) ⊕ List (List UInt8)):=
 (need ((out13.length+([l33]:List (List UInt8)).length)*24≤140737488355328)).bind fun u34=>
 some (.inl ((out13++([l33]:List (List UInt8))),(wr (x14+(1:Int)))))
def matrix_Cauchy_s26 (data1:Int) (x14:Int) (parity2:Int) (s:((List UInt8)×Int)):Option (((List UInt8)×Int) ⊕ List UInt8):=
 match s with
 |(r29,x30)=>
  if (decide (x30<data1)) then
   (X.gf_Add (u8 x14) (u8 (wr (parity2+x30)))).bind fun r39=>
   (X.gf_Inv r39).bind fun r40=>
   (need ((r29.length+([r40]:List UInt8).length)*1≤140737488355328)).bind fun u41=>
   some (.inl ((r29++([r40]:List UInt8)),(wr (x30+(1:Int)))))
  else
   some (.inr r29)
def matrix_Cauchy_s11 (parity2:Int) (data1:Int) (s:((List (List UInt8))×Int)):Option (((List (List UInt8))×Int) ⊕ List (List UInt8)):=
 match s with
 |(out13,x14)=>
  if (decide (x14<parity2)) then
   (run (X.matrix_Cauchy_s26 data1 x14 parity2) (([]:List UInt8),(0:Int))).bind fun o26=>match o26 with
   |l33=>X.matrix_Cauchy_e26 out13 x14 l33
  else
   some (.inr out13)
def matrix_Cauchy (data1:Int) (parity2:Int):Option ((List (List UInt8))×Int):=
 if ((((decide (data1<(1:Int)))||(decide (parity2<(1:Int))))||(decide (data1>(255:Int))))||(decide (parity2>(wr ((255:Int)-data1))))) then
  some (([]:(List (List UInt8))),(1:Int))
 else
  (run (X.matrix_Cauchy_s11 parity2 data1) (([]:List (List UInt8)),(0:Int))).bind fun o11=>match o11 with
  |l16=>X.matrix_Cauchy_e11 l16
def erasure_rows_j14 (l16:List (List UInt8)):Option (List (List UInt8)):=
 some l16
def erasure_rows_e8 (all2:Int) (data1:Int) (l13:List (List UInt8)):Option (List (List UInt8)):=
 if (decide (all2>data1)) then
  (X.matrix_Cauchy data1 (wr (all2-data1))).bind fun r20=>
  (need ((l13.length+r20.1.length)*24≤140737488355328)).bind fun u21=>
  X.erasure_rows_j14 (l13++r20.1)
 else
  X.erasure_rows_j14 l13
def erasure_rows_s8 (data1:Int) (s:((List (List UInt8))×Int)):Option (((List (List UInt8))×Int) ⊕ List (List UInt8)):=
 match s with
 |(out10,x11)=>
  if (decide (x11<data1)) then
   (need (0≤data1∧data1*1≤281474976710656)).bind fun u27=>
   (getI (List.replicate data1.toNat (0:UInt8)) x11).bind fun e30=>
   (need ((out10.length+([((List.replicate data1.toNat (0:UInt8)).set x11.toNat (1:UInt8))]:List (List UInt8)).length)*24≤140737488355328)).bind fun u31=>
   some (.inl ((out10++([((List.replicate data1.toNat (0:UInt8)).set x11.toNat (1:UInt8))]:List (List UInt8))),(wr (x11+(1:Int)))))
  else
   some (.inr out10)
def erasure_rows (data1:Int) (all2:Int):Option (List (List UInt8)):=
 (run (X.erasure_rows_s8 data1) (([]:List (List UInt8)),(0:Int))).bind fun o8=>match o8 with
 |l13=>X.erasure_rows_e8 all2 data1 l13
def matrix_Right_c1 (r1:(List UInt8)) (c2:(List (List UInt8))):Option Bool:=
 (getI c2 (0:Int)).bind fun e5=>
 some ((r1.length:Int) !=(e5.length:Int))
def matrix_Right (m1:(List (List UInt8))):Option Bool:=
 ((optG (!(((decide ((m1.length:Int)<(1:Int)))||(decide ((m1.length:Int)>(255:Int)))))) (getI m1 (0:Int)))).bind fun e5=>
 ((optG (!((((decide ((m1.length:Int)<(1:Int)))||(decide ((m1.length:Int)>(255:Int))))||(decide ((e5.length:Int)<(1:Int)))))) (getI m1 (0:Int)))).bind fun e6=>
 if ((((decide ((m1.length:Int)<(1:Int)))||(decide ((m1.length:Int)>(255:Int))))||(decide ((e5.length:Int)<(1:Int))))||(decide ((e6.length:Int)>(255:Int)))) then
  some false
 else
  (X.slices_ContainsFunc_LLbyte_Lbyte m1 (fun a1=>X.matrix_Right_c1 a1 m1)).bind fun r9=>
  some (!r9)
def slices_Grow_Lbyte_byte_nil_j5 (l9:List UInt8):Option (List UInt8):=
 some l9
def slices_Grow_Lbyte_byte_nil (n1:Int):Option (List UInt8):=
 if (decide (n1<(0:Int))) then
  none
 else
  if (decide ((wr (n1-(0:Int)))>(0:Int))) then
   (need (0≤(wr (n1-(0:Int)))∧(wr (n1-(0:Int))).toNat*1≤140737488355328)).bind fun u13=>
   (need ((0≤(0:Int)∧(0:Int)≤(0:Int)∧(0:Int)≤(List.replicate (wr (n1-(0:Int))).toNat (0:UInt8)).length)∧((0:Int)=0∨(0:Int)<(List.replicate (wr (n1-(0:Int))).toNat (0:UInt8)).length))).bind fun u15=>
   X.slices_Grow_Lbyte_byte_nil_j5 (slc (List.replicate (wr (n1-(0:Int))).toNat (0:UInt8)) (0:Int) (0:Int))
  else
   X.slices_Grow_Lbyte_byte_nil_j5 ([]:List UInt8)
def slices_Concat_Lbyte_byte_e15 (l20:List UInt8):Option (List UInt8):=
 some l20
def slices_Concat_Lbyte_byte_s15 (slices1:(List (List UInt8))) (s:((List UInt8)×Int)):Option (((List UInt8)×Int) ⊕ List UInt8):=
 match s with
 |(newslice17,x18)=>
  if (decide (x18<(slices1.length:Int))) then
   (getI slices1 x18).bind fun e26=>
   (need ((newslice17.length+e26.length)*1≤140737488355328)).bind fun u27=>
   some (.inl ((newslice17++e26),(wr (x18+(1:Int)))))
  else
   some (.inr newslice17)
def slices_Concat_Lbyte_byte_e6 (slices1:(List (List UInt8))) (size9:Int):Option (List UInt8):=
 (X.slices_Grow_Lbyte_byte_nil size9).bind fun r11=>
 (run (X.slices_Concat_Lbyte_byte_s15 slices1) (r11,(0:Int))).bind fun o15=>match o15 with
 |l20=>X.slices_Concat_Lbyte_byte_e15 l20
def slices_Concat_Lbyte_byte_s6 (slices1:(List (List UInt8))) (s:(Int×Int)):Option ((Int×Int) ⊕ Int):=
 match s with
 |(size7,x8)=>
  if (decide (x8<(slices1.length:Int))) then
   (getI slices1 x8).bind fun e32=>
   if (decide ((wr (size7+(e32.length:Int)))<(0:Int))) then
    none
   else
    some (.inl ((wr (size7+(e32.length:Int))),(wr (x8+(1:Int)))))
  else
   some (.inr size7)
def slices_Concat_Lbyte_byte (slices1:(List (List UInt8))):Option (List UInt8):=
 (run (X.slices_Concat_Lbyte_byte_s6 slices1) ((0:Int),(0:Int))).bind fun o6=>match o6 with
 |size9=>X.slices_Concat_Lbyte_byte_e6 slices1 size9
def matrix_beside_e7 (l12:List (List UInt8)):Option (List (List UInt8)):=
 some l12
def matrix_beside_s7 (m1:(List (List UInt8))) (s:((List (List UInt8))×Int)):Option (((List (List UInt8))×Int) ⊕ List (List UInt8)):=
 match s with
 |(out9,x10)=>
  if (decide (x10<(m1.length:Int))) then
   (getI m1 x10).bind fun e18=>
   (need (0≤(m1.length:Int)∧(m1.length:Int)*1≤281474976710656)).bind fun u20=>
   (getI (List.replicate (m1.length:Int).toNat (0:UInt8)) x10).bind fun e23=>
   (X.slices_Concat_Lbyte_byte ([e18,((List.replicate (m1.length:Int).toNat (0:UInt8)).set x10.toNat (1:UInt8))]:List (List UInt8))).bind fun r24=>
   (need ((out9.length+([r24]:List (List UInt8)).length)*24≤140737488355328)).bind fun u25=>
   some (.inl ((out9++([r24]:List (List UInt8))),(wr (x10+(1:Int)))))
  else
   some (.inr out9)
def matrix_beside (m1:(List (List UInt8))):Option (List (List UInt8)):=
 (run (X.matrix_beside_s7 m1) (([]:List (List UInt8)),(0:Int))).bind fun o7=>match o7 with
 |l12=>X.matrix_beside_e7 l12
def matrix_Inverse_c1 (r1:(List UInt8)) (c2:Int):Option Bool:=
 (getI r1 c2).bind fun e5=>
 some (e5 !=(0:UInt8))
def matrix_scaled_e9 (l14:List UInt8):Option (List UInt8):=
 some l14
def matrix_scaled_s9 (r1:(List UInt8)) (by2:UInt8) (s:((List UInt8)×Int)):Option (((List UInt8)×Int) ⊕ List UInt8):=
 match s with
 |(out11,x12)=>
  if (decide (x12<(r1.length:Int))) then
   (getI r1 x12).bind fun e20=>
   (X.gf_Mul e20 by2).bind fun r21=>
   (getI out11 x12).bind fun e22=>
   some (.inl ((out11.set x12.toNat r21),(wr (x12+(1:Int)))))
  else
   some (.inr out11)
def matrix_scaled (r1:(List UInt8)) (by2:UInt8):Option (List UInt8):=
 (need (0≤(r1.length:Int)∧(r1.length:Int)*1≤281474976710656)).bind fun u5=>
 (run (X.matrix_scaled_s9 r1 by2) ((List.replicate (r1.length:Int).toNat (0:UInt8)),(0:Int))).bind fun o9=>match o9 with
 |l14=>X.matrix_scaled_e9 l14
def matrix_sum_e9 (l14:List UInt8):Option (List UInt8):=
 some l14
def matrix_sum_s9 (a1:(List UInt8)) (b2:(List UInt8)) (s:((List UInt8)×Int)):Option (((List UInt8)×Int) ⊕ List UInt8):=
 match s with
 |(out11,x12)=>
  if (decide (x12<(a1.length:Int))) then
   (getI a1 x12).bind fun e20=>
   (getI b2 x12).bind fun e21=>
   (X.gf_Add e20 e21).bind fun r22=>
   (getI out11 x12).bind fun e23=>
   some (.inl ((out11.set x12.toNat r22),(wr (x12+(1:Int)))))
  else
   some (.inr out11)
def matrix_sum (a1:(List UInt8)) (b2:(List UInt8)):Option (List UInt8):=
 (need (0≤(a1.length:Int)∧(a1.length:Int)*1≤281474976710656)).bind fun u5=>
 (run (X.matrix_sum_s9 a1 b2) ((List.replicate (a1.length:Int).toNat (0:UInt8)),(0:Int))).bind fun o9=>match o9 with
 |l14=>X.matrix_sum_e9 l14
def matrix_Inverse_e23 (l29:List (List UInt8)):Option ((List (List UInt8))×Int):=
 some (l29,(0:Int))
def matrix_Inverse_s23 (l18:List (List UInt8)) (m1:(List (List UInt8))) (s:((List (List UInt8))×Int)):Option (((List (List UInt8))×Int) ⊕ List (List UInt8)):=
 match s with
 |(out25,x27)=>
  if (decide (x27<(l18.length:Int))) then
   (getI l18 x27).bind fun e35=>
   (need (0≤(m1.length:Int)∧(m1.length:Int)≤(e35.length:Int)∧(e35.length:Int)≤e35.length)).bind fun u36=>
   (X.slices_Clone_Lbyte_byte (slc e35 (m1.length:Int) (e35.length:Int))).bind fun r37=>
   (need ((out25.length+([r37]:List (List UInt8)).length)*24≤140737488355328)).bind fun u38=>
   some (.inl ((out25++([r37]:List (List UInt8))),(wr (x27+(1:Int)))))
  else
   some (.inr out25)
def matrix_Inverse_e13 (m1:(List (List UInt8))) (l18:List (List UInt8)):Option ((List (List UInt8))×Int):=
 (run (X.matrix_Inverse_s23 l18 m1) (([]:List (List UInt8)),(0:Int))).bind fun o23=>match o23 with
 |l29=>X.matrix_Inverse_e23 l29
def matrix_Inverse_e63 (x16:Int) (l68:List (List UInt8)):Option (((List (List UInt8))×Int) ⊕ (List (List UInt8) ⊕ ((List (List UInt8))×Int))):=
 some (.inl (l68,(wr (x16+(1:Int)))))
def matrix_Inverse_s63 (l15:(List (List UInt8))) (x16:Int) (e51:(List UInt8)) (r46:Int) (e52:(List UInt8)) (r60:(List UInt8)) (s:((List (List UInt8))×Int)):Option (((List (List UInt8))×Int) ⊕ List (List UInt8)):=
 match s with
 |(l65,x66)=>
  if (decide (x66<((((l15.set x16.toNat e51).set (wr (x16+r46)).toNat e52).set x16.toNat r60).length:Int))) then
   ((optG ((x66 !=x16)) (getI l65 x66))).bind fun e74=>
   ((optG ((x66 !=x16)) (getI e74 x16))).bind fun e75=>
   if ((x66 !=x16)&&(e75 !=(0:UInt8))) then
    (getI l65 x66).bind fun e76=>
    (getI l65 x16).bind fun e77=>
    (getI l65 x66).bind fun e78=>
    (getI e78 x16).bind fun e79=>
    (X.matrix_scaled e77 e79).bind fun r80=>
    (X.matrix_sum e76 r80).bind fun r81=>
    (getI l65 x66).bind fun e82=>
    some (.inl ((l65.set x66.toNat r81),(wr (x66+(1:Int)))))
   else
    some (.inl (l65,(wr (x66+(1:Int)))))
  else
   some (.inr l65)
def matrix_Inverse_s13 (r9:(List (List UInt8))) (s:((List (List UInt8))×Int)):Option (((List (List UInt8))×Int) ⊕ (List (List UInt8) ⊕ ((List (List UInt8))×Int))):=
 match s with
 |(l15,x16)=>
  if (decide (x16<(r9.length:Int))) then
   (need ((0≤x16∧x16≤(l15.length:Int)∧(l15.length:Int)≤l15.length)∧(x16=0∨x16<l15.length))).bind fun u45=>
   (X.slices_IndexFunc_LLbyte_Lbyte (slc l15 x16 (l15.length:Int)) (fun a1=>X.matrix_Inverse_c1 a1 x16)).bind fun r46=>
   if (decide (r46<(0:Int))) then
    some (.inr (.inr (([]:(List (List UInt8))),(12:Int))))
   else
    (getI l15 (wr (x16+r46))).bind fun e51=>
    (getI l15 x16).bind fun e52=>
    (getI l15 x16).bind fun e53=>
    (getI (l15.set x16.toNat e51) (wr (x16+r46))).bind fun e54=>
    (getI ((l15.set x16.toNat e51).set (wr (x16+r46)).toNat e52) x16).bind fun e56=>
    (getI ((l15.set x16.toNat e51).set (wr (x16+r46)).toNat e52) x16).bind fun e57=>
    (getI e57 x16).bind fun e58=>
    (X.gf_Inv e58).bind fun r59=>
    (X.matrix_scaled e56 r59).bind fun r60=>
    (getI ((l15.set x16.toNat e51).set (wr (x16+r46)).toNat e52) x16).bind fun e61=>
    (run (X.matrix_Inverse_s63 l15 x16 e51 r46 e52 r60) ((((l15.set x16.toNat e51).set (wr (x16+r46)).toNat e52).set x16.toNat r60),(0:Int))).bind fun o63=>match o63 with
    |l68=>X.matrix_Inverse_e63 x16 l68
  else
   some (.inr (.inl l15))
def matrix_Inverse (m1:(List (List UInt8))):Option ((List (List UInt8))×Int):=
 (X.matrix_Right m1).bind fun r5=>
 ((optG (!((!r5))) (getI m1 (0:Int)))).bind fun e6=>
 if ((!r5)||((m1.length:Int) !=(e6.length:Int))) then
  some (([]:(List (List UInt8))),(1:Int))
 else
  (X.matrix_beside m1).bind fun r9=>
  (run (X.matrix_Inverse_s13 r9) (r9,(0:Int))).bind fun o13=>match o13 with
  | .inl l18=>X.matrix_Inverse_e13 m1 l18
  | .inr rv13=>some rv13
def matrix_apply_e9 (l14:List UInt8):Option (List UInt8):=
 some l14
def matrix_apply_e22 (x12:Int) (l27:List UInt8):Option (((List UInt8)×Int) ⊕ List UInt8):=
 some (.inl (l27,(wr (x12+(1:Int)))))
def matrix_apply_s22 (e20:(List UInt8)) (x12:Int) (v2:(List UInt8)) (s:((List UInt8)×Int)):Option (((List UInt8)×Int) ⊕ List UInt8):=
 match s with
 |(out24,x25)=>
  if (decide (x25<(e20.length:Int))) then
   (getI e20 x25).bind fun e32=>
   (getI out24 x12).bind fun e33=>
   (getI v2 x25).bind fun e34=>
   (X.gf_Mul e32 e34).bind fun r35=>
   (X.gf_Add e33 r35).bind fun r36=>
   (getI out24 x12).bind fun e37=>
   some (.inl ((out24.set x12.toNat r36),(wr (x25+(1:Int)))))
  else
   some (.inr out24)
def matrix_apply_s9 (m1:(List (List UInt8))) (v2:(List UInt8)) (s:((List UInt8)×Int)):Option (((List UInt8)×Int) ⊕ List UInt8):=
 match s with
 |(out11,x12)=>
  if (decide (x12<(m1.length:Int))) then
   (getI m1 x12).bind fun e20=>
   (run (X.matrix_apply_s22 e20 x12 v2) (out11,(0:Int))).bind fun o22=>match o22 with
   |l27=>X.matrix_apply_e22 x12 l27
  else
   some (.inr out11)
def matrix_apply (m1:(List (List UInt8))) (v2:(List UInt8)):Option (List UInt8):=
 (need (0≤(m1.length:Int)∧(m1.length:Int)*1≤281474976710656)).bind fun u5=>
 (run (X.matrix_apply_s9 m1 v2) ((List.replicate (m1.length:Int).toNat (0:UInt8)),(0:Int))).bind fun o9=>match o9 with
 |l14=>X.matrix_apply_e9 l14
def matrix_Apply (m1:(List (List UInt8))) (v2:(List UInt8)):Option ((List UInt8)×Int):=
 (X.matrix_Right m1).bind fun r6=>
 ((optG (!((!r6))) (getI m1 (0:Int)))).bind fun e7=>
 if ((!r6)||((v2.length:Int) !=(e7.length:Int))) then
  some (([]:(List UInt8)),(1:Int))
 else
  (X.matrix_apply m1 v2).bind fun r10=>
  some (r10,(0:Int))
def erasure_reckon_e10 (l15:List (List UInt8)):Option (List (List UInt8)):=
 some l15
def erasure_reckon_e36 (x13:Int) (l41:List (List UInt8)):Option (((List (List UInt8))×Int) ⊕ List (List UInt8)):=
 some (.inl (l41,(wr (x13+(1:Int)))))
def erasure_reckon_s36 (r34:((List UInt8)×Int)) (s:((List (List UInt8))×Int)):Option (((List (List UInt8))×Int) ⊕ List (List UInt8)):=
 match s with
 |(out38,x39)=>
  if (decide (x39<(r34.1.length:Int))) then
   (getI r34.1 x39).bind fun e46=>
   (getI out38 x39).bind fun e47=>
   (need ((e47.length+([e46]:List UInt8).length)*1≤140737488355328)).bind fun u49=>
   (getI out38 x39).bind fun e50=>
   some (.inl ((out38.set x39.toNat (e47++([e46]:List UInt8))),(wr (x39+(1:Int)))))
  else
   some (.inr out38)
def erasure_reckon_e25 (m1:(List (List UInt8))) (out12:(List (List UInt8))) (x13:Int) (l32:List UInt8):Option (((List (List UInt8))×Int) ⊕ List (List UInt8)):=
 (X.matrix_Apply m1 l32).bind fun r34=>
 (run (X.erasure_reckon_s36 r34) (out12,(0:Int))).bind fun o36=>match o36 with
 |l41=>X.erasure_reckon_e36 x13 l41
def erasure_reckon_s25 (l2:(List (List UInt8))) (x13:Int) (s:((List UInt8)×Int)):Option (((List UInt8)×Int) ⊕ List UInt8):=
 match s with
 |(v28,x29)=>
  if (decide (x29<(l2.length:Int))) then
   (getI l2 x29).bind fun e55=>
   (getI e55 x13).bind fun e56=>
   (need ((v28.length+([e56]:List UInt8).length)*1≤140737488355328)).bind fun u57=>
   some (.inl ((v28++([e56]:List UInt8)),(wr (x29+(1:Int)))))
  else
   some (.inr v28)
def erasure_reckon_s10 (e9:(List UInt8)) (l2:(List (List UInt8))) (m1:(List (List UInt8))) (s:((List (List UInt8))×Int)):Option (((List (List UInt8))×Int) ⊕ List (List UInt8)):=
 match s with
 |(out12,x13)=>
  if (decide (x13<(e9.length:Int))) then
   (run (X.erasure_reckon_s25 l2 x13) (([]:List UInt8),(0:Int))).bind fun o25=>match o25 with
   |l32=>X.erasure_reckon_e25 m1 out12 x13 l32
  else
   some (.inr out12)
def erasure_reckon (m1:(List (List UInt8))) (l2:(List (List UInt8))):Option (List (List UInt8)):=
 (need (0≤(m1.length:Int)∧(m1.length:Int)*24≤281474976710656)).bind fun u5=>
 (getI l2 (0:Int)).bind fun e9=>
 (run (X.erasure_reckon_s10 e9 l2 m1) ((List.replicate (m1.length:Int).toNat ([]:(List UInt8))),(0:Int))).bind fun o10=>match o10 with
 |l15=>X.erasure_reckon_e10 l15
def erasure_Decode_e25 (data2:Int) (l13:List (List UInt8)) (l32:List (List UInt8)):Option ((List (List UInt8))×Int):=
 (X.matrix_Inverse l32).bind fun r34=>
 if (r34.2 !=(0:Int)) then
  some (([]:(List (List UInt8))),r34.2)
 else
  (need ((0≤(0:Int)∧(0:Int)≤data2∧data2≤l13.length)∧((0:Int)=0∨(0:Int)<l13.length))).bind fun u39=>
  (X.erasure_reckon r34.1 (slc l13 (0:Int) data2)).bind fun r40=>
  some (r40,(0:Int))
def erasure_Decode_s25 (r24:(List (List UInt8))) (have1:(List (List UInt8))) (data2:Int) (s:((List (List UInt8))×Int)):Option (((List (List UInt8))×Int) ⊕ List (List UInt8)):=
 match s with
 |(m28,x29)=>
  if (decide (x29<(r24.length:Int))) then
   (getI r24 x29).bind fun e45=>
   (getI have1 x29).bind fun e47=>
   if ((decide ((e47.length:Int)>(0:Int)))&&(decide ((m28.length:Int)<data2))) then
    (need ((m28.length+([e45]:List (List UInt8)).length)*24≤140737488355328)).bind fun u48=>
    some (.inl ((m28++([e45]:List (List UInt8))),(wr (x29+(1:Int)))))
   else
    some (.inl (m28,(wr (x29+(1:Int)))))
  else
   some (.inr m28)
def erasure_Decode_e8 (data2:Int) (have1:(List (List UInt8))) (l13:List (List UInt8)):Option ((List (List UInt8))×Int):=
 ((optG (!(((((decide (data2<(1:Int)))||(decide (data2>(have1.length:Int))))||(decide ((have1.length:Int)>(255:Int))))||((l13.length:Int)==(0:Int))))) (X.erasure_alike l13))).bind fun r16=>
 if (((((decide (data2<(1:Int)))||(decide (data2>(have1.length:Int))))||(decide ((have1.length:Int)>(255:Int))))||((l13.length:Int)==(0:Int)))||(!r16)) then
  some (([]:(List (List UInt8))),(1:Int))
 else
  if (decide ((l13.length:Int)<data2)) then
   some (([]:(List (List UInt8))),(10:Int))
  else
   (X.erasure_rows data2 (have1.length:Int)).bind fun r24=>
   (run (X.erasure_Decode_s25 r24 have1 data2) (([]:List (List UInt8)),(0:Int))).bind fun o25=>match o25 with
   |l32=>X.erasure_Decode_e25 data2 l13 l32
def erasure_Decode_s8 (have1:(List (List UInt8))) (s:((List (List UInt8))×Int)):Option (((List (List UInt8))×Int) ⊕ List (List UInt8)):=
 match s with
 |(there10,x11)=>
  if (decide (x11<(have1.length:Int))) then
   (getI have1 x11).bind fun e53=>
   if (decide ((e53.length:Int)>(0:Int))) then
    (need ((there10.length+([e53]:List (List UInt8)).length)*24≤140737488355328)).bind fun u55=>
    some (.inl ((there10++([e53]:List (List UInt8))),(wr (x11+(1:Int)))))
   else
    some (.inl (there10,(wr (x11+(1:Int)))))
  else
   some (.inr there10)
def erasure_Decode (have1:(List (List UInt8))) (data2:Int):Option ((List (List UInt8))×Int):=
 (run (X.erasure_Decode_s8 have1) (([]:List (List UInt8)),(0:Int))).bind fun o8=>match o8 with
 |l13=>X.erasure_Decode_e8 data2 have1 l13
def mend_Block (l1:(List Tape_api)) (s2:Seal_api) (label3:Int) (n4:Int):Option ((List UInt8)×Int):=
 (X.mend_place s2 label3).bind fun r7=>
 if (!r7.2) then
  some (([]:(List UInt8)),(1:Int))
 else
  (X.mend_rows l1 s2).bind fun r12=>
  if (!r12.2) then
   some (([]:(List UInt8)),(10:Int))
  else
   if ((decide (n4<(0:Int)))||(decide (n4≥r12.1))) then
    some (([]:(List UInt8)),(5:Int))
   else
    (X.mend_row l1 s2 n4).bind fun r19=>
    (X.erasure_Decode r19 s2.Data).bind fun r20=>
    if (r20.2 !=(0:Int)) then
     some (([]:(List UInt8)),(10:Int))
    else
     (getI r20.1 r7.1).bind fun e25=>
     (X.slices_Clone_Lbyte_byte e25).bind fun r26=>
     some (r26,(0:Int))
def cartridgeref1_Writer_Byte (c4:UInt8) (B1:(List UInt8)):Option (List UInt8):=
 (need ((B1.length+([c4]:List UInt8).length)*1≤140737488355328)).bind fun u5=>
 some (B1++([c4]:List UInt8))
def cartridgeref1_Writer_Int (n4:Int) (B1:(List UInt8)):Option (List UInt8):=
 (need ((B1.length+([(u8 (((shru64 (u64 n4) 24)&&&(255:UInt64)).toNat:Int)),(u8 (((shru64 (u64 n4) 16)&&&(255:UInt64)).toNat:Int)),(u8 (((shru64 (u64 n4) 8)&&&(255:UInt64)).toNat:Int)),(u8 (((u64 n4)&&&(255:UInt64)).toNat:Int))]:List UInt8).length)*1≤140737488355328)).bind fun u6=>
 some (B1++([(u8 (((shru64 (u64 n4) 24)&&&(255:UInt64)).toNat:Int)),(u8 (((shru64 (u64 n4) 16)&&&(255:UInt64)).toNat:Int)),(u8 (((shru64 (u64 n4) 8)&&&(255:UInt64)).toNat:Int)),(u8 (((u64 n4)&&&(255:UInt64)).toNat:Int))]:List UInt8))
def cartridgeref1_More_e7 (c10:UInt32):Option UInt32:=
 some (c10^^^(4294967295:UInt32))
def cartridgeref1_More_e18 (i9:Int) (c21:UInt32):Option ((UInt32×Int) ⊕ UInt32):=
 some (.inl (c21,(wr (i9+(1:Int)))))
def cartridgeref1_More_j24 (k20:Int) (c25:UInt32):Option ((UInt32×Int) ⊕ UInt32):=
 some (.inl (c25,(wr (k20+(1:Int)))))
def cartridgeref1_More_s18 (s:(UInt32×Int)):Option ((UInt32×Int) ⊕ UInt32):=
 match s with
 |(c19,k20)=>
  if (decide (k20<(8:Int))) then
   if ((c19&&&(1:UInt32))==(1:UInt32)) then
    X.cartridgeref1_More_j24 k20 ((shr32 c19 1)^^^(2197175160:UInt32))
   else
    X.cartridgeref1_More_j24 k20 (shr32 c19 1)
  else
   some (.inr c19)
def cartridgeref1_More_s7 (b2:(List UInt8)) (s:(UInt32×Int)):Option ((UInt32×Int) ⊕ UInt32):=
 match s with
 |(c8,i9)=>
  if (decide (i9<(b2.length:Int))) then
   (getI b2 i9).bind fun e16=>
   (run (X.cartridgeref1_More_s18) ((c8^^^(u32 (e16.toNat:Int))),(0:Int))).bind fun o18=>match o18 with
   |c21=>X.cartridgeref1_More_e18 i9 c21
  else
   some (.inr c8)
def cartridgeref1_More (sum1:UInt32) (b2:(List UInt8)):Option UInt32:=
 (run (X.cartridgeref1_More_s7 b2) ((sum1^^^(4294967295:UInt32)),(0:Int))).bind fun o7=>match o7 with
 |c10=>X.cartridgeref1_More_e7 c10
def cartridgeref1_Crc (b1:(List UInt8)):Option UInt32:=
 (X.cartridgeref1_More (0:UInt32) b1).bind fun r4=>
 some r4
def cartridgeref1_PutFrame_j4 (u1:Unit_api) (most5:Int):Option ((List UInt8)×Int):=
 if ((((((decide (u1.Kind<(1:Int)))||(decide (u1.Kind>(6:Int))))||(decide (u1.Label<(1:Int))))||(decide (u1.Label>(2147483647:Int))))||(decide (u1.Number<(0:Int))))||(decide (u1.Number>(2147483647:Int)))) then
  some (([]:(List UInt8)),(1:Int))
 else
  if (decide ((u1.Load.length:Int)>most5)) then
   some (([]:(List UInt8)),(4:Int))
  else
   (X.cartridgeref1_Writer_Byte (u8 u1.Kind) ([]:List UInt8)).bind fun r15=>
   (X.cartridgeref1_Writer_Int u1.Label r15).bind fun r19=>
   (X.cartridgeref1_Writer_Int u1.Number r19).bind fun r23=>
   (need ((r23.length+([(u8 (shr64 (u1.Load.length:Int) ((8:UInt64).toNat:Int))),(u8 (and64 (u1.Load.length:Int) (255:Int)))]:List UInt8).length)*1≤140737488355328)).bind fun u27=>
   (need (((r23++([(u8 (shr64 (u1.Load.length:Int) ((8:UInt64).toNat:Int))),(u8 (and64 (u1.Load.length:Int) (255:Int)))]:List UInt8)).length+u1.Load.length)*1≤140737488355328)).bind fun u29=>
   (need (0≤(wr (most5-(u1.Load.length:Int)))∧(((r23++([(u8 (shr64 (u1.Load.length:Int) ((8:UInt64).toNat:Int))),(u8 (and64 (u1.Load.length:Int) (255:Int)))]:List UInt8))++u1.Load).length+(wr (most5-(u1.Load.length:Int))).toNat)*1≤140737488355328)).bind fun u31=>
   (X.cartridgeref1_Crc (((r23++([(u8 (shr64 (u1.Load.length:Int) ((8:UInt64).toNat:Int))),(u8 (and64 (u1.Load.length:Int) (255:Int)))]:List UInt8))++u1.Load)++(List.replicate (wr (most5-(u1.Load.length:Int))).toNat (0:UInt8)))).bind fun r33=>
   (X.cartridgeref1_Writer_Int (r33.toNat:Int) (((r23++([(u8 (shr64 (u1.Load.length:Int) ((8:UInt64).toNat:Int))),(u8 (and64 (u1.Load.length:Int) (255:Int)))]:List UInt8))++u1.Load)++(List.replicate (wr (most5-(u1.Load.length:Int))).toNat (0:UInt8)))).bind fun r34=>
   some (r34,(0:Int))
def cartridgeref1_PutFrame (u1:Unit_api):Option ((List UInt8)×Int):=
 if (u1.Kind==(6:Int)) then
  X.cartridgeref1_PutFrame_j4 u1 (79:Int)
 else
  X.cartridgeref1_PutFrame_j4 u1 (64:Int)
def cartridgeref10_StripeLen_e6 (n9:Int):Option Int:=
 some n9
def cartridgeref10_StripeLen_j13 (i8:Int) (n14:Int):Option ((Int×Int) ⊕ Int):=
 some (.inl (n14,(wr (i8+(1:Int)))))
def cartridgeref10_StripeLen_s6 (l1:(List Tape_api)) (s:(Int×Int)):Option ((Int×Int) ⊕ Int):=
 match s with
 |(n7,i8)=>
  if (decide (i8<(l1.length:Int))) then
   (getI l1 i8).bind fun e16=>
   ((optG ((!e16.Lost)) (getI l1 i8))).bind fun e17=>
   if ((!e16.Lost)&&(decide ((e17.Blocks.length:Int)>n7))) then
    (getI l1 i8).bind fun e18=>
    X.cartridgeref10_StripeLen_j13 i8 (e18.Blocks.length:Int)
   else
    X.cartridgeref10_StripeLen_j13 i8 n7
  else
   some (.inr n7)
def cartridgeref10_StripeLen (l1:(List Tape_api)):Option Int:=
 (run (X.cartridgeref10_StripeLen_s6 l1) ((0:Int),(0:Int))).bind fun o6=>match o6 with
 |n9=>X.cartridgeref10_StripeLen_e6 n9
def cartridgeref1_NewReader (b1:(List UInt8)):Option ((List UInt8)×Bool):=
 some ((Reader_ref1.mk b1 false).b_,(Reader_ref1.mk b1 false).bad_)
def cartridgeref1_Reader_take (n4:Int) (b1:(List UInt8)) (bad2:Bool):Option ((List UInt8)×((List UInt8)×Bool)):=
 if (bad2||(decide ((b1.length:Int)<n4))) then
  some (([]:(List UInt8)),(b1,true))
 else
  (need (0≤(0:Int)∧(0:Int)≤n4∧n4≤b1.length)).bind fun u11=>
  (need (0≤n4∧n4≤(b1.length:Int)∧(b1.length:Int)≤b1.length)).bind fun u13=>
  some ((slc b1 (0:Int) n4),((slc b1 n4 (b1.length:Int)),bad2))
def cartridgeref1_Reader_Byte (b1:(List UInt8)) (bad2:Bool):Option (UInt8×((List UInt8)×Bool)):=
 (X.cartridgeref1_Reader_take (1:Int) b1 bad2).bind fun r6=>
 if ((r6.1.length:Int)==(0:Int)) then
  some ((0:UInt8),(r6.2.1,r6.2.2))
 else
  (getI r6.1 (0:Int)).bind fun e12=>
  some (e12,(r6.2.1,r6.2.2))
def cartridgeref1_Reader_Int_e11 (r6:((List UInt8)×((List UInt8)×Bool))) (n16:Int):Option (Int×((List UInt8)×Bool)):=
 some (n16,(r6.2.1,r6.2.2))
def cartridgeref1_Reader_Int_s11 (r6:((List UInt8)×((List UInt8)×Bool))) (s:(Int×Int)):Option ((Int×Int) ⊕ Int):=
 match s with
 |(n13,i14)=>
  if (decide (i14<(r6.1.length:Int))) then
   (getI r6.1 i14).bind fun e21=>
   some (.inl ((or64 (shl64 n13 ((8:UInt64).toNat:Int)) (e21.toNat:Int)),(wr (i14+(1:Int)))))
  else
   some (.inr n13)
def cartridgeref1_Reader_Int (b1:(List UInt8)) (bad2:Bool):Option (Int×((List UInt8)×Bool)):=
 (X.cartridgeref1_Reader_take (4:Int) b1 bad2).bind fun r6=>
 (run (X.cartridgeref1_Reader_Int_s11 r6) ((0:Int),(0:Int))).bind fun o11=>match o11 with
 |n16=>X.cartridgeref1_Reader_Int_e11 r6 n16
def cartridgeref1_Reader_Bad (b1:(List UInt8)) (bad2:Bool):Option Bool:=
 some bad2
def cartridgeref1_Reader_Left (b1:(List UInt8)) (bad2:Bool):Option Int:=
 if bad2 then
  some (0:Int)
 else
  some (b1.length:Int)
def cartridgeref1_GetFrame (b1:(List UInt8)):Option (Unit_api×Int):=
 (X.cartridgeref1_NewReader b1).bind fun r6=>
 (X.cartridgeref1_Reader_Byte r6.1 r6.2).bind fun r9=>
 (X.cartridgeref1_Reader_Int r9.2.1 r9.2.2).bind fun r11=>
 (X.cartridgeref1_Reader_Int r11.2.1 r11.2.2).bind fun r13=>
 (X.cartridgeref1_Reader_Byte r13.2.1 r13.2.2).bind fun r18=>
 (X.cartridgeref1_Reader_Byte r18.2.1 r18.2.2).bind fun r20=>
 (X.cartridgeref1_Reader_Bad r20.2.1 r20.2.2).bind fun r24=>
 ((optG (!r24) (X.cartridgeref1_Reader_Left r20.2.1 r20.2.2))).bind fun r25=>
 if (r24||(decide ((wr ((wr ((256:Int)*(r18.1.toNat:Int)))+(r20.1.toNat:Int)))>r25))) then
  some ((Unit_api.mk (0:Int) (0:Int) (0:Int) ([]:List UInt8)),(2:Int))
 else
  (X.cartridgeref1_Reader_take (wr ((wr ((256:Int)*(r18.1.toNat:Int)))+(r20.1.toNat:Int))) r20.2.1 r20.2.2).bind fun r29=>
  (need (r29.1.length*1≤140737488355328)).bind fun u31=>
  (X.cartridgeref1_PutFrame (Unit_api.mk (r9.1.toNat:Int) r11.1 r13.1 r29.1)).bind fun r34=>
  if ((r34.2 !=(0:Int))||(!((Str.mk r34.1).l==(Str.mk b1).l))) then
   some ((Unit_api.mk (0:Int) (0:Int) (0:Int) ([]:List UInt8)),(2:Int))
  else
   some ((Unit_api.mk (r9.1.toNat:Int) r11.1 r13.1 r29.1),(0:Int))
def cartridgeref10_Good (t1:Tape_api) (n2:Int):Option (Unit_api×Bool):=
 if ((t1.Lost||(decide (n2<(0:Int))))||(decide (n2≥(t1.Blocks.length:Int)))) then
  some ((Unit_api.mk (0:Int) (0:Int) (0:Int) ([]:(List UInt8))),false)
 else
  (getI t1.Blocks n2).bind fun e9=>
  (X.cartridgeref1_GetFrame e9).bind fun r10=>
  if (((r10.2 !=(0:Int))||(r10.1.Label !=t1.Label))||(r10.1.Number !=n2)) then
   some ((Unit_api.mk (0:Int) (0:Int) (0:Int) ([]:(List UInt8))),false)
  else
   some (r10.1,true)
def cartridgeref10_RightSeal_e8:Option Bool:=
 some true
def cartridgeref10_RightSeal_e20 (i9:Int):Option (Int ⊕ (Unit ⊕ Bool)):=
 some (.inl (wr (i9+(1:Int))))
def cartridgeref10_RightSeal_s20 (i9:Int) (s1:Seal_api) (s:Int):Option (Int ⊕ (Unit ⊕ Bool)):=
 match s with
 |k21=>
  if (decide (k21<i9)) then
   (getI s1.Labels k21).bind fun e26=>
   (getI s1.Labels i9).bind fun e27=>
   if (e26==e27) then
    some (.inr (.inr false))
   else
    some (.inl (wr (k21+(1:Int))))
  else
   some (.inr (.inl ()))
def cartridgeref10_RightSeal_s8 (s1:Seal_api) (s:Int):Option (Int ⊕ (Unit ⊕ Bool)):=
 match s with
 |i9=>
  if (decide (i9<(s1.Labels.length:Int))) then
   (getI s1.Labels i9).bind fun e16=>
   ((optG (!((decide (e16<(1:Int))))) (getI s1.Labels i9))).bind fun e17=>
   if ((decide (e16<(1:Int)))||(decide (e17>(2147483647:Int)))) then
    some (.inr (.inr false))
   else
    (run (X.cartridgeref10_RightSeal_s20 i9 s1) (0:Int)).bind fun o20=>match o20 with
    | .inl _=>X.cartridgeref10_RightSeal_e20 i9
    | .inr rv20=>some (.inr (.inr rv20))
  else
   some (.inr (.inl ()))
def cartridgeref10_RightSeal (s1:Seal_api):Option Bool:=
 if ((((((((((decide (s1.Number<(1:Int)))||(decide (s1.Number>(1073741824:Int))))||(decide (s1.Data<(1:Int))))||(decide (s1.Parity<(1:Int))))||(decide (s1.Data>(14:Int))))||(decide (s1.Parity>(14:Int))))||(decide ((wr (s1.Data+s1.Parity))>(14:Int))))||((s1.Labels.length:Int) !=(wr (s1.Data+s1.Parity))))||(decide (s1.Index<(0:Int))))||(decide (s1.Index≥(s1.Labels.length:Int)))) then
  some false
 else
  (run (X.cartridgeref10_RightSeal_s8 s1) (0:Int)).bind fun o8=>match o8 with
  | .inl _=>X.cartridgeref10_RightSeal_e8
  | .inr rv8=>some rv8
def cartridgeref10_Row_kp0_e9 (l16:List (List UInt8)):Option (List (List UInt8)):=
 some l16
def cartridgeref10_Row_kp0_j20 (i13:Int) (l23:List (List UInt8)):Option (((List (List UInt8))×Int) ⊕ List (List UInt8)):=
 some (.inl (l23,(wr (i13+(1:Int)))))
def cartridgeref10_Row_kp0_s9 (l1:(List Tape_api)) (n3:Int) (s:((List (List UInt8))×Int)):Option (((List (List UInt8))×Int) ⊕ List (List UInt8)):=
 match s with
 |(out12,i13)=>
  if (decide (i13<(l1.length:Int))) then
   (getI l1 i13).bind fun e25=>
   ((optG (!((e25.Lost||(decide (n3<(0:Int)))))) (getI l1 i13))).bind fun e26=>
   if ((e25.Lost||(decide (n3<(0:Int))))||(decide (n3≥(e26.Blocks.length:Int)))) then
    (need (0≤(79:Int)∧(79:Int)*1≤281474976710656)).bind fun u27=>
    (need ((out12.length+([(List.replicate (79:Int).toNat (0:UInt8))]:List (List UInt8)).length)*24≤140737488355328)).bind fun u28=>
    X.cartridgeref10_Row_kp0_j20 i13 (out12++([(List.replicate (79:Int).toNat (0:UInt8))]:List (List UInt8)))
   else
    (getI l1 i13).bind fun e30=>
    (getI e30.Blocks n3).bind fun e31=>
    if ((e31.length:Int)==(79:Int)) then
     (getI l1 i13).bind fun e32=>
     (getI e32.Blocks n3).bind fun e33=>
     (need (e33.length*1≤140737488355328)).bind fun u34=>
     (need ((out12.length+([e33]:List (List UInt8)).length)*24≤140737488355328)).bind fun u36=>
     X.cartridgeref10_Row_kp0_j20 i13 (out12++([e33]:List (List UInt8)))
    else
     (need ((out12.length+([([]:(List UInt8))]:List (List UInt8)).length)*24≤140737488355328)).bind fun u37=>
     X.cartridgeref10_Row_kp0_j20 i13 (out12++([([]:(List UInt8))]:List (List UInt8)))
  else
   some (.inr out12)
def cartridgeref10_Row_kp0 (n3:Int) (l1:(List Tape_api)):Option (List (List UInt8)):=
 (run (X.cartridgeref10_Row_kp0_s9 l1 n3) (([]:List (List UInt8)),(0:Int))).bind fun o9=>match o9 with
 |l16=>X.cartridgeref10_Row_kp0_e9 l16
def cartridgeref1_Mul_e13 (x16:Int):Option UInt8:=
 some (u8 x16)
def cartridgeref1_Mul_j20 (i15:Int) (x21:Int):Option ((Int×Int) ⊕ Int):=
 some (.inl (x21,(wr (i15-(1:Int)))))
def cartridgeref1_Mul_s13 (s:(Int×Int)):Option ((Int×Int) ⊕ Int):=
 match s with
 |(x14,i15)=>
  if (decide (i15≥(8:Int))) then
   if ((and64 (shr64 x14 ((u64 i15).toNat:Int)) (1:Int))==(1:Int)) then
    X.cartridgeref1_Mul_j20 i15 (xor64 x14 (shl64 (285:Int) ((u64 (wr (i15-(8:Int)))).toNat:Int)))
   else
    X.cartridgeref1_Mul_j20 i15 x14
  else
   some (.inr x14)
def cartridgeref1_Mul_e7 (x10:Int):Option UInt8:=
 (run (X.cartridgeref1_Mul_s13) (x10,(14:Int))).bind fun o13=>match o13 with
 |x16=>X.cartridgeref1_Mul_e13 x16
def cartridgeref1_Mul_j25 (i9:Int) (x26:Int):Option ((Int×Int) ⊕ Int):=
 some (.inl (x26,(wr (i9+(1:Int)))))
def cartridgeref1_Mul_s7 (b2:UInt8) (a1:UInt8) (s:(Int×Int)):Option ((Int×Int) ⊕ Int):=
 match s with
 |(x8,i9)=>
  if (decide (i9<(8:Int))) then
   if (((shr8 b2 (u64 i9).toNat)&&&(1:UInt8))==(1:UInt8)) then
    X.cartridgeref1_Mul_j25 i9 (xor64 x8 (shl64 (a1.toNat:Int) ((u64 i9).toNat:Int)))
   else
    X.cartridgeref1_Mul_j25 i9 x8
  else
   some (.inr x8)
def cartridgeref1_Mul (a1:UInt8) (b2:UInt8):Option UInt8:=
 (run (X.cartridgeref1_Mul_s7 b2 a1) ((0:Int),(0:Int))).bind fun o7=>match o7 with
 |x10=>X.cartridgeref1_Mul_e7 x10
def cartridgeref1_Inv_e6 (x9:UInt8):Option UInt8:=
 some x9
def cartridgeref1_Inv_s6 (a1:UInt8) (s:(UInt8×Int)):Option ((UInt8×Int) ⊕ UInt8):=
 match s with
 |(x7,i8)=>
  if (decide (i8<(254:Int))) then
   (X.cartridgeref1_Mul x7 a1).bind fun r14=>
   some (.inl (r14,(wr (i8+(1:Int)))))
  else
   some (.inr x7)
def cartridgeref1_Inv (a1:UInt8):Option UInt8:=
 (run (X.cartridgeref1_Inv_s6 a1) ((1:UInt8),(0:Int))).bind fun o6=>match o6 with
 |x9=>X.cartridgeref1_Inv_e6 x9
def cartridgeref1_Cauchy_e11 (l16:List (List UInt8)):Option ((List (List UInt8))×Int):=
 some (l16,(0:Int))
def cartridgeref1_Cauchy_e25 (out13:(List (List UInt8))) (i14:Int) (l32:List UInt8):Option (((List (List UInt8))×Int) ⊕ List (List UInt8)):=
 (need ((out13.length+([l32]:List (List UInt8)).length)*24≤140737488355328)).bind fun u33=>
 some (.inl ((out13++([l32]:List (List UInt8))),(wr (i14+(1:Int)))))
def cartridgeref1_Cauchy_s25 (data1:Int) (i14:Int) (parity2:Int) (s:((List UInt8)×Int)):Option (((List UInt8)×Int) ⊕ List UInt8):=
 match s with
 |(row28,j29)=>
  if (decide (j29<data1)) then
   (X.cartridgeref1_Inv ((u8 i14)^^^(u8 (wr (parity2+j29))))).bind fun r37=>
   (need ((row28.length+([r37]:List UInt8).length)*1≤140737488355328)).bind fun u38=>
   some (.inl ((row28++([r37]:List UInt8)),(wr (j29+(1:Int)))))
  else
   some (.inr row28)
def cartridgeref1_Cauchy_s11 (parity2:Int) (data1:Int) (s:((List (List UInt8))×Int)):Option (((List (List UInt8))×Int) ⊕ List (List UInt8)):=
 match s with
 |(out13,i14)=>
  if (decide (i14<parity2)) then
   (run (X.cartridgeref1_Cauchy_s25 data1 i14 parity2) (([]:List UInt8),(0:Int))).bind fun o25=>match o25 with
   |l32=>X.cartridgeref1_Cauchy_e25 out13 i14 l32
  else
   some (.inr out13)
def cartridgeref1_Cauchy (data1:Int) (parity2:Int):Option ((List (List UInt8))×Int):=
 if (((((decide (data1<(1:Int)))||(decide (parity2<(1:Int))))||(decide (data1>(255:Int))))||(decide (parity2>(255:Int))))||(decide ((wr (data1+parity2))>(255:Int)))) then
  some (([]:(List (List UInt8))),(1:Int))
 else
  (run (X.cartridgeref1_Cauchy_s11 parity2 data1) (([]:List (List UInt8)),(0:Int))).bind fun o11=>match o11 with
  |l16=>X.cartridgeref1_Cauchy_e11 l16
def cartridgeref1_Encode_e20 (l25:List (List UInt8)):Option ((List (List UInt8))×Int):=
 some (l25,(0:Int))
def cartridgeref1_Encode_e37 (out22:(List (List UInt8))) (i23:Int) (l44:List UInt8):Option (((List (List UInt8))×Int) ⊕ List (List UInt8)):=
 (need ((out22.length+([l44]:List (List UInt8)).length)*24≤140737488355328)).bind fun u45=>
 some (.inl ((out22++([l44]:List (List UInt8))),(wr (i23+(1:Int)))))
def cartridgeref1_Encode_e50 (k41:Int) (l57:List UInt8):Option (((List UInt8)×Int) ⊕ List UInt8):=
 some (.inl (l57,(wr (k41+(1:Int)))))
def cartridgeref1_Encode_s50 (data1:(List (List UInt8))) (k41:Int) (r15:((List (List UInt8))×Int)) (i23:Int) (s:((List UInt8)×Int)):Option (((List UInt8)×Int) ⊕ List UInt8):=
 match s with
 |(row53,j54)=>
  if (decide (j54<(data1.length:Int))) then
   (getI row53 k41).bind fun e61=>
   (getI r15.1 i23).bind fun e62=>
   (getI e62 j54).bind fun e63=>
   (getI data1 j54).bind fun e64=>
   (getI e64 k41).bind fun e65=>
   (X.cartridgeref1_Mul e63 e65).bind fun r66=>
   (getI row53 k41).bind fun e67=>
   some (.inl ((row53.set k41.toNat (e61^^^r66)),(wr (j54+(1:Int)))))
  else
   some (.inr row53)
def cartridgeref1_Encode_s37 (data1:(List (List UInt8))) (r15:((List (List UInt8))×Int)) (i23:Int) (s:((List UInt8)×Int)):Option (((List UInt8)×Int) ⊕ List UInt8):=
 match s with
 |(row40,k41)=>
  if (decide (k41<(row40.length:Int))) then
   (run (X.cartridgeref1_Encode_s50 data1 k41 r15 i23) (row40,(0:Int))).bind fun o50=>match o50 with
   |l57=>X.cartridgeref1_Encode_e50 k41 l57
  else
   some (.inr row40)
def cartridgeref1_Encode_s20 (parity2:Int) (data1:(List (List UInt8))) (r15:((List (List UInt8))×Int)) (s:((List (List UInt8))×Int)):Option (((List (List UInt8))×Int) ⊕ List (List UInt8)):=
 match s with
 |(out22,i23)=>
  if (decide (i23<parity2)) then
   (getI data1 (0:Int)).bind fun e31=>
   (need (0≤(e31.length:Int)∧(e31.length:Int)*1≤281474976710656)).bind fun u33=>
   (run (X.cartridgeref1_Encode_s37 data1 r15 i23) ((List.replicate (e31.length:Int).toNat (0:UInt8)),(0:Int))).bind fun o37=>match o37 with
   |l44=>X.cartridgeref1_Encode_e37 out22 i23 l44
  else
   some (.inr out22)
def cartridgeref1_Encode_e9 (parity2:Int) (data1:(List (List UInt8))):Option ((List (List UInt8))×Int):=
 if (parity2==(0:Int)) then
  some (([]:(List (List UInt8))),(0:Int))
 else
  (X.cartridgeref1_Cauchy (data1.length:Int) parity2).bind fun r15=>
  (run (X.cartridgeref1_Encode_s20 parity2 data1 r15) (([]:List (List UInt8)),(0:Int))).bind fun o20=>match o20 with
  |l25=>X.cartridgeref1_Encode_e20 l25
def cartridgeref1_Encode_s9 (data1:(List (List UInt8))) (s:Int):Option (Int ⊕ (Unit ⊕ ((List (List UInt8))×Int))):=
 match s with
 |i10=>
  if (decide (i10<(data1.length:Int))) then
   (getI data1 i10).bind fun e72=>
   (getI data1 (0:Int)).bind fun e73=>
   if ((e72.length:Int) !=(e73.length:Int)) then
    some (.inr (.inr (([]:(List (List UInt8))),(1:Int))))
   else
    some (.inl (wr (i10+(1:Int))))
  else
   some (.inr (.inl ()))
def cartridgeref1_Encode (data1:(List (List UInt8))) (parity2:Int):Option ((List (List UInt8))×Int):=
 if ((((decide ((data1.length:Int)<(1:Int)))||(decide (parity2<(0:Int))))||(decide (parity2>(255:Int))))||(decide ((wr ((data1.length:Int)+parity2))>(255:Int)))) then
  some (([]:(List (List UInt8))),(1:Int))
 else
  (run (X.cartridgeref1_Encode_s9 data1) (1:Int)).bind fun o9=>match o9 with
  | .inl _=>X.cartridgeref1_Encode_e9 parity2 data1
  | .inr rv9=>some rv9
def cartridgeref10_Parity_kp0_e22 (l29:List (List (List UInt8))):Option ((List (List (List UInt8)))×Int):=
 some (l29,(0:Int))
def cartridgeref10_Parity_kp0_e51 (n26:Int) (l58:List (List (List UInt8))):Option (((List (List (List UInt8)))×Int) ⊕ (List (List (List UInt8)) ⊕ ((List (List (List UInt8)))×Int))):=
 some (.inl (l58,(wr (n26+(1:Int)))))
def cartridgeref10_Parity_kp0_s51 (parity3:Int) (r46:((List (List UInt8))×Int)) (s:((List (List (List UInt8)))×Int)):Option (((List (List (List UInt8)))×Int) ⊕ List (List (List UInt8))):=
 match s with
 |(out54,j55)=>
  if (decide (j55<parity3)) then
   (getI out54 j55).bind fun e62=>
   (getI r46.1 j55).bind fun e64=>
   (need ((e62.length+([e64]:List (List UInt8)).length)*24≤140737488355328)).bind fun u65=>
   (getI out54 j55).bind fun e66=>
   some (.inl ((out54.set j55.toNat (e62++([e64]:List (List UInt8)))),(wr (j55+(1:Int)))))
  else
   some (.inr out54)
def cartridgeref10_Parity_kp0_e39 (r36:(List (List UInt8))) (parity3:Int) (out25:(List (List (List UInt8)))) (n26:Int):Option (((List (List (List UInt8)))×Int) ⊕ (List (List (List UInt8)) ⊕ ((List (List (List UInt8)))×Int))):=
 (X.cartridgeref1_Encode r36 parity3).bind fun r46=>
 if (r46.2 !=(0:Int)) then
  some (.inr (.inr (([]:(List (List (List UInt8)))),r46.2)))
 else
  (run (X.cartridgeref10_Parity_kp0_s51 parity3 r46) (out25,(0:Int))).bind fun o51=>match o51 with
  |l58=>X.cartridgeref10_Parity_kp0_e51 n26 l58
def cartridgeref10_Parity_kp0_s39 (r36:(List (List UInt8))) (s:Int):Option (Int ⊕ (Unit ⊕ ((List (List (List UInt8)))×Int))):=
 match s with
 |i42=>
  if (decide (i42<(r36.length:Int))) then
   (getI r36 i42).bind fun e71=>
   if ((e71.length:Int)==(0:Int)) then
    some (.inr (.inr (([]:(List (List (List UInt8)))),(1:Int))))
   else
    some (.inl (wr (i42+(1:Int))))
  else
   some (.inr (.inl ()))
def cartridgeref10_Parity_kp0_s22 (l1:(List Tape_api)) (parity3:Int) (s:((List (List (List UInt8)))×Int)):Option (((List (List (List UInt8)))×Int) ⊕ (List (List (List UInt8)) ⊕ ((List (List (List UInt8)))×Int))):=
 match s with
 |(out25,n26)=>
  (X.cartridgeref10_StripeLen l1).bind fun r33=>
  if (decide (n26<r33)) then
   (X.cartridgeref10_Row_kp0 n26 l1).bind fun r36=>
   (run (X.cartridgeref10_Parity_kp0_s39 r36) (0:Int)).bind fun o39=>match o39 with
   | .inl _=>X.cartridgeref10_Parity_kp0_e39 r36 parity3 out25 n26
   | .inr rv39=>some (.inr (.inr rv39))
  else
   some (.inr (.inl out25))
def cartridgeref10_Parity_kp0_e12 (l1:(List Tape_api)) (parity3:Int) (l19:List (List (List UInt8))):Option ((List (List (List UInt8)))×Int):=
 (run (X.cartridgeref10_Parity_kp0_s22 l1 parity3) (l19,(0:Int))).bind fun o22=>match o22 with
 | .inl l29=>X.cartridgeref10_Parity_kp0_e22 l29
 | .inr rv22=>some rv22
def cartridgeref10_Parity_kp0_s12 (parity3:Int) (s:((List (List (List UInt8)))×Int)):Option (((List (List (List UInt8)))×Int) ⊕ List (List (List UInt8))):=
 match s with
 |(out15,j16)=>
  if (decide (j16<parity3)) then
   (need ((out15.length+1)*24≤140737488355328)).bind fun u76=>
   some (.inl ((out15++[([]:List (List UInt8))]),(wr (j16+(1:Int)))))
  else
   some (.inr out15)
def cartridgeref10_Parity_kp0 (parity3:Int) (l1:(List Tape_api)):Option ((List (List (List UInt8)))×Int):=
 if ((((decide ((l1.length:Int)<(1:Int)))||(decide (parity3<(0:Int))))||(decide (parity3>(255:Int))))||(decide ((wr ((l1.length:Int)+parity3))>(255:Int)))) then
  some (([]:(List (List (List UInt8)))),(1:Int))
 else
  (run (X.cartridgeref10_Parity_kp0_s12 parity3) (([]:List (List (List UInt8))),(0:Int))).bind fun o12=>match o12 with
  |l19=>X.cartridgeref10_Parity_kp0_e12 l1 parity3 l19
def cartridgeref10_frame (kind1:Int) (label2:Int) (number3:Int) (b4:(List UInt8)):Option (List UInt8):=
 (X.cartridgeref1_PutFrame (Unit_api.mk kind1 label2 number3 b4)).bind fun r7=>
 some r7.1
def cartridgeref10_SealBytes_e28 (l35:List UInt8):Option (List UInt8):=
 some l35
def cartridgeref10_SealBytes_s28 (s1:Seal_api) (s:((List UInt8)×Int)):Option (((List UInt8)×Int) ⊕ List UInt8):=
 match s with
 |(l31,i32)=>
  if (decide (i32<(s1.Labels.length:Int))) then
   (getI s1.Labels i32).bind fun e40=>
   (X.cartridgeref1_Writer_Int e40 l31).bind fun r41=>
   some (.inl (r41,(wr (i32+(1:Int)))))
  else
   some (.inr l31)
def cartridgeref10_SealBytes (s1:Seal_api):Option (List UInt8):=
 (X.cartridgeref10_RightSeal s1).bind fun r5=>
 if (!r5) then
  some ([]:(List UInt8))
 else
  (X.cartridgeref1_Writer_Int s1.Number ([]:List UInt8)).bind fun r11=>
  (X.cartridgeref1_Writer_Byte (u8 s1.Index) r11).bind fun r15=>
  (X.cartridgeref1_Writer_Byte (u8 s1.Data) r15).bind fun r19=>
  (X.cartridgeref1_Writer_Byte (u8 s1.Parity) r19).bind fun r23=>
  (run (X.cartridgeref10_SealBytes_s28 s1) (r23,(0:Int))).bind fun o28=>match o28 with
  |l35=>X.cartridgeref10_SealBytes_e28 l35
def cartridgeref10_Make_kp0_e87 (l100:List Tape_api):Option ((List Tape_api)×Int):=
 some (l100,(0:Int))
def cartridgeref10_Make_kp0_e116 (r79:((List (List (List UInt8)))×Int)) (i97:Int) (c90:Int) (data1:(List Tape_api)) (c92:Int) (c93:Int) (c94:(List Int)) (out96:(List Tape_api)) (c131:Int) (c132:Int) (l134:List (List UInt8)) (c135:Bool):Option ((Int×Int×Int×Int×(List Int)×(List Tape_api)×Int) ⊕ List Tape_api):=
 (getI r79.1 i97).bind fun e138=>
 (X.cartridgeref10_SealBytes (Seal_api.mk c90 (wr ((data1.length:Int)+i97)) c92 c93 c94)).bind fun r139=>
 (X.cartridgeref10_frame (5:Int) c131 (wr ((e138.length:Int)+(1:Int))) r139).bind fun r140=>
 (need ((l134.length+([r140]:List (List UInt8)).length)*24≤140737488355328)).bind fun u141=>
 (need ((out96.length+([(Tape_api.mk c131 c132 (l134++([r140]:List (List UInt8))) c135)]:List Tape_api).length)*48≤140737488355328)).bind fun u142=>
 some (.inl (c90,(wr ((data1.length:Int)+i97)),c92,c93,c94,(out96++([(Tape_api.mk c131 c132 (l134++([r140]:List (List UInt8))) c135)]:List Tape_api)),(wr (i97+(1:Int)))))
def cartridgeref10_Make_kp0_s116 (r79:((List (List (List UInt8)))×Int)) (i97:Int) (s:(Int×Int×(List (List UInt8))×Bool×Int)):Option ((Int×Int×(List (List UInt8))×Bool×Int) ⊕ (Int×Int×List (List UInt8)×Bool)):=
 match s with
 |(c121,c122,l124,c125,n126)=>
  (getI r79.1 i97).bind fun e145=>
  if (decide (n126<(e145.length:Int))) then
   (getI r79.1 i97).bind fun e147=>
   (getI e147 n126).bind fun e148=>
   (X.cartridgeref10_frame (6:Int) c121 (wr (n126+(1:Int))) e148).bind fun r149=>
   (need ((l124.length+([r149]:List (List UInt8)).length)*24≤140737488355328)).bind fun u150=>
   some (.inl (c121,c122,(l124++([r149]:List (List UInt8))),c125,(wr (n126+(1:Int)))))
  else
   some (.inr (c121,c122,l124,c125))
def cartridgeref10_Make_kp0_s87 (blank3:(List Tape_api)) (r79:((List (List (List UInt8)))×Int)) (data1:(List Tape_api)) (s:(Int×Int×Int×Int×(List Int)×(List Tape_api)×Int)):Option ((Int×Int×Int×Int×(List Int)×(List Tape_api)×Int) ⊕ List Tape_api):=
 match s with
 |(c90,c91,c92,c93,c94,out96,i97)=>
  if (decide (i97<(blank3.length:Int))) then
   (getI blank3 i97).bind fun e106=>
   (getI blank3 i97).bind fun e107=>
   (X.cartridgeref10_frame (1:Int) e106.Label (0:Int) ([(80:UInt8)]:List UInt8)).bind fun r112=>
   (need ((([]:List (List UInt8)).length+([r112]:List (List UInt8)).length)*24≤140737488355328)).bind fun u113=>
   (run (X.cartridgeref10_Make_kp0_s116 r79 i97) (e106.Label,e107.Cap,(([]:List (List UInt8))++([r112]:List (List UInt8))),false,(0:Int))).bind fun o116=>match o116 with
   |(c131,c132,l134,c135)=>X.cartridgeref10_Make_kp0_e116 r79 i97 c90 data1 c92 c93 c94 out96 c131 c132 l134 c135
  else
   some (.inr out96)
def cartridgeref10_Make_kp0_e72 (blank3:(List Tape_api)) (data1:(List Tape_api)) (c51:Int) (c52:Int) (c53:Int) (c54:Int) (l56:List Int):Option ((List Tape_api)×Int):=
 (X.cartridgeref10_Parity_kp0 (blank3.length:Int) data1).bind fun r79=>
 if (r79.2 !=(0:Int)) then
  some (([]:(List Tape_api)),r79.2)
 else
  (run (X.cartridgeref10_Make_kp0_s87 blank3 r79 data1) (c51,c52,c53,c54,l56,([]:List Tape_api),(0:Int))).bind fun o87=>match o87 with
  |l100=>X.cartridgeref10_Make_kp0_e87 l100
def cartridgeref10_Make_kp0_s72 (blank3:(List Tape_api)) (data1:(List Tape_api)) (s:Int):Option (Int ⊕ (Unit ⊕ ((List Tape_api)×Int))):=
 match s with
 |i75=>
  if (decide (i75<(blank3.length:Int))) then
   (X.cartridgeref10_StripeLen data1).bind fun r155=>
   (getI blank3 i75).bind fun e156=>
   if (decide ((wr (r155+(2:Int)))>e156.Cap)) then
    some (.inr (.inr (([]:(List Tape_api)),(6:Int))))
   else
    some (.inl (wr (i75+(1:Int))))
  else
   some (.inr (.inl ()))
def cartridgeref10_Make_kp0_e64 (blank3:(List Tape_api)) (data1:(List Tape_api)) (c51:Int) (c52:Int) (c53:Int) (c54:Int) (l56:List Int):Option ((List Tape_api)×Int):=
 (run (X.cartridgeref10_Make_kp0_s72 blank3 data1) (0:Int)).bind fun o72=>match o72 with
 | .inl _=>X.cartridgeref10_Make_kp0_e72 blank3 data1 c51 c52 c53 c54 l56
 | .inr rv72=>some rv72
def cartridgeref10_Make_kp0_s64 (blank3:(List Tape_api)) (s:Int):Option (Int ⊕ (Unit ⊕ ((List Tape_api)×Int))):=
 match s with
 |i67=>
  if (decide (i67<(blank3.length:Int))) then
   (getI blank3 i67).bind fun e162=>
   if (decide ((e162.Blocks.length:Int)>(0:Int))) then
    some (.inr (.inr (([]:(List Tape_api)),(11:Int))))
   else
    some (.inl (wr (i67+(1:Int))))
  else
   some (.inr (.inl ()))
def cartridgeref10_Make_kp0_e38 (bad35:Bool) (blank3:(List Tape_api)) (data1:(List Tape_api)) (c51:Int) (c52:Int) (c53:Int) (c54:Int) (l56:List Int) (lost57:Bool):Option ((List Tape_api)×Int):=
 (X.cartridgeref10_RightSeal (Seal_api.mk c51 c52 c53 c54 l56)).bind fun r60=>
 if (((!r60)||lost57)||bad35) then
  some (([]:(List Tape_api)),(1:Int))
 else
  (run (X.cartridgeref10_Make_kp0_s64 blank3) (0:Int)).bind fun o64=>match o64 with
  | .inl _=>X.cartridgeref10_Make_kp0_e64 blank3 data1 c51 c52 c53 c54 l56
  | .inr rv64=>some rv64
def cartridgeref10_Make_kp0_s38 (blank3:(List Tape_api)) (s:(Int×Int×Int×Int×(List Int)×Bool×Int)):Option ((Int×Int×Int×Int×(List Int)×Bool×Int) ⊕ (Int×Int×Int×Int×List Int×Bool)):=
 match s with
 |(c41,c42,c43,c44,l46,lost47,i48)=>
  if (decide (i48<(blank3.length:Int))) then
   (getI blank3 i48).bind fun e168=>
   (need ((l46.length+([e168.Label]:List Int).length)*8≤140737488355328)).bind fun u169=>
   ((optG (!lost47) (getI blank3 i48))).bind fun e170=>
   some (.inl (c41,c42,c43,c44,(l46++([e168.Label]:List Int)),(lost47||e170.Lost),(wr (i48+(1:Int)))))
  else
   some (.inr (c41,c42,c43,c44,l46,lost47))
def cartridgeref10_Make_kp0_e14 (blank3:(List Tape_api)) (data1:(List Tape_api)) (c28:Int) (c29:Int) (c30:Int) (c31:Int) (l33:List Int) (lost34:Bool) (bad35:Bool):Option ((List Tape_api)×Int):=
 (run (X.cartridgeref10_Make_kp0_s38 blank3) (c28,c29,c30,c31,l33,lost34,(0:Int))).bind fun o38=>match o38 with
 |(c51,c52,c53,c54,l56,lost57)=>X.cartridgeref10_Make_kp0_e38 bad35 blank3 data1 c51 c52 c53 c54 l56 lost57
def cartridgeref10_Make_kp0_e180 (c17:Int) (c18:Int) (c19:Int) (c20:Int) (l22:(List Int)) (e175:Tape_api) (lost23:Bool) (e178:Tape_api) (i25:Int) (bad189:Bool):Option ((Int×Int×Int×Int×(List Int)×Bool×Bool×Int) ⊕ (Int×Int×Int×Int×List Int×Bool×Bool)):=
 some (.inl (c17,c18,c19,c20,(l22++([e175.Label]:List Int)),(lost23||e178.Lost),bad189,(wr (i25+(1:Int)))))
def cartridgeref10_Make_kp0_s180 (data1:(List Tape_api)) (i25:Int) (s:(Bool×Int)):Option ((Bool×Int) ⊕ Bool):=
 match s with
 |(bad184,n185)=>
  (getI data1 i25).bind fun e192=>
  if (decide (n185<(e192.Blocks.length:Int))) then
   (getI data1 i25).bind fun e195=>
   (X.cartridgeref10_Good e195 n185).bind fun r196=>
   some (.inl ((bad184||(!r196.2)),(wr (n185+(1:Int)))))
  else
   some (.inr bad184)
def cartridgeref10_Make_kp0_s14 (data1:(List Tape_api)) (s:(Int×Int×Int×Int×(List Int)×Bool×Bool×Int)):Option ((Int×Int×Int×Int×(List Int)×Bool×Bool×Int) ⊕ (Int×Int×Int×Int×List Int×Bool×Bool)):=
 match s with
 |(c17,c18,c19,c20,l22,lost23,bad24,i25)=>
  if (decide (i25<(data1.length:Int))) then
   (getI data1 i25).bind fun e175=>
   (need ((l22.length+([e175.Label]:List Int).length)*8≤140737488355328)).bind fun u176=>
   ((optG (!lost23) (getI data1 i25))).bind fun e178=>
   (run (X.cartridgeref10_Make_kp0_s180 data1 i25) (bad24,(0:Int))).bind fun o180=>match o180 with
   |bad189=>X.cartridgeref10_Make_kp0_e180 c17 c18 c19 c20 l22 e175 lost23 e178 i25 bad189
  else
   some (.inr (c17,c18,c19,c20,l22,lost23,bad24))
def cartridgeref10_Make_kp0 (blank3:(List Tape_api)) (number4:Int) (data1:(List Tape_api)):Option ((List Tape_api)×Int):=
 (X.cartridgeref10_StripeLen data1).bind fun r11=>
 (run (X.cartridgeref10_Make_kp0_s14 data1) (number4,(0:Int),(data1.length:Int),(blank3.length:Int),([]:List Int),false,(r11==(0:Int)),(0:Int))).bind fun o14=>match o14 with
 |(c28,c29,c30,c31,l33,lost34,bad35)=>X.cartridgeref10_Make_kp0_e14 blank3 data1 c28 c29 c30 c31 l33 lost34 bad35
def cartridgeref10_ReadSeal_e20 (b1:(List UInt8)) (c36:Int) (c37:Int) (c38:Int) (c39:Int) (l41:List Int):Option (Seal_api×Int):=
 (X.cartridgeref10_SealBytes (Seal_api.mk c36 c37 c38 c39 l41)).bind fun r43=>
 if (((r43.length:Int)==(0:Int))||(!((Str.mk r43).l==(Str.mk b1).l))) then
  some ((Seal_api.mk (0:Int) (0:Int) (0:Int) (0:Int) ([]:List Int)),(2:Int))
 else
  some ((Seal_api.mk c36 c37 c38 c39 l41),(0:Int))
def cartridgeref10_ReadSeal_s20 (s:((List UInt8)×Bool×Int×Int×Int×Int×(List Int))):Option (((List UInt8)×Bool×Int×Int×Int×Int×(List Int)) ⊕ (Int×Int×Int×Int×List Int)):=
 match s with
 |(c24,c25,c27,c28,c29,c30,l32)=>
  (X.cartridgeref1_Reader_Left c24 c25).bind fun r51=>
  if ((decide (r51≥(4:Int)))&&(decide ((l32.length:Int)<(14:Int)))) then
   (X.cartridgeref1_Reader_Int c24 c25).bind fun r52=>
   (need ((l32.length+([r52.1]:List Int).length)*8≤140737488355328)).bind fun u54=>
   some (.inl (r52.2.1,r52.2.2,c27,c28,c29,c30,(l32++([r52.1]:List Int))))
  else
   some (.inr (c27,c28,c29,c30,l32))
def cartridgeref10_ReadSeal (b1:(List UInt8)):Option (Seal_api×Int):=
 (X.cartridgeref1_NewReader b1).bind fun r6=>
 (X.cartridgeref1_Reader_Int r6.1 r6.2).bind fun r9=>
 (X.cartridgeref1_Reader_Byte r9.2.1 r9.2.2).bind fun r11=>
 (X.cartridgeref1_Reader_Byte r11.2.1 r11.2.2).bind fun r13=>
 (X.cartridgeref1_Reader_Byte r13.2.1 r13.2.2).bind fun r15=>
 (run (X.cartridgeref10_ReadSeal_s20) (r15.2.1,r15.2.2,r9.1,(r11.1.toNat:Int),(r13.1.toNat:Int),(r15.1.toNat:Int),([]:List Int))).bind fun o20=>match o20 with
 |(c36,c37,c38,c39,l41)=>X.cartridgeref10_ReadSeal_e20 b1 c36 c37 c38 c39 l41
def cartridgeref10_Sealed (t1:Tape_api):Option (Seal_api×Bool):=
 (X.cartridgeref10_Good t1 (wr ((t1.Blocks.length:Int)-(1:Int)))).bind fun r5=>
 if ((!r5.2)||(r5.1.Kind !=(5:Int))) then
  some ((Seal_api.mk (0:Int) (0:Int) (0:Int) (0:Int) ([]:(List Int))),false)
 else
  (X.cartridgeref10_ReadSeal r5.1.Load).bind fun r11=>
  some (r11.1,(r11.2==(0:Int)))
def cartridgelaw15_num (e1:Int):Option Int:=
 some e1
def cartridgelaw15_alive:Option Bool:=
 (X.mend_Block ([]:List Tape_api) (Seal_api.mk (0:Int) (0:Int) (0:Int) (0:Int) ([]:(List Int))) (1:Int) (0:Int)).bind fun r3=>
 (X.cartridgeref1_PutFrame (Unit_api.mk (1:Int) (1:Int) (0:Int) ([(68:UInt8)]:List UInt8))).bind fun r6=>
 (X.cartridgeref10_Make_kp0 ([(Tape_api.mk (2:Int) (4:Int) ([]:(List (List UInt8))) false)]:List Tape_api) (1:Int) ([(Tape_api.mk (1:Int) (4:Int) ([r6.1]:List (List UInt8)) false)]:List Tape_api)).bind fun r9=>
 (getI r9.1 (0:Int)).bind fun e11=>
 (X.cartridgeref10_Sealed e11).bind fun r12=>
 (X.mend_Block r9.1 r12.1 (1:Int) (0:Int)).bind fun r15=>
 (X.cartridgelaw15_num r3.2).bind fun r17=>
 ((optG ((r17==(1:Int))) (X.cartridgelaw15_num r15.2))).bind fun r18=>
 some (((r17==(1:Int))&&(r18==(0:Int)))&&((Str.mk r15.1).l==(Str.mk r6.1).l))
def cartridgelaw15_laid_or_e22 (l18:List Tape_api) (l31:List Tape_api):Option ((List Tape_api)×Seal_api×Bool):=
 (X.cartridgeref10_Make_kp0 l31 (3:Int) l18).bind fun r33=>
 if ((r33.2 !=(0:Int))||((r33.1.length:Int)==(0:Int))) then
  some (([]:List Tape_api),(Seal_api.mk (0:Int) (0:Int) (0:Int) (0:Int) ([]:(List Int))),false)
 else
  (getI r33.1 (0:Int)).bind fun e39=>
  (X.cartridgeref10_Sealed e39).bind fun r40=>
  (need ((l18.length+r33.1.length)*48≤140737488355328)).bind fun u43=>
  some ((l18++r33.1),r40.1,true)
def cartridgelaw15_laid_or_s22 (parity2:Int) (s:((List Tape_api)×Int)):Option (((List Tape_api)×Int) ⊕ List Tape_api):=
 match s with
 |(blank26,i27)=>
  if (decide (i27<parity2)) then
   (need ((blank26.length+([(Tape_api.mk (wr ((100:Int)+i27)) (20:Int) ([]:(List (List UInt8))) false)]:List Tape_api).length)*48≤140737488355328)).bind fun u47=>
   some (.inl ((blank26++([(Tape_api.mk (wr ((100:Int)+i27)) (20:Int) ([]:(List (List UInt8))) false)]:List Tape_api)),(wr (i27+(1:Int)))))
  else
   some (.inr blank26)
def cartridgelaw15_laid_or_e10 (parity2:Int) (l18:List Tape_api):Option ((List Tape_api)×Seal_api×Bool):=
 (run (X.cartridgelaw15_laid_or_s22 parity2) (([]:List Tape_api),(0:Int))).bind fun o22=>match o22 with
 |l31=>X.cartridgelaw15_laid_or_e22 l18 l31
def cartridgelaw15_laid_or_e56 (data13:(List Tape_api)) (i15:Int) (c71:Int) (c72:Int) (l74:List (List UInt8)) (c75:Bool):Option (((List Tape_api)×Int) ⊕ List Tape_api):=
 (need ((data13.length+([(Tape_api.mk c71 c72 l74 c75)]:List Tape_api).length)*48≤140737488355328)).bind fun u76=>
 some (.inl ((data13++([(Tape_api.mk c71 c72 l74 c75)]:List Tape_api)),(wr (i15+(1:Int)))))
def cartridgelaw15_laid_or_s56 (sizes1:(List Int)) (i15:Int) (s:(Int×Int×(List (List UInt8))×Bool×Int)):Option ((Int×Int×(List (List UInt8))×Bool×Int) ⊕ (Int×Int×List (List UInt8)×Bool)):=
 match s with
 |(c61,c62,l64,c65,k66)=>
  (getI sizes1 i15).bind fun e79=>
  if (decide (k66<(wr ((1:Int)+(and64 e79 (7:Int)))))) then
   (X.cartridgeref1_PutFrame (Unit_api.mk (3:Int) (wr (i15+(1:Int))) k66 ([(u8 i15),(u8 k66),(7:UInt8)]:List UInt8))).bind fun r82=>
   (need ((l64.length+([r82.1]:List (List UInt8)).length)*24≤140737488355328)).bind fun u83=>
   some (.inl (c61,c62,(l64++([r82.1]:List (List UInt8))),c65,(wr (k66+(1:Int)))))
  else
   some (.inr (c61,c62,l64,c65))
def cartridgelaw15_laid_or_s10 (sizes1:(List Int)) (s:((List Tape_api)×Int)):Option (((List Tape_api)×Int) ⊕ List Tape_api):=
 match s with
 |(data13,i15)=>
  if (decide (i15<(sizes1.length:Int))) then
   (run (X.cartridgelaw15_laid_or_s56 sizes1 i15) ((wr (i15+(1:Int))),(20:Int),([]:List (List UInt8)),false,(0:Int))).bind fun o56=>match o56 with
   |(c71,c72,l74,c75)=>X.cartridgelaw15_laid_or_e56 data13 i15 c71 c72 l74 c75
  else
   some (.inr data13)
def cartridgelaw15_laid_or (sizes1:(List Int)) (parity2:Int):Option ((List Tape_api)×Seal_api×Bool):=
 (run (X.cartridgelaw15_laid_or_s10 sizes1) (([]:List Tape_api),(0:Int))).bind fun o10=>match o10 with
 |l18=>X.cartridgelaw15_laid_or_e10 parity2 l18
def mend_Tape_c1 (x1:Tape_api) (c2:Int):Option Bool:=
 some (x1.Label==c2)
def slices_IndexFunc_Lbyte_byte_e6:Option Int:=
 some ((-1):Int)
def slices_IndexFunc_Lbyte_byte_s6 (s1:(List UInt8)) (g2:UInt8→Option Bool) (s:Int):Option (Int ⊕ (Unit ⊕ Int)):=
 match s with
 |x7=>
  if (decide (x7<(s1.length:Int))) then
   (getI s1 x7).bind fun e14=>
   (g2 e14).bind fun r15=>
   if r15 then
    some (.inr (.inr x7))
   else
    some (.inl (wr (x7+(1:Int))))
  else
   some (.inr (.inl ()))
def slices_IndexFunc_Lbyte_byte (s1:(List UInt8)) (g2:UInt8→Option Bool):Option Int:=
 (run (X.slices_IndexFunc_Lbyte_byte_s6 s1 g2) (0:Int)).bind fun o6=>match o6 with
 | .inl _=>X.slices_IndexFunc_Lbyte_byte_e6
 | .inr rv6=>some rv6
def slices_ContainsFunc_Lbyte_byte (s1:(List UInt8)) (g2:UInt8→Option Bool):Option Bool:=
 (X.slices_IndexFunc_Lbyte_byte s1 g2).bind fun r5=>
 some (decide (r5≥(0:Int)))
def mend_empty_c1 (c1:UInt8):Option Bool:=
 some (c1 !=(0:UInt8))
def mend_empty (b1:(List UInt8)):Option Bool:=
 (X.slices_ContainsFunc_Lbyte_byte b1 (fun a1=>X.mend_empty_c1 a1)).bind fun r4=>
 some (!r4)
def mend_Tape_e49 (c61:Int) (c62:Int) (l64:List (List UInt8)) (c65:Bool):Option (Tape_api×Int):=
 some ((Tape_api.mk c61 c62 l64 c65),(0:Int))
def mend_Tape_s49 (s:(Int×Int×(List (List UInt8))×Bool)):Option ((Int×Int×(List (List UInt8))×Bool) ⊕ (Int×Int×List (List UInt8)×Bool)):=
 match s with
 |(c53,c54,l56,c57)=>
  ((optG ((decide ((l56.length:Int)>(0:Int)))) (getI l56 (wr ((l56.length:Int)-(1:Int)))))).bind fun e69=>
  ((optG ((decide ((l56.length:Int)>(0:Int)))) (X.mend_empty e69))).bind fun r70=>
  if ((decide ((l56.length:Int)>(0:Int)))&&r70) then
   (need ((0≤(0:Int)∧(0:Int)≤(wr ((l56.length:Int)-(1:Int)))∧(wr ((l56.length:Int)-(1:Int)))≤l56.length)∧((0:Int)=0∨(0:Int)<l56.length))).bind fun u71=>
   some (.inl (c53,c54,(slc l56 (0:Int) (wr ((l56.length:Int)-(1:Int)))),c57))
  else
   some (.inr (c53,c54,l56,c57))
def mend_Tape_e30 (c43:Int) (c44:Int) (l46:List (List UInt8)) (c47:Bool):Option (Tape_api×Int):=
 (run (X.mend_Tape_s49) (c43,c44,l46,c47)).bind fun o49=>match o49 with
 |(c61,c62,l64,c65)=>X.mend_Tape_e49 c61 c62 l64 c65
def mend_Tape_s30 (r14:(Int×Bool)) (l1:(List Tape_api)) (s2:Seal_api) (label3:Int) (s:(Int×Int×(List (List UInt8))×Bool×Int)):Option ((Int×Int×(List (List UInt8))×Bool×Int) ⊕ ((Int×Int×List (List UInt8)×Bool) ⊕ (Tape_api×Int))):=
 match s with
 |(c34,c35,l37,c38,x39)=>
  if (decide (x39<r14.1)) then
   (X.mend_Block l1 s2 label3 x39).bind fun r78=>
   if (r78.2 !=(0:Int)) then
    some (.inr (.inr ((Tape_api.mk (0:Int) (0:Int) ([]:List (List UInt8)) false),r78.2)))
   else
    (need ((l37.length+([r78.1]:List (List UInt8)).length)*24≤140737488355328)).bind fun u83=>
    some (.inl (c34,c35,(l37++([r78.1]:List (List UInt8))),c38,(wr (x39+(1:Int)))))
  else
   some (.inr (.inl (c34,c35,l37,c38)))
def mend_Tape_j22 (r14:(Int×Bool)) (l1:(List Tape_api)) (s2:Seal_api) (label3:Int) (c26:Int):Option (Tape_api×Int):=
 (run (X.mend_Tape_s30 r14 l1 s2 label3) (label3,c26,([]:List (List UInt8)),false,(0:Int))).bind fun o30=>match o30 with
 | .inl (c43,c44,l46,c47)=>X.mend_Tape_e30 c43 c44 l46 c47
 | .inr rv30=>some rv30
def mend_Tape (l1:(List Tape_api)) (s2:Seal_api) (label3:Int):Option (Tape_api×Int):=
 (X.mend_place s2 label3).bind fun r9=>
 if (!r9.2) then
  some ((Tape_api.mk (0:Int) (0:Int) ([]:List (List UInt8)) false),(1:Int))
 else
  (X.mend_rows l1 s2).bind fun r14=>
  if (!r14.2) then
   some ((Tape_api.mk (0:Int) (0:Int) ([]:List (List UInt8)) false),(10:Int))
  else
   (X.slices_IndexFunc_Lapi_Tape_api_Tape l1 (fun a1=>X.mend_Tape_c1 a1 label3)).bind fun r85=>
   if (decide (r85≥(0:Int))) then
    (getI l1 r85).bind fun e87=>
    X.mend_Tape_j22 r14 l1 s2 label3 e87.Cap
   else
    X.mend_Tape_j22 r14 l1 s2 label3 r14.1
def cartridgelaw15_MendMany_e20 (r12:((List Tape_api)×Seal_api×Bool)) (data1:Int) (lost3:Int) (parity2:Int) (l26:List Tape_api):Option Bool:=
 (X.mend_Block l26 r12.2.1 (1:Int) (0:Int)).bind fun r29=>
 (X.mend_Tape l26 r12.2.1 data1).bind fun r31=>
 if (decide (lost3≤parity2)) then
  (X.cartridgelaw15_num r29.2).bind fun r36=>
  ((optG ((r36==(0:Int))) (X.cartridgelaw15_num r31.2))).bind fun r37=>
  some ((r36==(0:Int))&&(r37==(0:Int)))
 else
  (X.cartridgelaw15_num r29.2).bind fun r39=>
  ((optG ((r39==(10:Int))) (X.cartridgelaw15_num r31.2))).bind fun r40=>
  some ((r39==(10:Int))&&(r40==(10:Int)))
def cartridgelaw15_MendMany_s20 (lost3:Int) (s:((List Tape_api)×Int)):Option (((List Tape_api)×Int) ⊕ List Tape_api):=
 match s with
 |(l22,i24)=>
  if (decide (i24<lost3)) then
   (getI l22 i24).bind fun e44=>
   some (.inl ((l22.set i24.toNat (Tape_api.mk e44.Label e44.Cap e44.Blocks true)),(wr (i24+(1:Int)))))
  else
   some (.inr l22)
def cartridgelaw15_MendMany (data1:Int) (parity2:Int) (lost3:Int):Option Bool:=
 (X.cartridgelaw15_alive).bind fun r6=>
 if (((((((!r6)||(decide (data1<(1:Int))))||(decide (data1>(6:Int))))||(decide (parity2<(1:Int))))||(decide (parity2>(4:Int))))||(decide (lost3<(0:Int))))||(decide (lost3>data1))) then
  some r6
 else
  (need (0≤data1∧data1*8≤281474976710656)).bind fun u11=>
  (X.cartridgelaw15_laid_or (List.replicate data1.toNat (0:Int)) parity2).bind fun r12=>
  if (!r12.2.2) then
   some false
  else
   (run (X.cartridgelaw15_MendMany_s20 lost3) (r12.1,(0:Int))).bind fun o20=>match o20 with
   |l26=>X.cartridgelaw15_MendMany_e20 r12 data1 lost3 parity2 l26
end X
end Go.AX
