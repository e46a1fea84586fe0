import Derived.Test.YtndjbcnpgggddaaXT
set_option linter.unusedVariables false
namespace Go.AX
open Go.AM
namespace X
def cartridgeref1_Writer_Byte (c4:UInt8) (B1:(List UInt8)):Option (List UInt8):=
 (need ((B1.length+([c4]:List UInt8).length)*1≤140737488355328)).bind fun u5=>
 some (B1++([c4]:List UInt8))
def cartridgeref1_Writer_Int (n4:Int) (B1:(List UInt8)):Option (List UInt8):=
 (need ((B1.length+([(u8 (((shru64 (u64 n4) 24)&&&(255:UInt64)).toNat:Int)),(u8 (((shru64 (u64 n4) 16)&&&(255:UInt64)).toNat:Int)),(u8 (((shru64 (u64 n4) 8)&&&(255:UInt64)).toNat:Int)),(u8 (((u64 n4)&&&(255:UInt64)).toNat:Int))]:List UInt8).length)*1≤140737488355328)).bind fun u6=>
 some (B1++([(u8 (((shru64 (u64 n4) 24)&&&(255:UInt64)).toNat:Int)),(u8 (((shru64 (u64 n4) 16)&&&(255:UInt64)).toNat:Int)),(u8 (((shru64 (u64 n4) 8)&&&(255:UInt64)).toNat:Int)),(u8 (((u64 n4)&&&(255:UInt64)).toNat:Int))]:List UInt8))
def cartridgeref1_More_e7 (c10:UInt32):Option UInt32:=
 some (c10^^^(4294967295:UInt32))
def cartridgeref1_More_e18 (i9:Int) (c21:UInt32):Option ((UInt32×Int) ⊕ UInt32):=
 some (.inl (c21,(wr (i9+(1:Int)))))
def cartridgeref1_More_j24 (k20:Int) (c25:UInt32):Option ((UInt32×Int) ⊕ UInt32):=
 some (.inl (c25,(wr (k20+(1:Int)))))
def cartridgeref1_More_s18 (s:(UInt32×Int)):Option ((UInt32×Int) ⊕ UInt32):=
 match s with
 |(c19,k20)=>
  if (decide (k20<(8:Int))) then
   if ((c19&&&(1:UInt32))==(1:UInt32)) then
    X.cartridgeref1_More_j24 k20 ((shr32 c19 1)^^^(2197175160:UInt32))
   else
    X.cartridgeref1_More_j24 k20 (shr32 c19 1)
  else
   some (.inr c19)
def cartridgeref1_More_s7 (b2:(List UInt8)) (s:(UInt32×Int)):Option ((UInt32×Int) ⊕ UInt32):=
 match s with
 |(c8,i9)=>
  if (decide (i9<(b2.length:Int))) then
   (getI b2 i9).bind fun e16=>
   (run (X.cartridgeref1_More_s18) ((c8^^^(u32 (e16.toNat:Int))),(0:Int))).bind fun o18=>match o18 with
   |c21=>X.cartridgeref1_More_e18 i9 c21
  else
   some (.inr c8)
def cartridgeref1_More (sum1:UInt32) (b2:(List UInt8)):Option UInt32:=
 (run (X.cartridgeref1_More_s7 b2) ((sum1^^^(4294967295:UInt32)),(0:Int))).bind fun o7=>match o7 with
 |c10=>X.cartridgeref1_More_e7 c10
def cartridgeref1_Crc (b1:(List UInt8)):Option UInt32:=
 (X.cartridgeref1_More (0:UInt32) b1).bind fun r4=>
 some r4
def cartridgeref1_PutFrame_j4 (u1:Unit_api) (most5:Int):Option ((List UInt8)×Int):=
 if ((((((decide (u1.Kind<(1:Int)))||(decide (u1.Kind>(6:Int))))||(decide (u1.Label<(1:Int))))||(decide (u1.Label>(2147483647:Int))))||(decide (u1.Number<(0:Int))))||(decide (u1.Number>(2147483647:Int)))) then
  some (([]:(List UInt8)),(1:Int))
 else
  if (decide ((u1.Load.length:Int)>most5)) then
   some (([]:(List UInt8)),(4:Int))
  else
   (X.cartridgeref1_Writer_Byte (u8 u1.Kind) ([]:List UInt8)).bind fun r15=>
   (X.cartridgeref1_Writer_Int u1.Label r15).bind fun r19=>
   (X.cartridgeref1_Writer_Int u1.Number r19).bind fun r23=>
   (need ((r23.length+([(u8 (shr64 (u1.Load.length:Int) ((8:UInt64).toNat:Int))),(u8 (and64 (u1.Load.length:Int) (255:Int)))]:List UInt8).length)*1≤140737488355328)).bind fun u27=>
   (need (((r23++([(u8 (shr64 (u1.Load.length:Int) ((8:UInt64).toNat:Int))),(u8 (and64 (u1.Load.length:Int) (255:Int)))]:List UInt8)).length+u1.Load.length)*1≤140737488355328)).bind fun u29=>
   (need (0≤(wr (most5-(u1.Load.length:Int)))∧(((r23++([(u8 (shr64 (u1.Load.length:Int) ((8:UInt64).toNat:Int))),(u8 (and64 (u1.Load.length:Int) (255:Int)))]:List UInt8))++u1.Load).length+(wr (most5-(u1.Load.length:Int))).toNat)*1≤140737488355328)).bind fun u31=>
   (X.cartridgeref1_Crc (((r23++([(u8 (shr64 (u1.Load.length:Int) ((8:UInt64).toNat:Int))),(u8 (and64 (u1.Load.length:Int) (255:Int)))]:List UInt8))++u1.Load)++(List.replicate (wr (most5-(u1.Load.length:Int))).toNat (0:UInt8)))).bind fun r33=>
   (X.cartridgeref1_Writer_Int (r33.toNat:Int) (((r23++([(u8 (shr64 (u1.Load.length:Int) ((8:UInt64).toNat:Int))),(u8 (and64 (u1.Load.length:Int) (255:Int)))]:List UInt8))++u1.Load)++(List.replicate (wr (most5-(u1.Load.length:Int))).toNat (0:UInt8)))).bind fun r34=>
   some (r34,(0:Int))
def cartridgeref1_PutFrame (u1:Unit_api):Option ((List UInt8)×Int):=
 if (u1.Kind==(6:Int)) then
  X.cartridgeref1_PutFrame_j4 u1 (79:Int)
 else
  X.cartridgeref1_PutFrame_j4 u1 (64:Int)
def slices_Grow_Lapi_Tape_api_Tape_nil_j5 (l9:List Tape_api):Option (List Tape_api):=
 some l9
def slices_Grow_Lapi_Tape_api_Tape_nil (n1:Int):Option (List Tape_api):=
 if (decide (n1<(0:Int))) then
  none
 else
  if (decide ((wr (n1-(0:Int)))>(0:Int))) then
   (need (0≤(wr (n1-(0:Int)))∧(wr (n1-(0:Int))).toNat*48≤140737488355328)).bind fun u13=>
   (need ((0≤(0:Int)∧(0:Int)≤(0:Int)∧(0:Int)≤(List.replicate (wr (n1-(0:Int))).toNat (Tape_api.mk (0:Int) (0:Int) ([]:(List (List UInt8))) false)).length)∧((0:Int)=0∨(0:Int)<(List.replicate (wr (n1-(0:Int))).toNat (Tape_api.mk (0:Int) (0:Int) ([]:(List (List UInt8))) false)).length))).bind fun u15=>
   X.slices_Grow_Lapi_Tape_api_Tape_nil_j5 (slc (List.replicate (wr (n1-(0:Int))).toNat (Tape_api.mk (0:Int) (0:Int) ([]:(List (List UInt8))) false)) (0:Int) (0:Int))
  else
   X.slices_Grow_Lapi_Tape_api_Tape_nil_j5 ([]:List Tape_api)
def slices_Concat_Lapi_Tape_api_Tape_e15 (l20:List Tape_api):Option (List Tape_api):=
 some l20
def slices_Concat_Lapi_Tape_api_Tape_s15 (slices1:(List (List Tape_api))) (s:((List Tape_api)×Int)):Option (((List Tape_api)×Int) ⊕ List Tape_api):=
 match s with
 |(newslice17,x18)=>
  if (decide (x18<(slices1.length:Int))) then
   (getI slices1 x18).bind fun e26=>
   (need ((newslice17.length+e26.length)*48≤140737488355328)).bind fun u27=>
   some (.inl ((newslice17++e26),(wr (x18+(1:Int)))))
  else
   some (.inr newslice17)
def slices_Concat_Lapi_Tape_api_Tape_e6 (slices1:(List (List Tape_api))) (size9:Int):Option (List Tape_api):=
 (X.slices_Grow_Lapi_Tape_api_Tape_nil size9).bind fun r11=>
 (run (X.slices_Concat_Lapi_Tape_api_Tape_s15 slices1) (r11,(0:Int))).bind fun o15=>match o15 with
 |l20=>X.slices_Concat_Lapi_Tape_api_Tape_e15 l20
def slices_Concat_Lapi_Tape_api_Tape_s6 (slices1:(List (List Tape_api))) (s:(Int×Int)):Option ((Int×Int) ⊕ Int):=
 match s with
 |(size7,x8)=>
  if (decide (x8<(slices1.length:Int))) then
   (getI slices1 x8).bind fun e32=>
   if (decide ((wr (size7+(e32.length:Int)))<(0:Int))) then
    none
   else
    some (.inl ((wr (size7+(e32.length:Int))),(wr (x8+(1:Int)))))
  else
   some (.inr size7)
def slices_Concat_Lapi_Tape_api_Tape (slices1:(List (List Tape_api))):Option (List Tape_api):=
 (run (X.slices_Concat_Lapi_Tape_api_Tape_s6 slices1) ((0:Int),(0:Int))).bind fun o6=>match o6 with
 |size9=>X.slices_Concat_Lapi_Tape_api_Tape_e6 slices1 size9
def group_labels_e7 (l12:List Int):Option (List Int):=
 some l12
def group_labels_s7 (l1:(List Tape_api)) (s:((List Int)×Int)):Option (((List Int)×Int) ⊕ List Int):=
 match s with
 |(out9,x10)=>
  if (decide (x10<(l1.length:Int))) then
   (getI l1 x10).bind fun e18=>
   (need ((out9.length+([e18.Label]:List Int).length)*8≤140737488355328)).bind fun u20=>
   some (.inl ((out9++([e18.Label]:List Int)),(wr (x10+(1:Int)))))
  else
   some (.inr out9)
def group_labels (l1:(List Tape_api)):Option (List Int):=
 (run (X.group_labels_s7 l1) (([]:List Int),(0:Int))).bind fun o7=>match o7 with
 |l12=>X.group_labels_e7 l12
def record_within (n1:Int) (low2:Int) (high3:Int):Option Bool:=
 some ((decide (n1≥low2))&&(decide (n1≤high3)))
def slices_Index_Lint_int_e6:Option Int:=
 some ((-1):Int)
def slices_Index_Lint_int_s6 (s1:(List Int)) (v2:Int) (s:Int):Option (Int ⊕ (Unit ⊕ Int)):=
 match s with
 |x7=>
  if (decide (x7<(s1.length:Int))) then
   (getI s1 x7).bind fun e14=>
   if (v2==e14) then
    some (.inr (.inr x7))
   else
    some (.inl (wr (x7+(1:Int))))
  else
   some (.inr (.inl ()))
def slices_Index_Lint_int (s1:(List Int)) (v2:Int):Option Int:=
 (run (X.slices_Index_Lint_int_s6 s1 v2) (0:Int)).bind fun o6=>match o6 with
 | .inl _=>X.slices_Index_Lint_int_e6
 | .inr rv6=>some rv6
def slices_Contains_Lint_int (s1:(List Int)) (v2:Int):Option Bool:=
 (X.slices_Index_Lint_int s1 v2).bind fun r5=>
 some (decide (r5≥(0:Int)))
def record_RightSeal_e16:Option Bool:=
 some true
def record_RightSeal_s16 (s1:Seal_api) (s:Int):Option (Int ⊕ (Unit ⊕ Bool)):=
 match s with
 |x17=>
  if (decide (x17<(s1.Labels.length:Int))) then
   (getI s1.Labels x17).bind fun e23=>
   (X.record_within e23 (1:Int) (2147483647:Int)).bind fun r25=>
   ((optG (!((!r25))) (need (0≤(0:Int)∧(0:Int)≤x17∧x17≤s1.Labels.length)))).bind fun u26=>
   ((optG (!((!r25))) (X.slices_Contains_Lint_int (slc s1.Labels (0:Int) x17) e23))).bind fun r27=>
   if ((!r25)||r27) then
    some (.inr (.inr false))
   else
    some (.inl (wr (x17+(1:Int))))
  else
   some (.inr (.inl ()))
def record_RightSeal (s1:Seal_api):Option Bool:=
 (X.record_within s1.Number (1:Int) (1073741824:Int)).bind fun r5=>
 ((optG (!((!r5))) (X.record_within s1.Data (1:Int) (14:Int)))).bind fun r6=>
 ((optG (!(((!r5)||(!r6)))) (X.record_within s1.Parity (1:Int) (wr ((14:Int)-s1.Data))))).bind fun r7=>
 if (((!r5)||(!r6))||(!r7)) then
  some false
 else
  (X.record_within s1.Index (0:Int) (wr ((wr (s1.Data+s1.Parity))-(1:Int)))).bind fun r12=>
  if ((!r12)||((s1.Labels.length:Int) !=(wr (s1.Data+s1.Parity)))) then
   some false
  else
   (run (X.record_RightSeal_s16 s1) (0:Int)).bind fun o16=>match o16 with
   | .inl _=>X.record_RightSeal_e16
   | .inr rv16=>some rv16
def slices_IndexFunc_Lapi_Tape_api_Tape_e6:Option Int:=
 some ((-1):Int)
def slices_IndexFunc_Lapi_Tape_api_Tape_s6 (s1:(List Tape_api)) (g2:Tape_api→Option Bool) (s:Int):Option (Int ⊕ (Unit ⊕ Int)):=
 match s with
 |x7=>
  if (decide (x7<(s1.length:Int))) then
   (getI s1 x7).bind fun e14=>
   (g2 e14).bind fun r15=>
   if r15 then
    some (.inr (.inr x7))
   else
    some (.inl (wr (x7+(1:Int))))
  else
   some (.inr (.inl ()))
def slices_IndexFunc_Lapi_Tape_api_Tape (s1:(List Tape_api)) (g2:Tape_api→Option Bool):Option Int:=
 (run (X.slices_IndexFunc_Lapi_Tape_api_Tape_s6 s1 g2) (0:Int)).bind fun o6=>match o6 with
 | .inl _=>X.slices_IndexFunc_Lapi_Tape_api_Tape_e6
 | .inr rv6=>some rv6
def slices_ContainsFunc_Lapi_Tape_api_Tape (s1:(List Tape_api)) (g2:Tape_api→Option Bool):Option Bool:=
 (X.slices_IndexFunc_Lapi_Tape_api_Tape s1 g2).bind fun r5=>
 some (decide (r5≥(0:Int)))
def group_check_c1 (t1:Tape_api):Option Bool:=
 some t1.Lost
def stripe_Len_e6 (n9:Int):Option Int:=
 some n9
def stripe_Len_s6 (l1:(List Tape_api)) (s:(Int×Int)):Option ((Int×Int) ⊕ Int):=
 match s with
 |(n7,x8)=>
  if (decide (x8<(l1.length:Int))) then
   (getI l1 x8).bind fun e15=>
   if (!e15.Lost) then
    some (.inl ((max n7 (e15.Blocks.length:Int)),(wr (x8+(1:Int)))))
   else
    some (.inl (n7,(wr (x8+(1:Int)))))
  else
   some (.inr n7)
def stripe_Len (l1:(List Tape_api)):Option Int:=
 (run (X.stripe_Len_s6 l1) ((0:Int),(0:Int))).bind fun o6=>match o6 with
 |n9=>X.stripe_Len_e6 n9
def group_each_e6:Option Bool:=
 some true
def group_each_s6 (l1:(List Tape_api)) (g2:Tape_api→Option Bool) (s:Int):Option (Int ⊕ (Unit ⊕ Bool)):=
 match s with
 |x7=>
  if (decide (x7<(l1.length:Int))) then
   (getI l1 x7).bind fun e13=>
   (g2 e13).bind fun r16=>
   if (!r16) then
    some (.inr (.inr false))
   else
    some (.inl (wr (x7+(1:Int))))
  else
   some (.inr (.inl ()))
def group_each (l1:(List Tape_api)) (g2:Tape_api→Option Bool):Option Bool:=
 (run (X.group_each_s6 l1 g2) (0:Int)).bind fun o6=>match o6 with
 | .inl _=>X.group_each_e6
 | .inr rv6=>some rv6
def slices_Clone_Lbyte_byte (s1:(List UInt8)):Option (List UInt8):=
 nilU s1 fun z5=>
 if z5 then
  some ([]:(List UInt8))
 else
  (need (s1.length*1≤140737488355328)).bind fun u9=>
  some s1
def code_NewReader (b1:(List UInt8)):Option ((List UInt8)×Bool):=
 (X.slices_Clone_Lbyte_byte b1).bind fun r4=>
 some ((Reader_code.mk r4 false).b_,(Reader_code.mk r4 false).bad_)
def code_Reader_take (n4:Int) (b1:(List UInt8)) (bad2:Bool):Option ((List UInt8)×((List UInt8)×Bool)):=
 if bad2 then
  some (([]:(List UInt8)),(b1,bad2))
 else
  if (decide (n4>(b1.length:Int))) then
   some (([]:(List UInt8)),(([]:(List UInt8)),true))
  else
   (need (0≤(0:Int)∧(0:Int)≤n4∧n4≤b1.length)).bind fun u14=>
   (need (0≤n4∧n4≤(b1.length:Int)∧(b1.length:Int)≤b1.length)).bind fun u16=>
   some ((slc b1 (0:Int) n4),((slc b1 n4 (b1.length:Int)),bad2))
def code_Reader_Byte (b1:(List UInt8)) (bad2:Bool):Option (UInt8×((List UInt8)×Bool)):=
 (X.code_Reader_take (1:Int) b1 bad2).bind fun r6=>
 if ((r6.1.length:Int)==(0:Int)) then
  some ((0:UInt8),(r6.2.1,r6.2.2))
 else
  (getI r6.1 (0:Int)).bind fun e12=>
  some (e12,(r6.2.1,r6.2.2))
def code_Reader_Int_e10 (r8:((List UInt8)×((List UInt8)×Bool))) (n15:UInt32):Option (Int×((List UInt8)×Bool)):=
 some ((n15.toNat:Int),(r8.2.1,r8.2.2))
def code_Reader_Int_s10 (r8:((List UInt8)×((List UInt8)×Bool))) (s:(UInt32×Int)):Option ((UInt32×Int) ⊕ UInt32):=
 match s with
 |(n12,x13)=>
  if (decide (x13<(r8.1.length:Int))) then
   (getI r8.1 x13).bind fun e21=>
   some (.inl (((shl32 n12 8)|||(u32 (e21.toNat:Int))),(wr (x13+(1:Int)))))
  else
   some (.inr n12)
def code_Reader_Int (b1:(List UInt8)) (bad2:Bool):Option (Int×((List UInt8)×Bool)):=
 (X.code_Reader_take (4:Int) b1 bad2).bind fun r8=>
 (run (X.code_Reader_Int_s10 r8) ((0:UInt32),(0:Int))).bind fun o10=>match o10 with
 |n15=>X.code_Reader_Int_e10 r8 n15
def code_Reader_Raw (n4:Int) (b1:(List UInt8)) (bad2:Bool):Option ((List UInt8)×((List UInt8)×Bool)):=
 (X.code_Reader_take (max (0:Int) n4) b1 bad2).bind fun r7=>
 (X.slices_Clone_Lbyte_byte r7.1).bind fun r9=>
 some (r9,(r7.2.1,r7.2.2))
def code_Reader_Bad (b1:(List UInt8)) (bad2:Bool):Option Bool:=
 some bad2
def frame_room (kind1:Int):Option Int:=
 if (kind1==(6:Int)) then
  some (79:Int)
 else
  some (64:Int)
def frame_check_j8 (u1:Unit_api):Option Int:=
 (X.frame_room u1.Kind).bind fun r12=>
 if (decide ((u1.Load.length:Int)>r12)) then
  some (4:Int)
 else
  some (0:Int)
def frame_check (u1:Unit_api):Option Int:=
 if ((((decide (u1.Label<(1:Int)))||(decide (u1.Label>(2147483647:Int))))||(decide (u1.Number<(0:Int))))||(decide (u1.Number>(2147483647:Int)))) then
  some (1:Int)
 else
  if (u1.Kind==(1:Int)) then
   X.frame_check_j8 u1
  else
   if (u1.Kind==(2:Int)) then
    X.frame_check_j8 u1
   else
    if (u1.Kind==(3:Int)) then
     X.frame_check_j8 u1
    else
     if (u1.Kind==(4:Int)) then
      X.frame_check_j8 u1
     else
      if (u1.Kind==(5:Int)) then
       X.frame_check_j8 u1
      else
       if (u1.Kind==(6:Int)) then
        X.frame_check_j8 u1
       else
        some (1:Int)
def code_Writer_Byte (c4:UInt8) (b1:(List UInt8)):Option (List UInt8):=
 (need ((b1.length+([c4]:List UInt8).length)*1≤140737488355328)).bind fun u5=>
 some (b1++([c4]:List UInt8))
def code_Writer_Int (n4:Int) (b1:(List UInt8)):Option (List UInt8):=
 (need ((b1.length+([(u8 ((shr32 (u32 n4) 24).toNat:Int)),(u8 ((shr32 (u32 n4) 16).toNat:Int)),(u8 ((shr32 (u32 n4) 8).toNat:Int)),(u8 ((u32 n4).toNat:Int))]:List UInt8).length)*1≤140737488355328)).bind fun u6=>
 some (b1++([(u8 ((shr32 (u32 n4) 24).toNat:Int)),(u8 ((shr32 (u32 n4) 16).toNat:Int)),(u8 ((shr32 (u32 n4) 8).toNat:Int)),(u8 ((u32 n4).toNat:Int))]:List UInt8))
def slices_Clone_Lbyte_byte_own_or (s1:(List UInt8)):Option (List UInt8):=
 nilU s1 fun z6=>
 if z6 then
  some ([]:List UInt8)
 else
  (need (s1.length*1≤140737488355328)).bind fun u10=>
  some s1
def code_Writer_Bytes_or (b1:(List UInt8)):Option (List UInt8):=
 (X.slices_Clone_Lbyte_byte_own_or b1).bind fun r6=>
 some r6
def castagnoli_More_e7 (x10:UInt32):Option UInt32:=
 some (x10^^^(4294967295:UInt32))
def castagnoli_More_e19 (x9:Int) (x22:UInt32):Option ((UInt32×Int) ⊕ UInt32):=
 some (.inl (x22,(wr (x9+(1:Int)))))
def castagnoli_More_s19 (s:(UInt32×Int)):Option ((UInt32×Int) ⊕ UInt32):=
 match s with
 |(x20,x21)=>
  if (decide (x21<(8:Int))) then
   if ((x20&&&(1:UInt32))==(1:UInt32)) then
    some (.inl (((shr32 x20 1)^^^(2197175160:UInt32)),(wr (x21+(1:Int)))))
   else
    some (.inl ((shr32 x20 1),(wr (x21+(1:Int)))))
  else
   some (.inr x20)
def castagnoli_More_s7 (b2:(List UInt8)) (s:(UInt32×Int)):Option ((UInt32×Int) ⊕ UInt32):=
 match s with
 |(x8,x9)=>
  if (decide (x9<(b2.length:Int))) then
   (getI b2 x9).bind fun e16=>
   (run (X.castagnoli_More_s19) ((x8^^^(u32 (e16.toNat:Int))),(0:Int))).bind fun o19=>match o19 with
   |x22=>X.castagnoli_More_e19 x9 x22
  else
   some (.inr x8)
def castagnoli_More (sum1:UInt32) (b2:(List UInt8)):Option UInt32:=
 (run (X.castagnoli_More_s7 b2) ((sum1^^^(4294967295:UInt32)),(0:Int))).bind fun o7=>match o7 with
 |x10=>X.castagnoli_More_e7 x10
def castagnoli_Sum (b1:(List UInt8)):Option UInt32:=
 (X.castagnoli_More (0:UInt32) b1).bind fun r4=>
 some r4
def slices_Clone_Lbyte_byte_own (s1:(List UInt8)):Option (List UInt8):=
 nilU s1 fun z6=>
 if z6 then
  some ([]:(List UInt8))
 else
  (need (s1.length*1≤140737488355328)).bind fun u9=>
  some s1
def code_Writer_Bytes (b1:(List UInt8)):Option (List UInt8):=
 (X.slices_Clone_Lbyte_byte_own b1).bind fun r6=>
 some r6
def frame_made (u1:Unit_api):Option (List UInt8):=
 (X.code_Writer_Byte (u8 u1.Kind) ([]:List UInt8)).bind fun r7=>
 (X.code_Writer_Int u1.Label r7).bind fun r11=>
 (X.code_Writer_Int u1.Number r11).bind fun r15=>
 (X.code_Writer_Byte (u8 (shr64 (u1.Load.length:Int) ((8:UInt64).toNat:Int))) r15).bind fun r19=>
 (X.code_Writer_Byte (u8 (u1.Load.length:Int)) r19).bind fun r23=>
 (X.frame_room u1.Kind).bind fun r27=>
 (need (0≤r27∧r27*1≤281474976710656)).bind fun u28=>
 (X.code_Writer_Bytes_or r23).bind fun r32=>
 (need ((r32.length+(cpy (List.replicate r27.toNat (0:UInt8)) u1.Load).length)*1≤140737488355328)).bind fun u34=>
 (X.castagnoli_Sum (r32++(cpy (List.replicate r27.toNat (0:UInt8)) u1.Load))).bind fun r39=>
 (X.code_Writer_Int (r39.toNat:Int) ([]:List UInt8)).bind fun r40=>
 (X.code_Writer_Bytes r40).bind fun r44=>
 (need (((r32++(cpy (List.replicate r27.toNat (0:UInt8)) u1.Load)).length+r44.length)*1≤140737488355328)).bind fun u45=>
 some ((r32++(cpy (List.replicate r27.toNat (0:UInt8)) u1.Load))++r44)
def slices_Equal_Lbyte_byte_e9:Option Bool:=
 some true
def slices_Equal_Lbyte_byte_s9 (s11:(List UInt8)) (s22:(List UInt8)) (s:Int):Option (Int ⊕ (Unit ⊕ Bool)):=
 match s with
 |x10=>
  if (decide (x10<(s11.length:Int))) then
   (getI s11 x10).bind fun e17=>
   (getI s22 x10).bind fun e18=>
   if (e17 !=e18) then
    some (.inr (.inr false))
   else
    some (.inl (wr (x10+(1:Int))))
  else
   some (.inr (.inl ()))
def slices_Equal_Lbyte_byte (s11:(List UInt8)) (s22:(List UInt8)):Option Bool:=
 if ((s11.length:Int) !=(s22.length:Int)) then
  some false
 else
  (run (X.slices_Equal_Lbyte_byte_s9 s11 s22) (0:Int)).bind fun o9=>match o9 with
  | .inl _=>X.slices_Equal_Lbyte_byte_e9
  | .inr rv9=>some rv9
def frame_Get (b1:(List UInt8)):Option (Unit_api×Int):=
 (X.code_NewReader b1).bind fun r5=>
 (X.code_Reader_Byte r5.1 r5.2).bind fun r8=>
 (X.code_Reader_Int r8.2.1 r8.2.2).bind fun r12=>
 (X.code_Reader_Int r12.2.1 r12.2.2).bind fun r15=>
 (X.code_Reader_Byte r15.2.1 r15.2.2).bind fun r18=>
 (X.code_Reader_Byte r18.2.1 r18.2.2).bind fun r20=>
 (X.code_Reader_Raw (or64 (shl64 (r18.1.toNat:Int) ((8:UInt64).toNat:Int)) (r20.1.toNat:Int)) r20.2.1 r20.2.2).bind fun r23=>
 (X.code_Reader_Bad r23.2.1 r23.2.2).bind fun r27=>
 ((optG (!r27) (X.frame_check (Unit_api.mk (Unit_api.mk (r8.1.toNat:Int) (0:Int) (0:Int) ([]:(List UInt8))).Kind r12.1 r15.1 r23.1)))).bind fun r28=>
 ((optG (!((r27||(r28 !=(0:Int))))) (X.frame_made (Unit_api.mk (Unit_api.mk (r8.1.toNat:Int) (0:Int) (0:Int) ([]:(List UInt8))).Kind r12.1 r15.1 r23.1)))).bind fun r29=>
 ((optG (!((r27||(r28 !=(0:Int))))) (X.slices_Equal_Lbyte_byte b1 r29))).bind fun r30=>
 if ((r27||(r28 !=(0:Int)))||(!r30)) then
  some ((Unit_api.mk (0:Int) (0:Int) (0:Int) ([]:(List UInt8))),(2:Int))
 else
  some ((Unit_api.mk (Unit_api.mk (r8.1.toNat:Int) (0:Int) (0:Int) ([]:(List UInt8))).Kind r12.1 r15.1 r23.1),(0:Int))
def volume_Good (t1:Tape_api) (n2:Int):Option (Unit_api×Bool):=
 if ((t1.Lost||(decide (n2<(0:Int))))||(decide (n2≥(t1.Blocks.length:Int)))) then
  some ((Unit_api.mk (0:Int) (0:Int) (0:Int) ([]:(List UInt8))),false)
 else
  (getI t1.Blocks n2).bind fun e9=>
  (X.frame_Get e9).bind fun r10=>
  if (((r10.2 !=(0:Int))||(r10.1.Label !=t1.Label))||(r10.1.Number !=n2)) then
   some ((Unit_api.mk (0:Int) (0:Int) (0:Int) ([]:(List UInt8))),false)
  else
   some (r10.1,true)
def group_allGood_e5:Option Bool:=
 some true
def group_allGood_s5 (t1:Tape_api) (s:Int):Option (Int ⊕ (Unit ⊕ Bool)):=
 match s with
 |x6=>
  if (decide (x6<(t1.Blocks.length:Int))) then
   (X.volume_Good t1 x6).bind fun r13=>
   if (!r13.2) then
    some (.inr (.inr false))
   else
    some (.inl (wr (x6+(1:Int))))
  else
   some (.inr (.inl ()))
def group_allGood (t1:Tape_api):Option Bool:=
 (run (X.group_allGood_s5 t1) (0:Int)).bind fun o5=>match o5 with
 | .inl _=>X.group_allGood_e5
 | .inr rv5=>some rv5
def group_check_c2 (t1:Tape_api):Option Bool:=
 some (decide ((t1.Blocks.length:Int)>(0:Int)))
def group_check_c3 (t1:Tape_api) (c2:(List Tape_api)):Option Bool:=
 (X.stripe_Len c2).bind fun r5=>
 some (decide ((wr (r5+(2:Int)))>t1.Cap))
def group_check (data1:(List Tape_api)) (blank2:(List Tape_api)) (s3:Seal_api):Option Int:=
 (X.record_RightSeal s3).bind fun r8=>
 ((optG (!((!r8))) (X.slices_ContainsFunc_Lapi_Tape_api_Tape data1 (fun a1=>X.group_check_c1 a1)))).bind fun r9=>
 ((optG (!(((!r8)||r9))) (X.slices_ContainsFunc_Lapi_Tape_api_Tape blank2 (fun a1=>X.group_check_c1 a1)))).bind fun r10=>
 ((optG (!((((!r8)||r9)||r10))) (X.stripe_Len data1))).bind fun r11=>
 ((optG (!(((((!r8)||r9)||r10)||(r11==(0:Int))))) (X.group_each data1 (fun a1=>X.group_allGood a1)))).bind fun r12=>
 if (((((!r8)||r9)||r10)||(r11==(0:Int)))||(!r12)) then
  some (1:Int)
 else
  (X.slices_ContainsFunc_Lapi_Tape_api_Tape blank2 (fun a1=>X.group_check_c2 a1)).bind fun r16=>
  if r16 then
   some (11:Int)
  else
   (X.slices_ContainsFunc_Lapi_Tape_api_Tape blank2 (fun a1=>X.group_check_c3 a1 data1)).bind fun r20=>
   if r20 then
    some (6:Int)
   else
    some (0:Int)
def stripe_cell (t1:Tape_api) (n2:Int):Option (List UInt8):=
 if ((t1.Lost||(decide (n2<(0:Int))))||(decide (n2≥(t1.Blocks.length:Int)))) then
  (need (0≤(79:Int)∧(79:Int)*1≤281474976710656)).bind fun u7=>
  some (List.replicate (79:Int).toNat (0:UInt8))
 else
  (getI t1.Blocks n2).bind fun e10=>
  if ((e10.length:Int) !=(79:Int)) then
   some ([]:(List UInt8))
  else
   (getI t1.Blocks n2).bind fun e13=>
   (X.slices_Clone_Lbyte_byte e13).bind fun r14=>
   some r14
def stripe_Row_e8 (l13:List (List UInt8)):Option (List (List UInt8)):=
 some l13
def stripe_Row_s8 (l1:(List Tape_api)) (n2:Int) (s:((List (List UInt8))×Int)):Option (((List (List UInt8))×Int) ⊕ List (List UInt8)):=
 match s with
 |(out10,x11)=>
  if (decide (x11<(l1.length:Int))) then
   (getI l1 x11).bind fun e19=>
   (X.stripe_cell e19 n2).bind fun r21=>
   (need ((out10.length+([r21]:List (List UInt8)).length)*24≤140737488355328)).bind fun u22=>
   some (.inl ((out10++([r21]:List (List UInt8))),(wr (x11+(1:Int)))))
  else
   some (.inr out10)
def stripe_Row (l1:(List Tape_api)) (n2:Int):Option (List (List UInt8)):=
 (run (X.stripe_Row_s8 l1 n2) (([]:List (List UInt8)),(0:Int))).bind fun o8=>match o8 with
 |l13=>X.stripe_Row_e8 l13
def slices_IndexFunc_LLbyte_Lbyte_e6:Option Int:=
 some ((-1):Int)
def slices_IndexFunc_LLbyte_Lbyte_s6 (s1:(List (List UInt8))) (g2:(List UInt8)→Option Bool) (s:Int):Option (Int ⊕ (Unit ⊕ Int)):=
 match s with
 |x7=>
  if (decide (x7<(s1.length:Int))) then
   (getI s1 x7).bind fun e14=>
   (g2 e14).bind fun r15=>
   if r15 then
    some (.inr (.inr x7))
   else
    some (.inl (wr (x7+(1:Int))))
  else
   some (.inr (.inl ()))
def slices_IndexFunc_LLbyte_Lbyte (s1:(List (List UInt8))) (g2:(List UInt8)→Option Bool):Option Int:=
 (run (X.slices_IndexFunc_LLbyte_Lbyte_s6 s1 g2) (0:Int)).bind fun o6=>match o6 with
 | .inl _=>X.slices_IndexFunc_LLbyte_Lbyte_e6
 | .inr rv6=>some rv6
def slices_ContainsFunc_LLbyte_Lbyte (s1:(List (List UInt8))) (g2:(List UInt8)→Option Bool):Option Bool:=
 (X.slices_IndexFunc_LLbyte_Lbyte s1 g2).bind fun r5=>
 some (decide (r5≥(0:Int)))
def erasure_alike_c1 (r1:(List UInt8)) (c2:(List (List UInt8))):Option Bool:=
 (getI c2 (0:Int)).bind fun e5=>
 some ((r1.length:Int) !=(e5.length:Int))
def erasure_alike (l1:(List (List UInt8))):Option Bool:=
 (X.slices_ContainsFunc_LLbyte_Lbyte l1 (fun a1=>X.erasure_alike_c1 a1 l1)).bind fun r4=>
 some (!r4)
def gf_Add (a1:UInt8) (b2:UInt8):Option UInt8:=
 some (a1^^^b2)
def gf_Mul_e6 (out10:UInt8):Option UInt8:=
 some out10
def gf_Mul_j14 (b8:UInt8) (a15:UInt8) (out16:UInt8):Option ((UInt8×UInt8×UInt8) ⊕ UInt8):=
 some (.inl (a15,(shr8 b8 1),out16))
def gf_Mul_j17 (a7:UInt8) (b8:UInt8) (out18:UInt8):Option ((UInt8×UInt8×UInt8) ⊕ UInt8):=
 if ((a7&&&(128:UInt8)) !=(0:UInt8)) then
  X.gf_Mul_j14 b8 ((shl8 a7 1)^^^(29:UInt8)) out18
 else
  X.gf_Mul_j14 b8 (shl8 a7 1) out18
def gf_Mul_s6 (s:(UInt8×UInt8×UInt8)):Option ((UInt8×UInt8×UInt8) ⊕ UInt8):=
 match s with
 |(a7,b8,out9)=>
  if (b8 !=(0:UInt8)) then
   if ((b8&&&(1:UInt8))==(1:UInt8)) then
    X.gf_Mul_j17 a7 b8 (out9^^^a7)
   else
    X.gf_Mul_j17 a7 b8 out9
  else
   some (.inr out9)
def gf_Mul (a1:UInt8) (b2:UInt8):Option UInt8:=
 (run (X.gf_Mul_s6) (a1,b2,(0:UInt8))).bind fun o6=>match o6 with
 |out10=>X.gf_Mul_e6 out10
def gf_power_e6 (out10:UInt8):Option UInt8:=
 some out10
def gf_power_j15 (a7:UInt8) (n8:Int) (out16:UInt8):Option ((UInt8×Int×UInt8) ⊕ UInt8):=
 (X.gf_Mul a7 a7).bind fun r17=>
 some (.inl (r17,(shr64 n8 ((1:UInt64).toNat:Int)),out16))
def gf_power_s6 (s:(UInt8×Int×UInt8)):Option ((UInt8×Int×UInt8) ⊕ UInt8):=
 match s with
 |(a7,n8,out9)=>
  if (decide (n8>(0:Int))) then
   if ((and64 n8 (1:Int))==(1:Int)) then
    (X.gf_Mul out9 a7).bind fun r19=>
    X.gf_power_j15 a7 n8 r19
   else
    X.gf_power_j15 a7 n8 out9
  else
   some (.inr out9)
def gf_power (a1:UInt8) (n2:Int):Option UInt8:=
 (run (X.gf_power_s6) (a1,n2,(1:UInt8))).bind fun o6=>match o6 with
 |out10=>X.gf_power_e6 out10
def gf_Inv (a1:UInt8):Option UInt8:=
 (X.gf_power a1 (254:Int)).bind fun r4=>
 some r4
def matrix_Cauchy_e11 (l16:List (List UInt8)):Option ((List (List UInt8))×Int):=
 some (l16,(0:Int))
def matrix_Cauchy_e26 (out13:(List (List UInt8))) (x14:Int) (l33:List UInt8):Option (((List (List UInt8))×Int) ⊕ List (List UInt8)):=
 (need ((out13.length+([l33]:List (List UInt8)).length)*24≤140737488355328)).bind fun u34=>
 some (.inl ((out13++([l33]:List (List UInt8))),(wr (x14+(1:Int)))))
def matrix_Cauchy_s26 (data1:Int) (x14:Int) (parity2:Int) (s:((List UInt8)×Int)):Option (((List UInt8)×Int) ⊕ List UInt8):=
 match s with
 |(r29,x30)=>
  if (decide (x30<data1)) then
   (X.gf_Add (u8 x14) (u8 (wr (parity2+x30)))).bind fun r39=>
   (X.gf_Inv r39).bind fun r40=>
   (need ((r29.length+([r40]:List UInt8).length)*1≤140737488355328)).bind fun u41=>
   some (.inl ((r29++([r40]:List UInt8)),(wr (x30+(1:Int)))))
  else
   some (.inr r29)
def matrix_Cauchy_s11 (parity2:Int) (data1:Int) (s:((List (List UInt8))×Int)):Option (((List (List UInt8))×Int) ⊕ List (List UInt8)):=
 match s with
 |(out13,x14)=>
  if (decide (x14<parity2)) then
   (run (X.matrix_Cauchy_s26 data1 x14 parity2) (([]:List UInt8),(0:Int))).bind fun o26=>match o26 with
   |l33=>X.matrix_Cauchy_e26 out13 x14 l33
  else
   some (.inr out13)
def matrix_Cauchy (data1:Int) (parity2:Int):Option ((List (List UInt8))×Int):=
 if ((((decide (data1<(1:Int)))||(decide (parity2<(1:Int))))||(decide (data1>(255:Int))))||(decide (parity2>(wr ((255:Int)-data1))))) then
  some (([]:(List (List UInt8))),(1:Int))
 else
  (run (X.matrix_Cauchy_s11 parity2 data1) (([]:List (List UInt8)),(0:Int))).bind fun o11=>match o11 with
  |l16=>X.matrix_Cauchy_e11 l16
def matrix_Right_c1 (r1:(List UInt8)) (c2:(List (List UInt8))):Option Bool:=
 (getI c2 (0:Int)).bind fun e5=>
 some ((r1.length:Int) !=(e5.length:Int))
def matrix_Right (m1:(List (List UInt8))):Option Bool:=
 ((optG (!(((decide ((m1.length:Int)<(1:Int)))||(decide ((m1.length:Int)>(255:Int)))))) (getI m1 (0:Int)))).bind fun e5=>
 ((optG (!((((decide ((m1.length:Int)<(1:Int)))||(decide ((m1.length:Int)>(255:Int))))||(decide ((e5.length:Int)<(1:Int)))))) (getI m1 (0:Int)))).bind fun e6=>
 if ((((decide ((m1.length:Int)<(1:Int)))||(decide ((m1.length:Int)>(255:Int))))||(decide ((e5.length:Int)<(1:Int))))||(decide ((e6.length:Int)>(255:Int)))) then
  some false
 else
  (X.slices_ContainsFunc_LLbyte_Lbyte m1 (fun a1=>X.matrix_Right_c1 a1 m1)).bind fun r9=>
  some (!r9)
def matrix_apply_e9 (l14:List UInt8):Option (List UInt8):=
 some l14
def matrix_apply_e22 (x12:Int) (l27:List UInt8):Option (((List UInt8)×Int) ⊕ List UInt8):=
 some (.inl (l27,(wr (x12+(1:Int)))))
def matrix_apply_s22 (e20:(List UInt8)) (x12:Int) (v2:(List UInt8)) (s:((List UInt8)×Int)):Option (((List UInt8)×Int) ⊕ List UInt8):=
 match s with
 |(out24,x25)=>
  if (decide (x25<(e20.length:Int))) then
   (getI e20 x25).bind fun e32=>
   (getI out24 x12).bind fun e33=>
   (getI v2 x25).bind fun e34=>
   (X.gf_Mul e32 e34).bind fun r35=>
   (X.gf_Add e33 r35).bind fun r36=>
   (getI out24 x12).bind fun e37=>
   some (.inl ((out24.set x12.toNat r36),(wr (x25+(1:Int)))))
  else
   some (.inr out24)
def matrix_apply_s9 (m1:(List (List UInt8))) (v2:(List UInt8)) (s:((List UInt8)×Int)):Option (((List UInt8)×Int) ⊕ List UInt8):=
 match s with
 |(out11,x12)=>
  if (decide (x12<(m1.length:Int))) then
   (getI m1 x12).bind fun e20=>
   (run (X.matrix_apply_s22 e20 x12 v2) (out11,(0:Int))).bind fun o22=>match o22 with
   |l27=>X.matrix_apply_e22 x12 l27
  else
   some (.inr out11)
def matrix_apply (m1:(List (List UInt8))) (v2:(List UInt8)):Option (List UInt8):=
 (need (0≤(m1.length:Int)∧(m1.length:Int)*1≤281474976710656)).bind fun u5=>
 (run (X.matrix_apply_s9 m1 v2) ((List.replicate (m1.length:Int).toNat (0:UInt8)),(0:Int))).bind fun o9=>match o9 with
 |l14=>X.matrix_apply_e9 l14
def matrix_Apply (m1:(List (List UInt8))) (v2:(List UInt8)):Option ((List UInt8)×Int):=
 (X.matrix_Right m1).bind fun r6=>
 ((optG (!((!r6))) (getI m1 (0:Int)))).bind fun e7=>
 if ((!r6)||((v2.length:Int) !=(e7.length:Int))) then
  some (([]:(List UInt8)),(1:Int))
 else
  (X.matrix_apply m1 v2).bind fun r10=>
  some (r10,(0:Int))
def erasure_reckon_e10 (l15:List (List UInt8)):Option (List (List UInt8)):=
 some l15
def erasure_reckon_e36 (x13:Int) (l41:List (List UInt8)):Option (((List (List UInt8))×Int) ⊕ List (List UInt8)):=
 some (.inl (l41,(wr (x13+(1:Int)))))
def erasure_reckon_s36 (r34:((List UInt8)×Int)) (s:((List (List UInt8))×Int)):Option (((List (List UInt8))×Int) ⊕ List (List UInt8)):=
 match s with
 |(out38,x39)=>
  if (decide (x39<(r34.1.length:Int))) then
   (getI r34.1 x39).bind fun e46=>
   (getI out38 x39).bind fun e47=>
   (need ((e47.length+([e46]:List UInt8).length)*1≤140737488355328)).bind fun u49=>
   (getI out38 x39).bind fun e50=>
   some (.inl ((out38.set x39.toNat (e47++([e46]:List UInt8))),(wr (x39+(1:Int)))))
  else
   some (.inr out38)
def erasure_reckon_e25 (m1:(List (List UInt8))) (out12:(List (List UInt8))) (x13:Int) (l32:List UInt8):Option (((List (List UInt8))×Int) ⊕ List (List UInt8)):=
 (X.matrix_Apply m1 l32).bind fun r34=>
 (run (X.erasure_reckon_s36 r34) (out12,(0:Int))).bind fun o36=>match o36 with
 |l41=>X.erasure_reckon_e36 x13 l41
def erasure_reckon_s25 (l2:(List (List UInt8))) (x13:Int) (s:((List UInt8)×Int)):Option (((List UInt8)×Int) ⊕ List UInt8):=
 match s with
 |(v28,x29)=>
  if (decide (x29<(l2.length:Int))) then
   (getI l2 x29).bind fun e55=>
   (getI e55 x13).bind fun e56=>
   (need ((v28.length+([e56]:List UInt8).length)*1≤140737488355328)).bind fun u57=>
   some (.inl ((v28++([e56]:List UInt8)),(wr (x29+(1:Int)))))
  else
   some (.inr v28)
def erasure_reckon_s10 (e9:(List UInt8)) (l2:(List (List UInt8))) (m1:(List (List UInt8))) (s:((List (List UInt8))×Int)):Option (((List (List UInt8))×Int) ⊕ List (List UInt8)):=
 match s with
 |(out12,x13)=>
  if (decide (x13<(e9.length:Int))) then
   (run (X.erasure_reckon_s25 l2 x13) (([]:List UInt8),(0:Int))).bind fun o25=>match o25 with
   |l32=>X.erasure_reckon_e25 m1 out12 x13 l32
  else
   some (.inr out12)
def erasure_reckon (m1:(List (List UInt8))) (l2:(List (List UInt8))):Option (List (List UInt8)):=
 (need (0≤(m1.length:Int)∧(m1.length:Int)*24≤281474976710656)).bind fun u5=>
 (getI l2 (0:Int)).bind fun e9=>
 (run (X.erasure_reckon_s10 e9 l2 m1) ((List.replicate (m1.length:Int).toNat ([]:(List UInt8))),(0:Int))).bind fun o10=>match o10 with
 |l15=>X.erasure_reckon_e10 l15
def erasure_Encode (data1:(List (List UInt8))) (parity2:Int):Option ((List (List UInt8))×Int):=
 ((optG (!(((((decide ((data1.length:Int)<(1:Int)))||(decide ((data1.length:Int)>(255:Int))))||(decide (parity2<(0:Int))))||(decide (parity2>(wr ((255:Int)-(data1.length:Int)))))))) (X.erasure_alike data1))).bind fun r6=>
 if (((((decide ((data1.length:Int)<(1:Int)))||(decide ((data1.length:Int)>(255:Int))))||(decide (parity2<(0:Int))))||(decide (parity2>(wr ((255:Int)-(data1.length:Int))))))||(!r6)) then
  some (([]:(List (List UInt8))),(1:Int))
 else
  if (parity2==(0:Int)) then
   some (([]:(List (List UInt8))),(0:Int))
  else
   (X.matrix_Cauchy (data1.length:Int) parity2).bind fun r12=>
   if (r12.2 !=(0:Int)) then
    some (([]:(List (List UInt8))),r12.2)
   else
    (X.erasure_reckon r12.1 data1).bind fun r17=>
    some (r17,(0:Int))
def stripe_Parity_c1 (b1:(List UInt8)):Option Bool:=
 some ((b1.length:Int)==(0:Int))
def stripe_Parity_e16 (l21:List (List (List UInt8))):Option ((List (List (List UInt8)))×Int):=
 some (l21,(0:Int))
def stripe_Parity_e39 (x19:Int) (l44:List (List (List UInt8))):Option (((List (List (List UInt8)))×Int) ⊕ (List (List (List UInt8)) ⊕ ((List (List (List UInt8)))×Int))):=
 some (.inl (l44,(wr (x19+(1:Int)))))
def stripe_Parity_s39 (r34:((List (List UInt8))×Int)) (s:((List (List (List UInt8)))×Int)):Option (((List (List (List UInt8)))×Int) ⊕ List (List (List UInt8))):=
 match s with
 |(out41,x42)=>
  if (decide (x42<(r34.1.length:Int))) then
   (getI r34.1 x42).bind fun e49=>
   (getI out41 x42).bind fun e50=>
   (need ((e50.length+([e49]:List (List UInt8)).length)*24≤140737488355328)).bind fun u52=>
   (getI out41 x42).bind fun e53=>
   some (.inl ((out41.set x42.toNat (e50++([e49]:List (List UInt8)))),(wr (x42+(1:Int)))))
  else
   some (.inr out41)
def stripe_Parity_s16 (r15:Int) (l1:(List Tape_api)) (parity2:Int) (s:((List (List (List UInt8)))×Int)):Option (((List (List (List UInt8)))×Int) ⊕ (List (List (List UInt8)) ⊕ ((List (List (List UInt8)))×Int))):=
 match s with
 |(out18,x19)=>
  if (decide (x19<r15)) then
   (X.stripe_Row l1 x19).bind fun r28=>
   (X.slices_ContainsFunc_LLbyte_Lbyte r28 (fun a1=>X.stripe_Parity_c1 a1)).bind fun r31=>
   if r31 then
    some (.inr (.inr (([]:(List (List (List UInt8)))),(1:Int))))
   else
    (X.erasure_Encode r28 parity2).bind fun r34=>
    if (r34.2 !=(0:Int)) then
     some (.inr (.inr (([]:(List (List (List UInt8)))),r34.2)))
    else
     (run (X.stripe_Parity_s39 r34) (out18,(0:Int))).bind fun o39=>match o39 with
     |l44=>X.stripe_Parity_e39 x19 l44
  else
   some (.inr (.inl out18))
def stripe_Parity (l1:(List Tape_api)) (parity2:Int):Option ((List (List (List UInt8)))×Int):=
 (X.stripe_Row l1 ((-1):Int)).bind fun r6=>
 (X.erasure_Encode r6 parity2).bind fun r7=>
 if (r7.2 !=(0:Int)) then
  some (([]:(List (List (List UInt8)))),r7.2)
 else
  (need (0≤parity2∧parity2*24≤281474976710656)).bind fun u11=>
  (X.stripe_Len l1).bind fun r15=>
  (run (X.stripe_Parity_s16 r15 l1 parity2) ((List.replicate parity2.toNat ([]:(List (List UInt8)))),(0:Int))).bind fun o16=>match o16 with
  | .inl l21=>X.stripe_Parity_e16 l21
  | .inr rv16=>some rv16
def record_SealBytes_e26 (l33:List UInt8):Option (List UInt8):=
 (X.code_Writer_Bytes l33).bind fun r35=>
 some r35
def record_SealBytes_s26 (s1:Seal_api) (s:((List UInt8)×Int)):Option (((List UInt8)×Int) ⊕ List UInt8):=
 match s with
 |(l29,x30)=>
  if (decide (x30<(s1.Labels.length:Int))) then
   (getI s1.Labels x30).bind fun e40=>
   (X.code_Writer_Int e40 l29).bind fun r41=>
   some (.inl (r41,(wr (x30+(1:Int)))))
  else
   some (.inr l29)
def record_SealBytes_e16 (s1:Seal_api) (l23:List UInt8):Option (List UInt8):=
 (run (X.record_SealBytes_s26 s1) (l23,(0:Int))).bind fun o26=>match o26 with
 |l33=>X.record_SealBytes_e26 l33
def record_SealBytes_s16 (s1:Seal_api) (s:((List UInt8)×Int)):Option (((List UInt8)×Int) ⊕ List UInt8):=
 match s with
 |(l19,x20)=>
  if (decide (x20<(([s1.Index,s1.Data,s1.Parity]:List Int).length:Int))) then
   (getI ([s1.Index,s1.Data,s1.Parity]:List Int) x20).bind fun e48=>
   (X.code_Writer_Byte (u8 e48) l19).bind fun r49=>
   some (.inl (r49,(wr (x20+(1:Int)))))
  else
   some (.inr l19)
def record_SealBytes (s1:Seal_api):Option (List UInt8):=
 (X.record_RightSeal s1).bind fun r5=>
 if (!r5) then
  some ([]:(List UInt8))
 else
  (X.code_Writer_Int s1.Number ([]:List UInt8)).bind fun r11=>
  (run (X.record_SealBytes_s16 s1) (r11,(0:Int))).bind fun o16=>match o16 with
  |l23=>X.record_SealBytes_e16 s1 l23
def frame_Put (u1:Unit_api):Option ((List UInt8)×Int):=
 (X.frame_check u1).bind fun r5=>
 if (r5 !=(0:Int)) then
  some (([]:(List UInt8)),r5)
 else
  (X.frame_made u1).bind fun r9=>
  some (r9,(0:Int))
def group_tape_e30 (c44:Int) (c45:Int) (l47:List (List UInt8)) (c48:Bool):Option (Tape_api×Int):=
 some ((Tape_api.mk c44 c45 l47 c48),(0:Int))
def group_tape_s30 (l21:List Unit_api) (r23:(List UInt8)) (t1:Tape_api) (s:(Int×Int×(List (List UInt8))×Bool×Int)):Option ((Int×Int×(List (List UInt8))×Bool×Int) ⊕ ((Int×Int×List (List UInt8)×Bool) ⊕ (Tape_api×Int))):=
 match s with
 |(c34,c35,l37,c38,x40)=>
  if (decide (x40<((l21++([(Unit_api.mk (5:Int) (0:Int) (0:Int) r23)]:List Unit_api)).length:Int))) then
   (getI (l21++([(Unit_api.mk (5:Int) (0:Int) (0:Int) r23)]:List Unit_api)) x40).bind fun e54=>
   (X.frame_Put (Unit_api.mk e54.Kind t1.Label x40 e54.Load)).bind fun r58=>
   if (r58.2 !=(0:Int)) then
    some (.inr (.inr ((Tape_api.mk (0:Int) (0:Int) ([]:List (List UInt8)) false),r58.2)))
   else
    (need ((l37.length+([r58.1]:List (List UInt8)).length)*24≤140737488355328)).bind fun u63=>
    some (.inl (c34,c35,(l37++([r58.1]:List (List UInt8))),c38,(wr (x40+(1:Int)))))
  else
   some (.inr (.inl (c34,c35,l37,c38)))
def group_tape_e12 (s2:Seal_api) (t1:Tape_api) (l21:List Unit_api):Option (Tape_api×Int):=
 (X.record_SealBytes s2).bind fun r23=>
 (need ((l21.length+([(Unit_api.mk (5:Int) (0:Int) (0:Int) r23)]:List Unit_api).length)*48≤140737488355328)).bind fun u24=>
 (run (X.group_tape_s30 l21 r23 t1) (t1.Label,t1.Cap,([]:List (List UInt8)),false,(0:Int))).bind fun o30=>match o30 with
 | .inl (c44,c45,l47,c48)=>X.group_tape_e30 c44 c45 l47 c48
 | .inr rv30=>some rv30
def group_tape_s12 (rows3:(List (List UInt8))) (s:((List Unit_api)×Int)):Option (((List Unit_api)×Int) ⊕ List Unit_api):=
 match s with
 |(l16,x17)=>
  if (decide (x17<(rows3.length:Int))) then
   (getI rows3 x17).bind fun e68=>
   (need ((l16.length+([(Unit_api.mk (6:Int) (0:Int) (0:Int) e68)]:List Unit_api).length)*48≤140737488355328)).bind fun u69=>
   some (.inl ((l16++([(Unit_api.mk (6:Int) (0:Int) (0:Int) e68)]:List Unit_api)),(wr (x17+(1:Int)))))
  else
   some (.inr l16)
def group_tape (t1:Tape_api) (s2:Seal_api) (rows3:(List (List UInt8))):Option (Tape_api×Int):=
 (run (X.group_tape_s12 rows3) (([(Unit_api.mk (1:Int) (0:Int) (0:Int) ([(80:UInt8)]:List UInt8))]:List Unit_api),(0:Int))).bind fun o12=>match o12 with
 |l21=>X.group_tape_e12 s2 t1 l21
def group_Make_e23 (l34:List Tape_api):Option ((List Tape_api)×Int):=
 some (l34,(0:Int))
def group_Make_s23 (blank2:(List Tape_api)) (r15:((List (List (List UInt8)))×Int)) (data1:(List Tape_api)) (s:(Int×Int×Int×Int×(List Int)×(List Tape_api)×Int)):Option ((Int×Int×Int×Int×(List Int)×(List Tape_api)×Int) ⊕ (List Tape_api ⊕ ((List Tape_api)×Int))):=
 match s with
 |(c25,c26,c27,c28,c29,out31,x32)=>
  if (decide (x32<(blank2.length:Int))) then
   (getI blank2 x32).bind fun e40=>
   (getI r15.1 x32).bind fun e44=>
   (X.group_tape e40 (Seal_api.mk c25 (wr ((data1.length:Int)+x32)) c27 c28 c29) e44).bind fun r45=>
   if (r45.2 !=(0:Int)) then
    some (.inr (.inr (([]:(List Tape_api)),r45.2)))
   else
    (need ((out31.length+([r45.1]:List Tape_api).length)*48≤140737488355328)).bind fun u50=>
    some (.inl (c25,(wr ((data1.length:Int)+x32)),c27,c28,c29,(out31++([r45.1]:List Tape_api)),(wr (x32+(1:Int)))))
  else
   some (.inr (.inl out31))
def group_Make (data1:(List Tape_api)) (blank2:(List Tape_api)) (number3:Int):Option ((List Tape_api)×Int):=
 (X.slices_Concat_Lapi_Tape_api_Tape ([data1,blank2]:List (List Tape_api))).bind fun r6=>
 (X.group_labels r6).bind fun r7=>
 (X.group_check data1 blank2 (Seal_api.mk number3 (0:Int) (data1.length:Int) (blank2.length:Int) r7)).bind fun r11=>
 if (r11 !=(0:Int)) then
  some (([]:(List Tape_api)),r11)
 else
  (X.stripe_Parity data1 (blank2.length:Int)).bind fun r15=>
  if (r15.2 !=(0:Int)) then
   some (([]:(List Tape_api)),r15.2)
  else
   (run (X.group_Make_s23 blank2 r15 data1) ((Seal_api.mk number3 (0:Int) (data1.length:Int) (blank2.length:Int) r7).Number,(Seal_api.mk number3 (0:Int) (data1.length:Int) (blank2.length:Int) r7).Index,(Seal_api.mk number3 (0:Int) (data1.length:Int) (blank2.length:Int) r7).Data,(Seal_api.mk number3 (0:Int) (data1.length:Int) (blank2.length:Int) r7).Parity,(Seal_api.mk number3 (0:Int) (data1.length:Int) (blank2.length:Int) r7).Labels,([]:List Tape_api),(0:Int))).bind fun o23=>match o23 with
   | .inl l34=>X.group_Make_e23 l34
   | .inr rv23=>some rv23
def code_Reader_Left (b1:(List UInt8)) (bad2:Bool):Option Int:=
 some (b1.length:Int)
def record_ReadSeal_e37 (c53:(List UInt8)) (c54:Bool) (c56:Int) (c57:Int) (c58:Int) (c59:Int) (l61:List Int):Option (Seal_api×Int):=
 (X.code_Reader_Bad c53 c54).bind fun r64=>
 ((optG (!r64) (X.record_RightSeal (Seal_api.mk c56 c57 c58 c59 l61)))).bind fun r65=>
 if (r64||(!r65)) then
  some ((Seal_api.mk (0:Int) (0:Int) (0:Int) (0:Int) ([]:List Int)),(2:Int))
 else
  some ((Seal_api.mk c56 c57 c58 c59 l61),(0:Int))
def record_ReadSeal_s37 (s:((List UInt8)×Bool×Int×Int×Int×Int×(List Int))):Option (((List UInt8)×Bool×Int×Int×Int×Int×(List Int)) ⊕ ((List UInt8)×Bool×Int×Int×Int×Int×List Int)):=
 match s with
 |(c41,c42,c44,c45,c46,c47,l49)=>
  (X.code_Reader_Left c41 c42).bind fun r71=>
  if (decide (r71>(0:Int))) then
   (X.code_Reader_Int c41 c42).bind fun r72=>
   (need ((l49.length+([r72.1]:List Int).length)*8≤140737488355328)).bind fun u74=>
   some (.inl (r72.2.1,r72.2.2,c44,c45,c46,c47,(l49++([r72.1]:List Int))))
  else
   some (.inr (c41,c42,c44,c45,c46,c47,l49))
def record_ReadSeal (b1:(List UInt8)):Option (Seal_api×Int):=
 (X.code_NewReader b1).bind fun r6=>
 (X.code_Reader_Int r6.1 r6.2).bind fun r9=>
 (X.code_Reader_Byte r9.2.1 r9.2.2).bind fun r20=>
 (X.code_Reader_Byte r20.2.1 r20.2.2).bind fun r26=>
 (X.code_Reader_Byte r26.2.1 r26.2.2).bind fun r32=>
 (run (X.record_ReadSeal_s37) (r32.2.1,r32.2.2,r9.1,(r20.1.toNat:Int),(r26.1.toNat:Int),(r32.1.toNat:Int),([]:List Int))).bind fun o37=>match o37 with
 |(c53,c54,c56,c57,c58,c59,l61)=>X.record_ReadSeal_e37 c53 c54 c56 c57 c58 c59 l61
def volume_Sealed (t1:Tape_api):Option (Seal_api×Bool):=
 (X.volume_Good t1 (wr ((t1.Blocks.length:Int)-(1:Int)))).bind fun r5=>
 if ((!r5.2)||(r5.1.Kind !=(5:Int))) then
  some ((Seal_api.mk (0:Int) (0:Int) (0:Int) (0:Int) ([]:(List Int))),false)
 else
  (X.record_ReadSeal r5.1.Load).bind fun r11=>
  some (r11.1,(r11.2==(0:Int)))
def slices_IndexFunc_Lapi_Seal_api_Seal_e6:Option Int:=
 some ((-1):Int)
def slices_IndexFunc_Lapi_Seal_api_Seal_s6 (s1:(List Seal_api)) (g2:Seal_api→Option Bool) (s:Int):Option (Int ⊕ (Unit ⊕ Int)):=
 match s with
 |x7=>
  if (decide (x7<(s1.length:Int))) then
   (getI s1 x7).bind fun e14=>
   (g2 e14).bind fun r15=>
   if r15 then
    some (.inr (.inr x7))
   else
    some (.inl (wr (x7+(1:Int))))
  else
   some (.inr (.inl ()))
def slices_IndexFunc_Lapi_Seal_api_Seal (s1:(List Seal_api)) (g2:Seal_api→Option Bool):Option Int:=
 (run (X.slices_IndexFunc_Lapi_Seal_api_Seal_s6 s1 g2) (0:Int)).bind fun o6=>match o6 with
 | .inl _=>X.slices_IndexFunc_Lapi_Seal_api_Seal_e6
 | .inr rv6=>some rv6
def slices_ContainsFunc_Lapi_Seal_api_Seal (s1:(List Seal_api)) (g2:Seal_api→Option Bool):Option Bool:=
 (X.slices_IndexFunc_Lapi_Seal_api_Seal s1 g2).bind fun r5=>
 some (decide (r5≥(0:Int)))
def group_Find_c1 (x1:Seal_api) (c2:Int) (c3:Int) (c4:Int) (c5:Int) (c6:(List Int)):Option Bool:=
 some (x1.Number==c2)
def math_bits_Len64_j9 (x10:UInt64) (n11:Int):Option Int:=
 (getI (Str.mk [0,1,2,2,3,3,3,3,4,4,4,4,4,4,4,4,5,5,5,5,5,5,5,5,5,5,5,5,5,5,5,5,6,6,6,6,6,6,6,6,6,6,6,6,6,6,6,6,6,6,6,6,6,6,6,6,6,6,6,6,6,6,6,6,7,7,7,7,7,7,7,7,7,7,7,7,7,7,7,7,7,7,7,7,7,7,7,7,7,7,7,7,7,7,7,7,7,7,7,7,7,7,7,7,7,7,7,7,7,7,7,7,7,7,7,7,7,7,7,7,7,7,7,7,7,7,7,7,8,8,8,8,8,8,8,8,8,8,8,8,8,8,8,8,8,8,8,8,8,8,8,8,8,8,8,8,8,8,8,8,8,8,8,8,8,8,8,8,8,8,8,8,8,8,8,8,8,8,8,8,8,8,8,8,8,8,8,8,8,8,8,8,8,8,8,8,8,8,8,8,8,8,8,8,8,8,8,8,8,8,8,8,8,8,8,8,8,8,8,8,8,8,8,8,8,8,8,8,8,8,8,8,8,8,8,8,8,8,8,8,8,8,8,8,8,8,8,8,8,8,8,8,8,8,8,8]).l ((u8 (x10.toNat:Int)).toNat:Int)).bind fun x13=>
 some (wr (n11+(x13.toNat:Int)))
def math_bits_Len64_j6 (x7:UInt64) (n8:Int):Option Int:=
 if (decide (x7≥(256:UInt64))) then
  X.math_bits_Len64_j9 (shru64 x7 8) (wr (n8+(8:Int)))
 else
  X.math_bits_Len64_j9 x7 n8
def math_bits_Len64_j3 (x4:UInt64) (n5:Int):Option Int:=
 if (decide (x4≥(65536:UInt64))) then
  X.math_bits_Len64_j6 (shru64 x4 16) (wr (n5+(16:Int)))
 else
  X.math_bits_Len64_j6 x4 n5
def math_bits_Len64 (x1:UInt64):Option Int:=
 if (decide (x1≥(4294967296:UInt64))) then
  X.math_bits_Len64_j3 (shru64 x1 32) (32:Int)
 else
  X.math_bits_Len64_j3 x1 (0:Int)
def math_bits_Len (x1:UInt64):Option Int:=
 (X.math_bits_Len64 x1).bind fun r5=>
 some r5
def slices_insertionSortCmpFunc_api_Seal_e7 (l12:List Seal_api):Option (List Seal_api):=
 some l12
def slices_insertionSortCmpFunc_api_Seal_e17 (i10:Int) (l22:List Seal_api):Option (((List Seal_api)×Int) ⊕ List Seal_api):=
 some (.inl (l22,(wr (i10+(1:Int)))))
def slices_insertionSortCmpFunc_api_Seal_s17 (a3:Int) (g5:Seal_api→Seal_api→Option Int) (s:((List Seal_api)×Int)):Option (((List Seal_api)×Int) ⊕ List Seal_api):=
 match s with
 |(data19,j20)=>
  ((optG ((decide (j20>a3))) (getI data19 j20))).bind fun e25=>
  ((optG ((decide (j20>a3))) (getI data19 (wr (j20-(1:Int)))))).bind fun e26=>
  ((optG ((decide (j20>a3))) (g5 e25 e26))).bind fun r27=>
  if ((decide (j20>a3))&&(decide (r27<(0:Int)))) then
   (getI data19 (wr (j20-(1:Int)))).bind fun e29=>
   (getI data19 j20).bind fun e30=>
   (getI data19 j20).bind fun e31=>
   (getI (data19.set j20.toNat e29) (wr (j20-(1:Int)))).bind fun e32=>
   some (.inl (((data19.set j20.toNat e29).set (wr (j20-(1:Int))).toNat e30),(wr (j20-(1:Int)))))
  else
   some (.inr data19)
def slices_insertionSortCmpFunc_api_Seal_s7 (b4:Int) (a3:Int) (g5:Seal_api→Seal_api→Option Int) (s:((List Seal_api)×Int)):Option (((List Seal_api)×Int) ⊕ List Seal_api):=
 match s with
 |(data9,i10)=>
  if (decide (i10<b4)) then
   (run (X.slices_insertionSortCmpFunc_api_Seal_s17 a3 g5) (data9,i10)).bind fun o17=>match o17 with
   |l22=>X.slices_insertionSortCmpFunc_api_Seal_e17 i10 l22
  else
   some (.inr data9)
def slices_insertionSortCmpFunc_api_Seal (a3:Int) (b4:Int) (g5:Seal_api→Seal_api→Option Int) (data1:(List Seal_api)):Option (List Seal_api):=
 (run (X.slices_insertionSortCmpFunc_api_Seal_s7 b4 a3 g5) (data1,(wr (a3+(1:Int))))).bind fun o7=>match o7 with
 |l12=>X.slices_insertionSortCmpFunc_api_Seal_e7 l12
def slices_pdqsortCmpFunc_api_Seal (a3:Int) (b4:Int) (limit5:Int) (g6:Seal_api→Seal_api→Option Int) (data1:(List Seal_api)):Option (List Seal_api):=
 if (decide ((wr (b4-a3))≤(12:Int))) then
  (X.slices_insertionSortCmpFunc_api_Seal a3 b4 g6 data1).bind fun r14=>
  some r14
 else
  if (limit5==(0:Int)) then
   none
  else
   if (!true) then
    none
   else
    none
def slices_SortFunc_Lapi_Seal_api_Seal (g3:Seal_api→Seal_api→Option Int) (x1:(List Seal_api)):Option (List Seal_api):=
 (X.math_bits_Len (u64 (x1.length:Int))).bind fun r5=>
 (X.slices_pdqsortCmpFunc_api_Seal (0:Int) (x1.length:Int) r5 g3 x1).bind fun r6=>
 some r6
def slices_SortFunc_Lapi_Seal_api_SealL (g3:Seal_api→Seal_api→Option Int) (x1:(List Seal_api)):Option (List Seal_api):=
 (X.slices_SortFunc_Lapi_Seal_api_Seal g3 x1).bind fun q=>if q.length=x1.length then some q else none
def cmp_isNaN_int (x1:Int):Option Bool:=
 some (x1 !=x1)
def cmp_Compare_int (x1:Int) (y2:Int):Option Int:=
 (X.cmp_isNaN_int x1).bind fun r5=>
 (X.cmp_isNaN_int y2).bind fun r7=>
 if r5 then
  if r7 then
   some (0:Int)
  else
   some ((-1):Int)
 else
  if r7 then
   some (1:Int)
  else
   if (decide (x1<y2)) then
    some ((-1):Int)
   else
    if (decide (x1>y2)) then
     some (1:Int)
    else
     some (0:Int)
def group_Find_c2 (a1:Seal_api) (b2:Seal_api):Option Int:=
 (X.cmp_Compare_int a1.Number b2.Number).bind fun r5=>
 some r5
def group_Find_e7 (l12:List Seal_api):Option (List Seal_api):=
 (X.slices_SortFunc_Lapi_Seal_api_SealL (fun a1 a2=>X.group_Find_c2 a1 a2) l12).bind fun r14=>
 some r14
def group_Find_s7 (l1:(List Tape_api)) (s:((List Seal_api)×Int)):Option (((List Seal_api)×Int) ⊕ List Seal_api):=
 match s with
 |(out9,x10)=>
  if (decide (x10<(l1.length:Int))) then
   (getI l1 x10).bind fun e20=>
   (X.volume_Sealed e20).bind fun r23=>
   ((optG (!((!r23.2))) (getI r23.1.Labels r23.1.Index))).bind fun e27=>
   ((optG (!(((!r23.2)||(e27 !=e20.Label)))) (X.slices_ContainsFunc_Lapi_Seal_api_Seal out9 (fun a1=>X.group_Find_c1 a1 r23.1.Number r23.1.Index r23.1.Data r23.1.Parity r23.1.Labels)))).bind fun r28=>
   if (((!r23.2)||(e27 !=e20.Label))||r28) then
    some (.inl (out9,(wr (x10+(1:Int)))))
   else
    (need ((out9.length+([r23.1]:List Seal_api).length)*56≤140737488355328)).bind fun u29=>
    some (.inl ((out9++([r23.1]:List Seal_api)),(wr (x10+(1:Int)))))
  else
   some (.inr out9)
def group_Find (l1:(List Tape_api)):Option (List Seal_api):=
 (run (X.group_Find_s7 l1) (([]:List Seal_api),(0:Int))).bind fun o7=>match o7 with
 |l12=>X.group_Find_e7 l12
def cartridgelaw14_num (e1:Int):Option Int:=
 some e1
def cartridgelaw14_alive:Option Bool:=
 (X.cartridgeref1_PutFrame (Unit_api.mk (1:Int) (1:Int) (0:Int) ([(68:UInt8)]:List UInt8))).bind fun r4=>
 (X.group_Make ([(Tape_api.mk (1:Int) (4:Int) ([r4.1]:List (List UInt8)) false)]:List Tape_api) ([(Tape_api.mk (2:Int) (4:Int) ([]:(List (List UInt8))) false)]:List Tape_api) (1:Int)).bind fun r6=>
 (X.group_Find ([]:List Tape_api)).bind fun r8=>
 ((optG (((r8.length:Int)==(0:Int))) (X.cartridgelaw14_num r6.2))).bind fun r9=>
 ((optG (((((r8.length:Int)==(0:Int))&&(r9==(0:Int)))&&((r6.1.length:Int)==(1:Int)))) (getI r6.1 (0:Int)))).bind fun e10=>
 ((optG ((((((r8.length:Int)==(0:Int))&&(r9==(0:Int)))&&((r6.1.length:Int)==(1:Int)))&&((e10.Blocks.length:Int)==(3:Int)))) (X.group_Find r6.1))).bind fun r11=>
 some ((((((r8.length:Int)==(0:Int))&&(r9==(0:Int)))&&((r6.1.length:Int)==(1:Int)))&&((e10.Blocks.length:Int)==(3:Int)))&&((r11.length:Int)==(1:Int)))
def frame_made_or (u1:Unit_api):Option (List UInt8):=
 (X.code_Writer_Byte (u8 u1.Kind) ([]:List UInt8)).bind fun r7=>
 (X.code_Writer_Int u1.Label r7).bind fun r11=>
 (X.code_Writer_Int u1.Number r11).bind fun r15=>
 (X.code_Writer_Byte (u8 (shr64 (u1.Load.length:Int) ((8:UInt64).toNat:Int))) r15).bind fun r19=>
 (X.code_Writer_Byte (u8 (u1.Load.length:Int)) r19).bind fun r23=>
 (X.frame_room u1.Kind).bind fun r27=>
 (need (0≤r27∧r27*1≤281474976710656)).bind fun u28=>
 (X.code_Writer_Bytes_or r23).bind fun r32=>
 (need ((r32.length+(cpy (List.replicate r27.toNat (0:UInt8)) u1.Load).length)*1≤140737488355328)).bind fun u34=>
 (X.castagnoli_Sum (r32++(cpy (List.replicate r27.toNat (0:UInt8)) u1.Load))).bind fun r39=>
 (X.code_Writer_Int (r39.toNat:Int) ([]:List UInt8)).bind fun r40=>
 (X.code_Writer_Bytes r40).bind fun r44=>
 (need (((r32++(cpy (List.replicate r27.toNat (0:UInt8)) u1.Load)).length+r44.length)*1≤140737488355328)).bind fun u45=>
 some ((r32++(cpy (List.replicate r27.toNat (0:UInt8)) u1.Load))++r44)
def frame_Put_or (u1:Unit_api):Option ((List UInt8)×Int):=
 (X.frame_check u1).bind fun r5=>
 if (r5 !=(0:Int)) then
  some (([]:List UInt8),r5)
 else
  (X.frame_made_or u1).bind fun r10=>
  some (r10,(0:Int))
def group_tape_os_e30 (c44:Int) (c45:Int) (l47:List (List UInt8)) (c48:Bool):Option (Tape_api×Int):=
 some ((Tape_api.mk c44 c45 l47 c48),(0:Int))
def group_tape_os_s30 (l21:List Unit_api) (r23:(List UInt8)) (t1:Tape_api) (s:(Int×Int×(List (List UInt8))×Bool×Int)):Option ((Int×Int×(List (List UInt8))×Bool×Int) ⊕ ((Int×Int×List (List UInt8)×Bool) ⊕ (Tape_api×Int))):=
 match s with
 |(c34,c35,l37,c38,x40)=>
  if (decide (x40<((l21++([(Unit_api.mk (5:Int) (0:Int) (0:Int) r23)]:List Unit_api)).length:Int))) then
   (getI (l21++([(Unit_api.mk (5:Int) (0:Int) (0:Int) r23)]:List Unit_api)) x40).bind fun e54=>
   (X.frame_Put_or (Unit_api.mk e54.Kind t1.Label x40 e54.Load)).bind fun r58=>
   if (r58.2 !=(0:Int)) then
    some (.inr (.inr ((Tape_api.mk (0:Int) (0:Int) ([]:List (List UInt8)) false),r58.2)))
   else
    (need ((l37.length+([r58.1]:List (List UInt8)).length)*24≤140737488355328)).bind fun u65=>
    some (.inl (c34,c35,(l37++([r58.1]:List (List UInt8))),c38,(wr (x40+(1:Int)))))
  else
   some (.inr (.inl (c34,c35,l37,c38)))
def group_tape_os_e12 (s2:Seal_api) (t1:Tape_api) (l21:List Unit_api):Option (Tape_api×Int):=
 (X.record_SealBytes s2).bind fun r23=>
 (need ((l21.length+([(Unit_api.mk (5:Int) (0:Int) (0:Int) r23)]:List Unit_api).length)*48≤140737488355328)).bind fun u24=>
 (run (X.group_tape_os_s30 l21 r23 t1) (t1.Label,t1.Cap,([]:List (List UInt8)),false,(0:Int))).bind fun o30=>match o30 with
 | .inl (c44,c45,l47,c48)=>X.group_tape_os_e30 c44 c45 l47 c48
 | .inr rv30=>some rv30
def group_tape_os_s12 (rows3:(List (List UInt8))) (s:((List Unit_api)×Int)):Option (((List Unit_api)×Int) ⊕ List Unit_api):=
 match s with
 |(l16,x17)=>
  if (decide (x17<(rows3.length:Int))) then
   (getI rows3 x17).bind fun e70=>
   (need ((l16.length+([(Unit_api.mk (6:Int) (0:Int) (0:Int) e70)]:List Unit_api).length)*48≤140737488355328)).bind fun u71=>
   some (.inl ((l16++([(Unit_api.mk (6:Int) (0:Int) (0:Int) e70)]:List Unit_api)),(wr (x17+(1:Int)))))
  else
   some (.inr l16)
def group_tape_os (t1:Tape_api) (s2:Seal_api) (rows3:(List (List UInt8))):Option (Tape_api×Int):=
 (run (X.group_tape_os_s12 rows3) (([(Unit_api.mk (1:Int) (0:Int) (0:Int) ([(80:UInt8)]:List UInt8))]:List Unit_api),(0:Int))).bind fun o12=>match o12 with
 |l21=>X.group_tape_os_e12 s2 t1 l21
def group_Make_or_e25 (l36:List Tape_api):Option ((List Tape_api)×Int):=
 some (l36,(0:Int))
def group_Make_or_s25 (blank2:(List Tape_api)) (r16:((List (List (List UInt8)))×Int)) (data1:(List Tape_api)) (s:(Int×Int×Int×Int×(List Int)×(List Tape_api)×Int)):Option ((Int×Int×Int×Int×(List Int)×(List Tape_api)×Int) ⊕ (List Tape_api ⊕ ((List Tape_api)×Int))):=
 match s with
 |(c27,c28,c29,c30,c31,out33,x34)=>
  if (decide (x34<(blank2.length:Int))) then
   (getI blank2 x34).bind fun e42=>
   (getI r16.1 x34).bind fun e46=>
   (X.group_tape_os e42 (Seal_api.mk c27 (wr ((data1.length:Int)+x34)) c29 c30 c31) e46).bind fun r47=>
   if (r47.2 !=(0:Int)) then
    some (.inr (.inr (([]:List Tape_api),r47.2)))
   else
    (need ((out33.length+([r47.1]:List Tape_api).length)*48≤140737488355328)).bind fun u54=>
    some (.inl (c27,(wr ((data1.length:Int)+x34)),c29,c30,c31,(out33++([r47.1]:List Tape_api)),(wr (x34+(1:Int)))))
  else
   some (.inr (.inl out33))
def group_Make_or (data1:(List Tape_api)) (blank2:(List Tape_api)) (number3:Int):Option ((List Tape_api)×Int):=
 (X.slices_Concat_Lapi_Tape_api_Tape ([data1,blank2]:List (List Tape_api))).bind fun r6=>
 (X.group_labels r6).bind fun r7=>
 (X.group_check data1 blank2 (Seal_api.mk number3 (0:Int) (data1.length:Int) (blank2.length:Int) r7)).bind fun r11=>
 if (r11 !=(0:Int)) then
  some (([]:List Tape_api),r11)
 else
  (X.stripe_Parity data1 (blank2.length:Int)).bind fun r16=>
  if (r16.2 !=(0:Int)) then
   some (([]:List Tape_api),r16.2)
  else
   (run (X.group_Make_or_s25 blank2 r16 data1) ((Seal_api.mk number3 (0:Int) (data1.length:Int) (blank2.length:Int) r7).Number,(Seal_api.mk number3 (0:Int) (data1.length:Int) (blank2.length:Int) r7).Index,(Seal_api.mk number3 (0:Int) (data1.length:Int) (blank2.length:Int) r7).Data,(Seal_api.mk number3 (0:Int) (data1.length:Int) (blank2.length:Int) r7).Parity,(Seal_api.mk number3 (0:Int) (data1.length:Int) (blank2.length:Int) r7).Labels,([]:List Tape_api),(0:Int))).bind fun o25=>match o25 with
   | .inl l36=>X.group_Make_or_e25 l36
   | .inr rv25=>some rv25
def cartridgelaw14_GroupKnows_e60 (l54:List Tape_api) (any66:Bool):Option Bool:=
 (X.group_Find l54).bind fun r68=>
 ((optG (((((r68.length:Int)==(1:Int))==any66))&&(!((!any66)))) (getI r68 (0:Int)))).bind fun e70=>
 some ((((r68.length:Int)==(1:Int))==any66)&&((!any66)||(e70.Number==(4:Int))))
def cartridgelaw14_GroupKnows_s60 (parity1:Int) (l56:List Bool) (s:(Bool×Int)):Option ((Bool×Int) ⊕ Bool):=
 match s with
 |(any63,i64)=>
  if (decide (i64<parity1)) then
   ((optG (!any63) (getI l56 i64))).bind fun e74=>
   some (.inl ((any63||(!e74)),(wr (i64+(1:Int)))))
  else
   some (.inr any63)
def cartridgelaw14_GroupKnows_e47 (parity1:Int) (l54:List Tape_api) (l56:List Bool):Option Bool:=
 (run (X.cartridgelaw14_GroupKnows_s60 parity1 l56) (false,(0:Int))).bind fun o60=>match o60 with
 |any66=>X.cartridgelaw14_GroupKnows_e60 l54 any66
def cartridgelaw14_GroupKnows_j77 (i52:Int) (l79:List Tape_api) (l81:List Bool):Option (((List Tape_api)×(List Bool)×Int) ⊕ ((List Tape_api×List Bool) ⊕ Bool)):=
 some (.inl (l79,l81,(wr (i52+(1:Int)))))
def cartridgelaw14_GroupKnows_s47 (rot3:(List Int)) (parity1:Int) (s:((List Tape_api)×(List Bool)×Int)):Option (((List Tape_api)×(List Bool)×Int) ⊕ ((List Tape_api×List Bool) ⊕ Bool)):=
 match s with
 |(l49,hurt51,i52)=>
  if (decide (i52<(rot3.length:Int))) then
   (getI rot3 i52).bind fun e83=>
   (need (parity1≠0)).bind fun u84=>
   (getI l49 ((and64 e83 (1023:Int)).tmod parity1)).bind fun e87=>
   (getI e87.Blocks (2:Int)).bind fun e89=>
   (getI l49 ((and64 e83 (1023:Int)).tmod parity1)).bind fun e91=>
   ((optG (!(((e87.Blocks.length:Int) !=(3:Int)))) (getI l49 ((and64 e83 (1023:Int)).tmod parity1)))).bind fun e92=>
   ((optG (!(((e87.Blocks.length:Int) !=(3:Int)))) (getI e87.Blocks (2:Int)))).bind fun e93=>
   if (((e87.Blocks.length:Int) !=(3:Int))||((e89.length:Int) !=(79:Int))) then
    some (.inr (.inr false))
   else
    (getI hurt51 ((and64 e83 (1023:Int)).tmod parity1)).bind fun e96=>
    if (!e96) then
     (getI (l49.set (((and64 e83 (1023:Int)).tmod parity1).toNat) (Tape_api.mk e87.Label e87.Cap (e87.Blocks.set ((2:Int).toNat) e89) e87.Lost)) ((and64 e83 (1023:Int)).tmod parity1)).bind fun e98=>
     (getI e98.Blocks (2:Int)).bind fun e100=>
     (getI (l49.set (((and64 e83 (1023:Int)).tmod parity1).toNat) (Tape_api.mk e87.Label e87.Cap (e87.Blocks.set ((2:Int).toNat) e89) e87.Lost)) ((and64 e83 (1023:Int)).tmod parity1)).bind fun e102=>
     (getI e98.Blocks (2:Int)).bind fun e103=>
     (getI (l49.set (((and64 e83 (1023:Int)).tmod parity1).toNat) (Tape_api.mk e87.Label e87.Cap (e87.Blocks.set ((2:Int).toNat) e89) e87.Lost)) ((and64 e83 (1023:Int)).tmod parity1)).bind fun e104=>
     (getI e98.Blocks (2:Int)).bind fun e105=>
     (getI e100 (20:Int)).bind fun e106=>
     (getI e100 (20:Int)).bind fun e107=>
     (getI hurt51 ((and64 e83 (1023:Int)).tmod parity1)).bind fun e108=>
     X.cartridgelaw14_GroupKnows_j77 i52 ((l49.set (((and64 e83 (1023:Int)).tmod parity1).toNat) (Tape_api.mk e87.Label e87.Cap (e87.Blocks.set ((2:Int).toNat) e89) e87.Lost)).set (((and64 e83 (1023:Int)).tmod parity1).toNat) (Tape_api.mk e98.Label e98.Cap (e98.Blocks.set ((2:Int).toNat) (e100.set (20:Int).toNat (e106^^^(16:UInt8)))) e98.Lost)) (hurt51.set ((and64 e83 (1023:Int)).tmod parity1).toNat true)
    else
     X.cartridgelaw14_GroupKnows_j77 i52 (l49.set (((and64 e83 (1023:Int)).tmod parity1).toNat) (Tape_api.mk e87.Label e87.Cap (e87.Blocks.set ((2:Int).toNat) e89) e87.Lost)) hurt51
  else
   some (.inr (.inl (l49,hurt51)))
def cartridgelaw14_GroupKnows_e35 (rot3:(List Int)) (parity1:Int) (l42:List Tape_api) (l44:List Bool):Option Bool:=
 (run (X.cartridgelaw14_GroupKnows_s47 rot3 parity1) (l42,l44,(0:Int))).bind fun o47=>match o47 with
 | .inl (l54,l56)=>X.cartridgelaw14_GroupKnows_e47 parity1 l54 l56
 | .inr rv47=>some rv47
def cartridgelaw14_GroupKnows_s35 (lost2:(List Int)) (parity1:Int) (s:((List Tape_api)×(List Bool)×Int)):Option (((List Tape_api)×(List Bool)×Int) ⊕ (List Tape_api×List Bool)):=
 match s with
 |(l37,hurt39,i40)=>
  if (decide (i40<(lost2.length:Int))) then
   (getI lost2 i40).bind fun e113=>
   (need (parity1≠0)).bind fun u114=>
   (getI l37 ((and64 e113 (1023:Int)).tmod parity1)).bind fun e116=>
   (getI hurt39 ((and64 e113 (1023:Int)).tmod parity1)).bind fun e117=>
   some (.inl ((l37.set ((and64 e113 (1023:Int)).tmod parity1).toNat (Tape_api.mk e116.Label e116.Cap e116.Blocks true)),(hurt39.set ((and64 e113 (1023:Int)).tmod parity1).toNat true),(wr (i40+(1:Int)))))
  else
   some (.inr (l37,hurt39))
def cartridgelaw14_GroupKnows_e17 (r12:((List UInt8)×Int)) (parity1:Int) (lost2:(List Int)) (rot3:(List Int)) (l22:List Tape_api):Option Bool:=
 (X.group_Make_or ([(Tape_api.mk (1:Int) (5:Int) ([r12.1]:List (List UInt8)) false)]:List Tape_api) l22 (4:Int)).bind fun r24=>
 (X.cartridgelaw14_num r24.2).bind fun r28=>
 if ((r28 !=(0:Int))||((r24.1.length:Int) !=parity1)) then
  some false
 else
  (need (0≤parity1∧parity1*1≤281474976710656)).bind fun u31=>
  (run (X.cartridgelaw14_GroupKnows_s35 lost2 parity1) (r24.1,(List.replicate parity1.toNat false),(0:Int))).bind fun o35=>match o35 with
  |(l42,l44)=>X.cartridgelaw14_GroupKnows_e35 rot3 parity1 l42 l44
def cartridgelaw14_GroupKnows_s17 (parity1:Int) (s:((List Tape_api)×Int)):Option (((List Tape_api)×Int) ⊕ List Tape_api):=
 match s with
 |(blank19,i20)=>
  if (decide (i20<parity1)) then
   (need ((blank19.length+([(Tape_api.mk (wr ((2:Int)+i20)) (5:Int) ([]:(List (List UInt8))) false)]:List Tape_api).length)*48≤140737488355328)).bind fun u121=>
   some (.inl ((blank19++([(Tape_api.mk (wr ((2:Int)+i20)) (5:Int) ([]:(List (List UInt8))) false)]:List Tape_api)),(wr (i20+(1:Int)))))
  else
   some (.inr blank19)
def cartridgelaw14_GroupKnows (parity1:Int) (lost2:(List Int)) (rot3:(List Int)):Option Bool:=
 (X.cartridgelaw14_alive).bind fun r6=>
 if (((((!r6)||(decide (parity1<(1:Int))))||(decide (parity1>(6:Int))))||(decide ((lost2.length:Int)>(10:Int))))||(decide ((rot3.length:Int)>(10:Int)))) then
  some r6
 else
  (X.cartridgeref1_PutFrame (Unit_api.mk (1:Int) (1:Int) (0:Int) ([(68:UInt8)]:List UInt8))).bind fun r12=>
  (run (X.cartridgelaw14_GroupKnows_s17 parity1) (([]:List Tape_api),(0:Int))).bind fun o17=>match o17 with
  |l22=>X.cartridgelaw14_GroupKnows_e17 r12 parity1 lost2 rot3 l22
end X
end Go.AX
