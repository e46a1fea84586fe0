import Derived.Test.YtfpldlnbhjmckaaGreatProg
import Derived.Test.YtfpldlnbhjmckaaGreatLibA
import Derived.KernelRfl
namespace Go.Proofs.YtfpldlnbhjmckaaGreat
open Go.AM
def ti3:TI:=⟨.int .i64,1,8,.int .i64 0⟩
def ti4:TI:=⟨.bool,1,1,.bool false⟩
def ti5:TI:=⟨.int .u8,1,1,.int .u8 0⟩
def ti9:TI:=⟨.str,1,16,.string ⟨#[]⟩⟩
def ti22:TI:=⟨.slc 49,1,24,.slice none 0 0⟩
def ti25:TI:=⟨.int .i64,1,8,.int .i64 0⟩
def ti33:TI:=⟨.slc 38,1,24,.slice none 0 0⟩
def ti36:TI:=⟨.slc 3,1,24,.slice none 0 0⟩
def ti38:TI:=⟨.struct [(3,0),(3,1),(3,2),(3,3),(36,4)],5,56,.agg #[.int .i64 0,.int .i64 0,.int .i64 0,.int .i64 0,.slice none 0 0]⟩
def ti42:TI:=⟨.slc 5,1,24,.slice none 0 0⟩
def ti46:TI:=⟨.struct [(3,0),(3,1),(3,2),(42,3)],4,48,.agg #[.int .i64 0,.int .i64 0,.int .i64 0,.slice none 0 0]⟩
def ti47:TI:=⟨.slc 42,1,24,.slice none 0 0⟩
def ti49:TI:=⟨.struct [(3,0),(3,1),(47,2),(4,3)],4,48,.agg #[.int .i64 0,.int .i64 0,.slice none 0 0,.bool false]⟩
def ti50:TI:=⟨.func,1,8,.nilFunc⟩
def ti54:TI:=⟨.slc 47,1,24,.slice none 0 0⟩
def ti62:TI:=⟨.func,1,8,.nilFunc⟩
def ti72:TI:=⟨.func,1,8,.nilFunc⟩
def ti75:TI:=⟨.ptr 77,1,8,.pointer none⟩
def ti77:TI:=⟨.struct [(42,0)],1,24,.agg #[.slice none 0 0]⟩
def ti80:TI:=⟨.int .u64,1,8,.int .u64 0⟩
def ti81:TI:=⟨.int .u32,1,4,.int .u32 0⟩
def ti83:TI:=⟨.slc 22,1,24,.slice none 0 0⟩
def ti90:TI:=⟨.func,1,8,.nilFunc⟩
def ti91:TI:=⟨.slc 46,1,24,.slice none 0 0⟩
def ti108:TI:=⟨.int .u64,1,8,.int .u64 0⟩
def ti117:TI:=⟨.ptr 119,1,8,.pointer none⟩
def ti119:TI:=⟨.struct [(42,0)],1,24,.agg #[.slice none 0 0]⟩
def ti123:TI:=⟨.ptr 151,1,8,.pointer none⟩
def ti132:TI:=⟨.ptr 154,1,8,.pointer none⟩
def ti134:TI:=⟨.ptr 3,1,8,.pointer none⟩
def ti135:TI:=⟨.slc 134,1,24,.slice none 0 0⟩
def ti137:TI:=⟨.int .i64,1,8,.int .i64 0⟩
def ti151:TI:=⟨.struct [(42,0),(4,1)],2,32,.agg #[.slice none 0 0,.bool false]⟩
def ti154:TI:=⟨.struct [(42,0),(4,1)],2,32,.agg #[.slice none 0 0,.bool false]⟩
def ti155:TI:=⟨.int .u64,1,8,.int .u64 0⟩
def tyF:Nat→Option TI
 |3=>some ti3
 |4=>some ti4
 |5=>some ti5
 |9=>some ti9
 |22=>some ti22
 |25=>some ti25
 |33=>some ti33
 |36=>some ti36
 |38=>some ti38
 |42=>some ti42
 |46=>some ti46
 |47=>some ti47
 |49=>some ti49
 |50=>some ti50
 |54=>some ti54
 |62=>some ti62
 |72=>some ti72
 |75=>some ti75
 |77=>some ti77
 |80=>some ti80
 |81=>some ti81
 |83=>some ti83
 |90=>some ti90
 |91=>some ti91
 |108=>some ti108
 |117=>some ti117
 |119=>some ti119
 |123=>some ti123
 |132=>some ti132
 |134=>some ti134
 |135=>some ti135
 |137=>some ti137
 |151=>some ti151
 |154=>some ti154
 |155=>some ti155
 |_=>none
theorem tok3:TyOK Tryz.prog 3 ti3:=⟨Tryz.underlying3,by kernel_rfl,rfl⟩
theorem tok4:TyOK Tryz.prog 4 ti4:=⟨Tryz.underlying4,by kernel_rfl,rfl⟩
theorem tok5:TyOK Tryz.prog 5 ti5:=⟨Tryz.underlying5,by kernel_rfl,rfl⟩
theorem tok9:TyOK Tryz.prog 9 ti9:=⟨Tryz.underlying9,by kernel_rfl,rfl⟩
theorem tok22:TyOK Tryz.prog 22 ti22:=⟨Tryz.underlying22,by kernel_rfl,rfl⟩
theorem tok25:TyOK Tryz.prog 25 ti25:=⟨Tryz.underlying25,by kernel_rfl,rfl⟩
theorem tok33:TyOK Tryz.prog 33 ti33:=⟨Tryz.underlying33,by kernel_rfl,rfl⟩
theorem tok36:TyOK Tryz.prog 36 ti36:=⟨Tryz.underlying36,by kernel_rfl,rfl⟩
theorem tok38:TyOK Tryz.prog 38 ti38:=⟨⟨_,Tryz.underlying38,rfl,by kernel_rfl,by kernel_rfl,rfl⟩,by kernel_rfl,rfl⟩
theorem tok42:TyOK Tryz.prog 42 ti42:=⟨Tryz.underlying42,by kernel_rfl,rfl⟩
theorem tok46:TyOK Tryz.prog 46 ti46:=⟨⟨_,Tryz.underlying46,rfl,by kernel_rfl,by kernel_rfl,rfl⟩,by kernel_rfl,rfl⟩
theorem tok47:TyOK Tryz.prog 47 ti47:=⟨Tryz.underlying47,by kernel_rfl,rfl⟩
theorem tok49:TyOK Tryz.prog 49 ti49:=⟨⟨_,Tryz.underlying49,rfl,by kernel_rfl,by kernel_rfl,rfl⟩,by kernel_rfl,rfl⟩
theorem tok50:TyOK Tryz.prog 50 ti50:=⟨⟨_,_,_,Tryz.underlying50⟩,by kernel_rfl,rfl⟩
theorem tok54:TyOK Tryz.prog 54 ti54:=⟨Tryz.underlying54,by kernel_rfl,rfl⟩
theorem tok62:TyOK Tryz.prog 62 ti62:=⟨⟨_,_,_,Tryz.underlying62⟩,by kernel_rfl,rfl⟩
theorem tok72:TyOK Tryz.prog 72 ti72:=⟨⟨_,_,_,Tryz.underlying72⟩,by kernel_rfl,rfl⟩
theorem tok75:TyOK Tryz.prog 75 ti75:=⟨Tryz.underlying75,by kernel_rfl,rfl⟩
theorem tok77:TyOK Tryz.prog 77 ti77:=⟨⟨_,Tryz.underlying77,rfl,by kernel_rfl,by kernel_rfl,rfl⟩,by kernel_rfl,rfl⟩
theorem tok80:TyOK Tryz.prog 80 ti80:=⟨Tryz.underlying80,by kernel_rfl,rfl⟩
theorem tok81:TyOK Tryz.prog 81 ti81:=⟨Tryz.underlying81,by kernel_rfl,rfl⟩
theorem tok83:TyOK Tryz.prog 83 ti83:=⟨Tryz.underlying83,by kernel_rfl,rfl⟩
theorem tok90:TyOK Tryz.prog 90 ti90:=⟨⟨_,_,_,Tryz.underlying90⟩,by kernel_rfl,rfl⟩
theorem tok91:TyOK Tryz.prog 91 ti91:=⟨Tryz.underlying91,by kernel_rfl,rfl⟩
theorem tok108:TyOK Tryz.prog 108 ti108:=⟨Tryz.underlying108,by kernel_rfl,rfl⟩
theorem tok117:TyOK Tryz.prog 117 ti117:=⟨Tryz.underlying117,by kernel_rfl,rfl⟩
theorem tok119:TyOK Tryz.prog 119 ti119:=⟨⟨_,Tryz.underlying119,rfl,by kernel_rfl,by kernel_rfl,rfl⟩,by kernel_rfl,rfl⟩
theorem tok123:TyOK Tryz.prog 123 ti123:=⟨Tryz.underlying123,by kernel_rfl,rfl⟩
theorem tok132:TyOK Tryz.prog 132 ti132:=⟨Tryz.underlying132,by kernel_rfl,rfl⟩
theorem tok134:TyOK Tryz.prog 134 ti134:=⟨Tryz.underlying134,by kernel_rfl,rfl⟩
theorem tok135:TyOK Tryz.prog 135 ti135:=⟨Tryz.underlying135,by kernel_rfl,rfl⟩
theorem tok137:TyOK Tryz.prog 137 ti137:=⟨Tryz.underlying137,by kernel_rfl,rfl⟩
theorem tok151:TyOK Tryz.prog 151 ti151:=⟨⟨_,Tryz.underlying151,rfl,by kernel_rfl,by kernel_rfl,rfl⟩,by kernel_rfl,rfl⟩
theorem tok154:TyOK Tryz.prog 154 ti154:=⟨⟨_,Tryz.underlying154,rfl,by kernel_rfl,by kernel_rfl,rfl⟩,by kernel_rfl,rfl⟩
theorem tok155:TyOK Tryz.prog 155 ti155:=⟨Tryz.underlying155,by kernel_rfl,rfl⟩
theorem tyF_ok (t:Nat) (i:TI) (h:tyF t=some i):TyOK Tryz.prog t i:=by
 unfold tyF at h
 split at h
 ·injection h with h;subst h;exact tok3
 ·injection h with h;subst h;exact tok4
 ·injection h with h;subst h;exact tok5
 ·injection h with h;subst h;exact tok9
 ·injection h with h;subst h;exact tok22
 ·injection h with h;subst h;exact tok25
 ·injection h with h;subst h;exact tok33
 ·injection h with h;subst h;exact tok36
 ·injection h with h;subst h;exact tok38
 ·injection h with h;subst h;exact tok42
 ·injection h with h;subst h;exact tok46
 ·injection h with h;subst h;exact tok47
 ·injection h with h;subst h;exact tok49
 ·injection h with h;subst h;exact tok50
 ·injection h with h;subst h;exact tok54
 ·injection h with h;subst h;exact tok62
 ·injection h with h;subst h;exact tok72
 ·injection h with h;subst h;exact tok75
 ·injection h with h;subst h;exact tok77
 ·injection h with h;subst h;exact tok80
 ·injection h with h;subst h;exact tok81
 ·injection h with h;subst h;exact tok83
 ·injection h with h;subst h;exact tok90
 ·injection h with h;subst h;exact tok91
 ·injection h with h;subst h;exact tok108
 ·injection h with h;subst h;exact tok117
 ·injection h with h;subst h;exact tok119
 ·injection h with h;subst h;exact tok123
 ·injection h with h;subst h;exact tok132
 ·injection h with h;subst h;exact tok134
 ·injection h with h;subst h;exact tok135
 ·injection h with h;subst h;exact tok137
 ·injection h with h;subst h;exact tok151
 ·injection h with h;subst h;exact tok154
 ·injection h with h;subst h;exact tok155
 ·cases h
noncomputable def cx:Cx:={ P:=Tryz.prog,ty:=tyF,ok:=tyF_ok }
theorem cx_P:cx.P=Tryz.prog:=rfl
@[simp] theorem ty3:cx.ty 3=some ti3:=rfl
@[simp] theorem kd3:cx.kd 3=some (.int .i64):=rfl
@[simp] theorem ti3_sz:ti3.sz=1:=rfl
@[simp] theorem ti3_agg:ti3.isAgg=false:=rfl
@[simp] theorem ti3_known:ti3.known=true:=rfl
@[simp] theorem ti3_kd:ti3.kd= .int .i64:=rfl
@[simp] theorem ti3_by:ti3.by'=8:=rfl
@[simp] theorem ti3_z:ti3.z=ofL [.int .i64 0]:=z_ofL _ _ rfl
@[simp] theorem ty4:cx.ty 4=some ti4:=rfl
@[simp] theorem kd4:cx.kd 4=some (.bool):=rfl
@[simp] theorem ti4_sz:ti4.sz=1:=rfl
@[simp] theorem ti4_agg:ti4.isAgg=false:=rfl
@[simp] theorem ti4_known:ti4.known=true:=rfl
@[simp] theorem ti4_kd:ti4.kd= .bool:=rfl
@[simp] theorem ti4_by:ti4.by'=1:=rfl
@[simp] theorem ti4_z:ti4.z=ofL [.bool false]:=z_ofL _ _ rfl
@[simp] theorem ty5:cx.ty 5=some ti5:=rfl
@[simp] theorem kd5:cx.kd 5=some (.int .u8):=rfl
@[simp] theorem ti5_sz:ti5.sz=1:=rfl
@[simp] theorem ti5_agg:ti5.isAgg=false:=rfl
@[simp] theorem ti5_known:ti5.known=true:=rfl
@[simp] theorem ti5_kd:ti5.kd= .int .u8:=rfl
@[simp] theorem ti5_by:ti5.by'=1:=rfl
@[simp] theorem ti5_z:ti5.z=ofL [.int .u8 0]:=z_ofL _ _ rfl
@[simp] theorem ty9:cx.ty 9=some ti9:=rfl
@[simp] theorem kd9:cx.kd 9=some (.str):=rfl
@[simp] theorem ti9_sz:ti9.sz=1:=rfl
@[simp] theorem ti9_agg:ti9.isAgg=false:=rfl
@[simp] theorem ti9_known:ti9.known=true:=rfl
@[simp] theorem ti9_kd:ti9.kd= .str:=rfl
@[simp] theorem ti9_by:ti9.by'=16:=rfl
@[simp] theorem ti9_z:ti9.z=ofL [.str ⟨#[]⟩]:=z_ofL _ _ rfl
@[simp] theorem ty22:cx.ty 22=some ti22:=rfl
@[simp] theorem kd22:cx.kd 22=some (.slc 49):=rfl
@[simp] theorem ti22_sz:ti22.sz=1:=rfl
@[simp] theorem ti22_agg:ti22.isAgg=false:=rfl
@[simp] theorem ti22_known:ti22.known=true:=rfl
@[simp] theorem ti22_kd:ti22.kd= .slc 49:=rfl
@[simp] theorem ti22_by:ti22.by'=24:=rfl
@[simp] theorem ti22_z:ti22.z=ofL [.nils]:=z_ofL _ _ rfl
@[simp] theorem ty25:cx.ty 25=some ti25:=rfl
@[simp] theorem kd25:cx.kd 25=some (.int .i64):=rfl
@[simp] theorem ti25_sz:ti25.sz=1:=rfl
@[simp] theorem ti25_agg:ti25.isAgg=false:=rfl
@[simp] theorem ti25_known:ti25.known=true:=rfl
@[simp] theorem ti25_kd:ti25.kd= .int .i64:=rfl
@[simp] theorem ti25_by:ti25.by'=8:=rfl
@[simp] theorem ti25_z:ti25.z=ofL [.int .i64 0]:=z_ofL _ _ rfl
@[simp] theorem ty33:cx.ty 33=some ti33:=rfl
@[simp] theorem kd33:cx.kd 33=some (.slc 38):=rfl
@[simp] theorem ti33_sz:ti33.sz=1:=rfl
@[simp] theorem ti33_agg:ti33.isAgg=false:=rfl
@[simp] theorem ti33_known:ti33.known=true:=rfl
@[simp] theorem ti33_kd:ti33.kd= .slc 38:=rfl
@[simp] theorem ti33_by:ti33.by'=24:=rfl
@[simp] theorem ti33_z:ti33.z=ofL [.nils]:=z_ofL _ _ rfl
@[simp] theorem ty36:cx.ty 36=some ti36:=rfl
@[simp] theorem kd36:cx.kd 36=some (.slc 3):=rfl
@[simp] theorem ti36_sz:ti36.sz=1:=rfl
@[simp] theorem ti36_agg:ti36.isAgg=false:=rfl
@[simp] theorem ti36_known:ti36.known=true:=rfl
@[simp] theorem ti36_kd:ti36.kd= .slc 3:=rfl
@[simp] theorem ti36_by:ti36.by'=24:=rfl
@[simp] theorem ti36_z:ti36.z=ofL [.nils]:=z_ofL _ _ rfl
@[simp] theorem ty38:cx.ty 38=some ti38:=rfl
@[simp] theorem kd38:cx.kd 38=some (.struct [(3,0),(3,1),(3,2),(3,3),(36,4)]):=rfl
@[simp] theorem ti38_sz:ti38.sz=5:=rfl
@[simp] theorem ti38_agg:ti38.isAgg=true:=rfl
@[simp] theorem ti38_known:ti38.known=true:=rfl
@[simp] theorem ti38_kd:ti38.kd= .struct [(3,0),(3,1),(3,2),(3,3),(36,4)]:=rfl
@[simp] theorem ti38_by:ti38.by'=56:=rfl
@[simp] theorem ti38_z:ti38.z=ofL [.int .i64 0,.int .i64 0,.int .i64 0,.int .i64 0,.nils]:=z_ofL _ _ rfl
@[simp] theorem fs38_0:fieldsA cx 38 0=some (ti3,0):=rfl
@[simp] theorem fs38_1:fieldsA cx 38 1=some (ti3,1):=rfl
@[simp] theorem fs38_2:fieldsA cx 38 2=some (ti3,2):=rfl
@[simp] theorem fs38_3:fieldsA cx 38 3=some (ti3,3):=rfl
@[simp] theorem fs38_4:fieldsA cx 38 4=some (ti36,4):=rfl
@[simp] theorem ty42:cx.ty 42=some ti42:=rfl
@[simp] theorem kd42:cx.kd 42=some (.slc 5):=rfl
@[simp] theorem ti42_sz:ti42.sz=1:=rfl
@[simp] theorem ti42_agg:ti42.isAgg=false:=rfl
@[simp] theorem ti42_known:ti42.known=true:=rfl
@[simp] theorem ti42_kd:ti42.kd= .slc 5:=rfl
@[simp] theorem ti42_by:ti42.by'=24:=rfl
@[simp] theorem ti42_z:ti42.z=ofL [.nils]:=z_ofL _ _ rfl
@[simp] theorem ty46:cx.ty 46=some ti46:=rfl
@[simp] theorem kd46:cx.kd 46=some (.struct [(3,0),(3,1),(3,2),(42,3)]):=rfl
@[simp] theorem ti46_sz:ti46.sz=4:=rfl
@[simp] theorem ti46_agg:ti46.isAgg=true:=rfl
@[simp] theorem ti46_known:ti46.known=true:=rfl
@[simp] theorem ti46_kd:ti46.kd= .struct [(3,0),(3,1),(3,2),(42,3)]:=rfl
@[simp] theorem ti46_by:ti46.by'=48:=rfl
@[simp] theorem ti46_z:ti46.z=ofL [.int .i64 0,.int .i64 0,.int .i64 0,.nils]:=z_ofL _ _ rfl
@[simp] theorem fs46_0:fieldsA cx 46 0=some (ti3,0):=rfl
@[simp] theorem fs46_1:fieldsA cx 46 1=some (ti3,1):=rfl
@[simp] theorem fs46_2:fieldsA cx 46 2=some (ti3,2):=rfl
@[simp] theorem fs46_3:fieldsA cx 46 3=some (ti42,3):=rfl
@[simp] theorem ty47:cx.ty 47=some ti47:=rfl
@[simp] theorem kd47:cx.kd 47=some (.slc 42):=rfl
@[simp] theorem ti47_sz:ti47.sz=1:=rfl
@[simp] theorem ti47_agg:ti47.isAgg=false:=rfl
@[simp] theorem ti47_known:ti47.known=true:=rfl
@[simp] theorem ti47_kd:ti47.kd= .slc 42:=rfl
@[simp] theorem ti47_by:ti47.by'=24:=rfl
@[simp] theorem ti47_z:ti47.z=ofL [.nils]:=z_ofL _ _ rfl
@[simp] theorem ty49:cx.ty 49=some ti49:=rfl
@[simp] theorem kd49:cx.kd 49=some (.struct [(3,0),(3,1),(47,2),(4,3)]):=rfl
@[simp] theorem ti49_sz:ti49.sz=4:=rfl
@[simp] theorem ti49_agg:ti49.isAgg=true:=rfl
@[simp] theorem ti49_known:ti49.known=true:=rfl
@[simp] theorem ti49_kd:ti49.kd= .struct [(3,0),(3,1),(47,2),(4,3)]:=rfl
@[simp] theorem ti49_by:ti49.by'=48:=rfl
@[simp] theorem ti49_z:ti49.z=ofL [.int .i64 0,.int .i64 0,.nils,.bool false]:=z_ofL _ _ rfl
@[simp] theorem fs49_0:fieldsA cx 49 0=some (ti3,0):=rfl
@[simp] theorem fs49_1:fieldsA cx 49 1=some (ti3,1):=rfl
@[simp] theorem fs49_2:fieldsA cx 49 2=some (ti47,2):=rfl
@[simp] theorem fs49_3:fieldsA cx 49 3=some (ti4,3):=rfl
@[simp] theorem ty50:cx.ty 50=some ti50:=rfl
@[simp] theorem kd50:cx.kd 50=some (.func):=rfl
@[simp] theorem ti50_sz:ti50.sz=1:=rfl
@[simp] theorem ti50_agg:ti50.isAgg=false:=rfl
@[simp] theorem ti50_known:ti50.known=true:=rfl
@[simp] theorem ti50_kd:ti50.kd= .func:=rfl
@[simp] theorem ti50_by:ti50.by'=8:=rfl
@[simp] theorem ti50_z:ti50.z=ofL [.nilf]:=z_ofL _ _ rfl
@[simp] theorem ty54:cx.ty 54=some ti54:=rfl
@[simp] theorem kd54:cx.kd 54=some (.slc 47):=rfl
@[simp] theorem ti54_sz:ti54.sz=1:=rfl
@[simp] theorem ti54_agg:ti54.isAgg=false:=rfl
@[simp] theorem ti54_known:ti54.known=true:=rfl
@[simp] theorem ti54_kd:ti54.kd= .slc 47:=rfl
@[simp] theorem ti54_by:ti54.by'=24:=rfl
@[simp] theorem ti54_z:ti54.z=ofL [.nils]:=z_ofL _ _ rfl
@[simp] theorem ty62:cx.ty 62=some ti62:=rfl
@[simp] theorem kd62:cx.kd 62=some (.func):=rfl
@[simp] theorem ti62_sz:ti62.sz=1:=rfl
@[simp] theorem ti62_agg:ti62.isAgg=false:=rfl
@[simp] theorem ti62_known:ti62.known=true:=rfl
@[simp] theorem ti62_kd:ti62.kd= .func:=rfl
@[simp] theorem ti62_by:ti62.by'=8:=rfl
@[simp] theorem ti62_z:ti62.z=ofL [.nilf]:=z_ofL _ _ rfl
@[simp] theorem ty72:cx.ty 72=some ti72:=rfl
@[simp] theorem kd72:cx.kd 72=some (.func):=rfl
@[simp] theorem ti72_sz:ti72.sz=1:=rfl
@[simp] theorem ti72_agg:ti72.isAgg=false:=rfl
@[simp] theorem ti72_known:ti72.known=true:=rfl
@[simp] theorem ti72_kd:ti72.kd= .func:=rfl
@[simp] theorem ti72_by:ti72.by'=8:=rfl
@[simp] theorem ti72_z:ti72.z=ofL [.nilf]:=z_ofL _ _ rfl
@[simp] theorem ty75:cx.ty 75=some ti75:=rfl
@[simp] theorem kd75:cx.kd 75=some (.ptr 77):=rfl
@[simp] theorem ti75_sz:ti75.sz=1:=rfl
@[simp] theorem ti75_agg:ti75.isAgg=false:=rfl
@[simp] theorem ti75_known:ti75.known=true:=rfl
@[simp] theorem ti75_kd:ti75.kd= .ptr 77:=rfl
@[simp] theorem ti75_by:ti75.by'=8:=rfl
@[simp] theorem ti75_z:ti75.z=ofL [.nilp]:=z_ofL _ _ rfl
@[simp] theorem ty77:cx.ty 77=some ti77:=rfl
@[simp] theorem kd77:cx.kd 77=some (.struct [(42,0)]):=rfl
@[simp] theorem ti77_sz:ti77.sz=1:=rfl
@[simp] theorem ti77_agg:ti77.isAgg=true:=rfl
@[simp] theorem ti77_known:ti77.known=true:=rfl
@[simp] theorem ti77_kd:ti77.kd= .struct [(42,0)]:=rfl
@[simp] theorem ti77_by:ti77.by'=24:=rfl
@[simp] theorem ti77_z:ti77.z=ofL [.nils]:=z_ofL _ _ rfl
@[simp] theorem fs77_0:fieldsA cx 77 0=some (ti42,0):=rfl
@[simp] theorem ty80:cx.ty 80=some ti80:=rfl
@[simp] theorem kd80:cx.kd 80=some (.int .u64):=rfl
@[simp] theorem ti80_sz:ti80.sz=1:=rfl
@[simp] theorem ti80_agg:ti80.isAgg=false:=rfl
@[simp] theorem ti80_known:ti80.known=true:=rfl
@[simp] theorem ti80_kd:ti80.kd= .int .u64:=rfl
@[simp] theorem ti80_by:ti80.by'=8:=rfl
@[simp] theorem ti80_z:ti80.z=ofL [.int .u64 0]:=z_ofL _ _ rfl
@[simp] theorem ty81:cx.ty 81=some ti81:=rfl
@[simp] theorem kd81:cx.kd 81=some (.int .u32):=rfl
@[simp] theorem ti81_sz:ti81.sz=1:=rfl
@[simp] theorem ti81_agg:ti81.isAgg=false:=rfl
@[simp] theorem ti81_known:ti81.known=true:=rfl
@[simp] theorem ti81_kd:ti81.kd= .int .u32:=rfl
@[simp] theorem ti81_by:ti81.by'=4:=rfl
@[simp] theorem ti81_z:ti81.z=ofL [.int .u32 0]:=z_ofL _ _ rfl
@[simp] theorem ty83:cx.ty 83=some ti83:=rfl
@[simp] theorem kd83:cx.kd 83=some (.slc 22):=rfl
@[simp] theorem ti83_sz:ti83.sz=1:=rfl
@[simp] theorem ti83_agg:ti83.isAgg=false:=rfl
@[simp] theorem ti83_known:ti83.known=true:=rfl
@[simp] theorem ti83_kd:ti83.kd= .slc 22:=rfl
@[simp] theorem ti83_by:ti83.by'=24:=rfl
@[simp] theorem ti83_z:ti83.z=ofL [.nils]:=z_ofL _ _ rfl
@[simp] theorem ty90:cx.ty 90=some ti90:=rfl
@[simp] theorem kd90:cx.kd 90=some (.func):=rfl
@[simp] theorem ti90_sz:ti90.sz=1:=rfl
@[simp] theorem ti90_agg:ti90.isAgg=false:=rfl
@[simp] theorem ti90_known:ti90.known=true:=rfl
@[simp] theorem ti90_kd:ti90.kd= .func:=rfl
@[simp] theorem ti90_by:ti90.by'=8:=rfl
@[simp] theorem ti90_z:ti90.z=ofL [.nilf]:=z_ofL _ _ rfl
@[simp] theorem ty91:cx.ty 91=some ti91:=rfl
@[simp] theorem kd91:cx.kd 91=some (.slc 46):=rfl
@[simp] theorem ti91_sz:ti91.sz=1:=rfl
@[simp] theorem ti91_agg:ti91.isAgg=false:=rfl
@[simp] theorem ti91_known:ti91.known=true:=rfl
@[simp] theorem ti91_kd:ti91.kd= .slc 46:=rfl
@[simp] theorem ti91_by:ti91.by'=24:=rfl
@[simp] theorem ti91_z:ti91.z=ofL [.nils]:=z_ofL _ _ rfl
@[simp] theorem ty108:cx.ty 108=some ti108:=rfl
@[simp] theorem kd108:cx.kd 108=some (.int .u64):=rfl
@[simp] theorem ti108_sz:ti108.sz=1:=rfl
@[simp] theorem ti108_agg:ti108.isAgg=false:=rfl
@[simp] theorem ti108_known:ti108.known=true:=rfl
@[simp] theorem ti108_kd:ti108.kd= .int .u64:=rfl
@[simp] theorem ti108_by:ti108.by'=8:=rfl
@[simp] theorem ti108_z:ti108.z=ofL [.int .u64 0]:=z_ofL _ _ rfl
@[simp] theorem ty117:cx.ty 117=some ti117:=rfl
@[simp] theorem kd117:cx.kd 117=some (.ptr 119):=rfl
@[simp] theorem ti117_sz:ti117.sz=1:=rfl
@[simp] theorem ti117_agg:ti117.isAgg=false:=rfl
@[simp] theorem ti117_known:ti117.known=true:=rfl
@[simp] theorem ti117_kd:ti117.kd= .ptr 119:=rfl
@[simp] theorem ti117_by:ti117.by'=8:=rfl
@[simp] theorem ti117_z:ti117.z=ofL [.nilp]:=z_ofL _ _ rfl
@[simp] theorem ty119:cx.ty 119=some ti119:=rfl
@[simp] theorem kd119:cx.kd 119=some (.struct [(42,0)]):=rfl
@[simp] theorem ti119_sz:ti119.sz=1:=rfl
@[simp] theorem ti119_agg:ti119.isAgg=true:=rfl
@[simp] theorem ti119_known:ti119.known=true:=rfl
@[simp] theorem ti119_kd:ti119.kd= .struct [(42,0)]:=rfl
@[simp] theorem ti119_by:ti119.by'=24:=rfl
@[simp] theorem ti119_z:ti119.z=ofL [.nils]:=z_ofL _ _ rfl
@[simp] theorem fs119_0:fieldsA cx 119 0=some (ti42,0):=rfl
@[simp] theorem ty123:cx.ty 123=some ti123:=rfl
@[simp] theorem kd123:cx.kd 123=some (.ptr 151):=rfl
@[simp] theorem ti123_sz:ti123.sz=1:=rfl
@[simp] theorem ti123_agg:ti123.isAgg=false:=rfl
@[simp] theorem ti123_known:ti123.known=true:=rfl
@[simp] theorem ti123_kd:ti123.kd= .ptr 151:=rfl
@[simp] theorem ti123_by:ti123.by'=8:=rfl
@[simp] theorem ti123_z:ti123.z=ofL [.nilp]:=z_ofL _ _ rfl
@[simp] theorem ty132:cx.ty 132=some ti132:=rfl
@[simp] theorem kd132:cx.kd 132=some (.ptr 154):=rfl
@[simp] theorem ti132_sz:ti132.sz=1:=rfl
@[simp] theorem ti132_agg:ti132.isAgg=false:=rfl
@[simp] theorem ti132_known:ti132.known=true:=rfl
@[simp] theorem ti132_kd:ti132.kd= .ptr 154:=rfl
@[simp] theorem ti132_by:ti132.by'=8:=rfl
@[simp] theorem ti132_z:ti132.z=ofL [.nilp]:=z_ofL _ _ rfl
@[simp] theorem ty134:cx.ty 134=some ti134:=rfl
@[simp] theorem kd134:cx.kd 134=some (.ptr 3):=rfl
@[simp] theorem ti134_sz:ti134.sz=1:=rfl
@[simp] theorem ti134_agg:ti134.isAgg=false:=rfl
@[simp] theorem ti134_known:ti134.known=true:=rfl
@[simp] theorem ti134_kd:ti134.kd= .ptr 3:=rfl
@[simp] theorem ti134_by:ti134.by'=8:=rfl
@[simp] theorem ti134_z:ti134.z=ofL [.nilp]:=z_ofL _ _ rfl
@[simp] theorem ty135:cx.ty 135=some ti135:=rfl
@[simp] theorem kd135:cx.kd 135=some (.slc 134):=rfl
@[simp] theorem ti135_sz:ti135.sz=1:=rfl
@[simp] theorem ti135_agg:ti135.isAgg=false:=rfl
@[simp] theorem ti135_known:ti135.known=true:=rfl
@[simp] theorem ti135_kd:ti135.kd= .slc 134:=rfl
@[simp] theorem ti135_by:ti135.by'=24:=rfl
@[simp] theorem ti135_z:ti135.z=ofL [.nils]:=z_ofL _ _ rfl
@[simp] theorem ty137:cx.ty 137=some ti137:=rfl
@[simp] theorem kd137:cx.kd 137=some (.int .i64):=rfl
@[simp] theorem ti137_sz:ti137.sz=1:=rfl
@[simp] theorem ti137_agg:ti137.isAgg=false:=rfl
@[simp] theorem ti137_known:ti137.known=true:=rfl
@[simp] theorem ti137_kd:ti137.kd= .int .i64:=rfl
@[simp] theorem ti137_by:ti137.by'=8:=rfl
@[simp] theorem ti137_z:ti137.z=ofL [.int .i64 0]:=z_ofL _ _ rfl
@[simp] theorem ty151:cx.ty 151=some ti151:=rfl
@[simp] theorem kd151:cx.kd 151=some (.struct [(42,0),(4,1)]):=rfl
@[simp] theorem ti151_sz:ti151.sz=2:=rfl
@[simp] theorem ti151_agg:ti151.isAgg=true:=rfl
@[simp] theorem ti151_known:ti151.known=true:=rfl
@[simp] theorem ti151_kd:ti151.kd= .struct [(42,0),(4,1)]:=rfl
@[simp] theorem ti151_by:ti151.by'=32:=rfl
@[simp] theorem ti151_z:ti151.z=ofL [.nils,.bool false]:=z_ofL _ _ rfl
@[simp] theorem fs151_0:fieldsA cx 151 0=some (ti42,0):=rfl
@[simp] theorem fs151_1:fieldsA cx 151 1=some (ti4,1):=rfl
@[simp] theorem ty154:cx.ty 154=some ti154:=rfl
@[simp] theorem kd154:cx.kd 154=some (.struct [(42,0),(4,1)]):=rfl
@[simp] theorem ti154_sz:ti154.sz=2:=rfl
@[simp] theorem ti154_agg:ti154.isAgg=true:=rfl
@[simp] theorem ti154_known:ti154.known=true:=rfl
@[simp] theorem ti154_kd:ti154.kd= .struct [(42,0),(4,1)]:=rfl
@[simp] theorem ti154_by:ti154.by'=32:=rfl
@[simp] theorem ti154_z:ti154.z=ofL [.nils,.bool false]:=z_ofL _ _ rfl
@[simp] theorem fs154_0:fieldsA cx 154 0=some (ti42,0):=rfl
@[simp] theorem fs154_1:fieldsA cx 154 1=some (ti4,1):=rfl
@[simp] theorem ty155:cx.ty 155=some ti155:=rfl
@[simp] theorem kd155:cx.kd 155=some (.int .u64):=rfl
@[simp] theorem ti155_sz:ti155.sz=1:=rfl
@[simp] theorem ti155_agg:ti155.isAgg=false:=rfl
@[simp] theorem ti155_known:ti155.known=true:=rfl
@[simp] theorem ti155_kd:ti155.kd= .int .u64:=rfl
@[simp] theorem ti155_by:ti155.by'=8:=rfl
@[simp] theorem ti155_z:ti155.z=ofL [.int .u64 0]:=z_ofL _ _ rfl
end Go.Proofs.YtfpldlnbhjmckaaGreat
