import Derived.Test.YtndjbcnpgggddaaProg
import Derived.Test.YtndjbcnpgggddaaLibA
import Derived.KernelRfl
namespace Go.Proofs.Ytndjbcnpgggddaa
open Go.AM
def ti3:TI:=⟨.int .i64,1,8,.int .i64 0⟩
def ti4:TI:=⟨.bool,1,1,.bool false⟩
def ti5:TI:=⟨.int .u8,1,1,.int .u8 0⟩
def ti9:TI:=⟨.str,1,16,.string ⟨#[]⟩⟩
def ti22:TI:=⟨.slc 25,1,24,.slice none 0 0⟩
def ti25:TI:=⟨.slc 5,1,24,.slice none 0 0⟩
def ti26:TI:=⟨.int .i64,1,8,.int .i64 0⟩
def ti47:TI:=⟨.slc 3,1,24,.slice none 0 0⟩
def ti48:TI:=⟨.slc 54,1,24,.slice none 0 0⟩
def ti50:TI:=⟨.struct [(3,0),(3,1),(3,2),(3,3),(47,4)],5,56,.agg #[.int .i64 0,.int .i64 0,.int .i64 0,.int .i64 0,.slice none 0 0]⟩
def ti54:TI:=⟨.struct [(3,0),(3,1),(22,2),(4,3)],4,48,.agg #[.int .i64 0,.int .i64 0,.slice none 0 0,.bool false]⟩
def ti56:TI:=⟨.slc 4,1,24,.slice none 0 0⟩
def ti68:TI:=⟨.struct [(3,0),(3,1),(3,2),(25,3)],4,48,.agg #[.int .i64 0,.int .i64 0,.int .i64 0,.slice none 0 0]⟩
def ti71:TI:=⟨.slc 50,1,24,.slice none 0 0⟩
def ti95:TI:=⟨.func,1,8,.nilFunc⟩
def ti96:TI:=⟨.func,1,8,.nilFunc⟩
def ti100:TI:=⟨.ptr 102,1,8,.pointer none⟩
def ti102:TI:=⟨.struct [(25,0)],1,24,.agg #[.slice none 0 0]⟩
def ti105:TI:=⟨.int .u64,1,8,.int .u64 0⟩
def ti106:TI:=⟨.int .u32,1,4,.int .u32 0⟩
def ti111:TI:=⟨.slc 22,1,24,.slice none 0 0⟩
def ti116:TI:=⟨.func,1,8,.nilFunc⟩
def ti119:TI:=⟨.func,1,8,.nilFunc⟩
def ti145:TI:=⟨.int .u64,1,8,.int .u64 0⟩
def ti147:TI:=⟨.slc 48,1,24,.slice none 0 0⟩
def ti151:TI:=⟨.slc 68,1,24,.slice none 0 0⟩
def ti165:TI:=⟨.int .i64,1,8,.int .i64 0⟩
def ti184:TI:=⟨.ptr 186,1,8,.pointer none⟩
def ti186:TI:=⟨.struct [(25,0)],1,24,.agg #[.slice none 0 0]⟩
def ti192:TI:=⟨.ptr 215,1,8,.pointer none⟩
def ti194:TI:=⟨.ptr 3,1,8,.pointer none⟩
def ti195:TI:=⟨.slc 194,1,24,.slice none 0 0⟩
def ti215:TI:=⟨.struct [(25,0),(4,1)],2,32,.agg #[.slice none 0 0,.bool false]⟩
def tyF:Nat→Option TI
 |3=>some ti3
 |4=>some ti4
 |5=>some ti5
 |9=>some ti9
 |22=>some ti22
 |25=>some ti25
 |26=>some ti26
 |47=>some ti47
 |48=>some ti48
 |50=>some ti50
 |54=>some ti54
 |56=>some ti56
 |68=>some ti68
 |71=>some ti71
 |95=>some ti95
 |96=>some ti96
 |100=>some ti100
 |102=>some ti102
 |105=>some ti105
 |106=>some ti106
 |111=>some ti111
 |116=>some ti116
 |119=>some ti119
 |145=>some ti145
 |147=>some ti147
 |151=>some ti151
 |165=>some ti165
 |184=>some ti184
 |186=>some ti186
 |192=>some ti192
 |194=>some ti194
 |195=>some ti195
 |215=>some ti215
 |_=>none
theorem tok3:TyOK Try.prog 3 ti3:=⟨Try.underlying3,by kernel_rfl,rfl⟩
theorem tok4:TyOK Try.prog 4 ti4:=⟨Try.underlying4,by kernel_rfl,rfl⟩
theorem tok5:TyOK Try.prog 5 ti5:=⟨Try.underlying5,by kernel_rfl,rfl⟩
theorem tok9:TyOK Try.prog 9 ti9:=⟨Try.underlying9,by kernel_rfl,rfl⟩
theorem tok22:TyOK Try.prog 22 ti22:=⟨Try.underlying22,by kernel_rfl,rfl⟩
theorem tok25:TyOK Try.prog 25 ti25:=⟨Try.underlying25,by kernel_rfl,rfl⟩
theorem tok26:TyOK Try.prog 26 ti26:=⟨Try.underlying26,by kernel_rfl,rfl⟩
theorem tok47:TyOK Try.prog 47 ti47:=⟨Try.underlying47,by kernel_rfl,rfl⟩
theorem tok48:TyOK Try.prog 48 ti48:=⟨Try.underlying48,by kernel_rfl,rfl⟩
theorem tok50:TyOK Try.prog 50 ti50:=⟨⟨_,Try.underlying50,rfl,by kernel_rfl,by kernel_rfl,rfl⟩,by kernel_rfl,rfl⟩
theorem tok54:TyOK Try.prog 54 ti54:=⟨⟨_,Try.underlying54,rfl,by kernel_rfl,by kernel_rfl,rfl⟩,by kernel_rfl,rfl⟩
theorem tok56:TyOK Try.prog 56 ti56:=⟨Try.underlying56,by kernel_rfl,rfl⟩
theorem tok68:TyOK Try.prog 68 ti68:=⟨⟨_,Try.underlying68,rfl,by kernel_rfl,by kernel_rfl,rfl⟩,by kernel_rfl,rfl⟩
theorem tok71:TyOK Try.prog 71 ti71:=⟨Try.underlying71,by kernel_rfl,rfl⟩
theorem tok95:TyOK Try.prog 95 ti95:=⟨⟨_,_,_,Try.underlying95⟩,by kernel_rfl,rfl⟩
theorem tok96:TyOK Try.prog 96 ti96:=⟨⟨_,_,_,Try.underlying96⟩,by kernel_rfl,rfl⟩
theorem tok100:TyOK Try.prog 100 ti100:=⟨Try.underlying100,by kernel_rfl,rfl⟩
theorem tok102:TyOK Try.prog 102 ti102:=⟨⟨_,Try.underlying102,rfl,by kernel_rfl,by kernel_rfl,rfl⟩,by kernel_rfl,rfl⟩
theorem tok105:TyOK Try.prog 105 ti105:=⟨Try.underlying105,by kernel_rfl,rfl⟩
theorem tok106:TyOK Try.prog 106 ti106:=⟨Try.underlying106,by kernel_rfl,rfl⟩
theorem tok111:TyOK Try.prog 111 ti111:=⟨Try.underlying111,by kernel_rfl,rfl⟩
theorem tok116:TyOK Try.prog 116 ti116:=⟨⟨_,_,_,Try.underlying116⟩,by kernel_rfl,rfl⟩
theorem tok119:TyOK Try.prog 119 ti119:=⟨⟨_,_,_,Try.underlying119⟩,by kernel_rfl,rfl⟩
theorem tok145:TyOK Try.prog 145 ti145:=⟨Try.underlying145,by kernel_rfl,rfl⟩
theorem tok147:TyOK Try.prog 147 ti147:=⟨Try.underlying147,by kernel_rfl,rfl⟩
theorem tok151:TyOK Try.prog 151 ti151:=⟨Try.underlying151,by kernel_rfl,rfl⟩
theorem tok165:TyOK Try.prog 165 ti165:=⟨Try.underlying165,by kernel_rfl,rfl⟩
theorem tok184:TyOK Try.prog 184 ti184:=⟨Try.underlying184,by kernel_rfl,rfl⟩
theorem tok186:TyOK Try.prog 186 ti186:=⟨⟨_,Try.underlying186,rfl,by kernel_rfl,by kernel_rfl,rfl⟩,by kernel_rfl,rfl⟩
theorem tok192:TyOK Try.prog 192 ti192:=⟨Try.underlying192,by kernel_rfl,rfl⟩
theorem tok194:TyOK Try.prog 194 ti194:=⟨Try.underlying194,by kernel_rfl,rfl⟩
theorem tok195:TyOK Try.prog 195 ti195:=⟨Try.underlying195,by kernel_rfl,rfl⟩
theorem tok215:TyOK Try.prog 215 ti215:=⟨⟨_,Try.underlying215,rfl,by kernel_rfl,by kernel_rfl,rfl⟩,by kernel_rfl,rfl⟩
theorem tyF_ok (t:Nat) (i:TI) (h:tyF t=some i):TyOK Try.prog t i:=by
 unfold tyF at h
 split at h
 ·injection h with h;subst h;exact tok3
 ·injection h with h;subst h;exact tok4
 ·injection h with h;subst h;exact tok5
 ·injection h with h;subst h;exact tok9
 ·injection h with h;subst h;exact tok22
 ·injection h with h;subst h;exact tok25
 ·injection h with h;subst h;exact tok26
 ·injection h with h;subst h;exact tok47
 ·injection h with h;subst h;exact tok48
 ·injection h with h;subst h;exact tok50
 ·injection h with h;subst h;exact tok54
 ·injection h with h;subst h;exact tok56
 ·injection h with h;subst h;exact tok68
 ·injection h with h;subst h;exact tok71
 ·injection h with h;subst h;exact tok95
 ·injection h with h;subst h;exact tok96
 ·injection h with h;subst h;exact tok100
 ·injection h with h;subst h;exact tok102
 ·injection h with h;subst h;exact tok105
 ·injection h with h;subst h;exact tok106
 ·injection h with h;subst h;exact tok111
 ·injection h with h;subst h;exact tok116
 ·injection h with h;subst h;exact tok119
 ·injection h with h;subst h;exact tok145
 ·injection h with h;subst h;exact tok147
 ·injection h with h;subst h;exact tok151
 ·injection h with h;subst h;exact tok165
 ·injection h with h;subst h;exact tok184
 ·injection h with h;subst h;exact tok186
 ·injection h with h;subst h;exact tok192
 ·injection h with h;subst h;exact tok194
 ·injection h with h;subst h;exact tok195
 ·injection h with h;subst h;exact tok215
 ·cases h
noncomputable def cx:Cx:={ P:=Try.prog,ty:=tyF,ok:=tyF_ok }
theorem cx_P:cx.P=Try.prog:=rfl
@[simp] theorem ty3:cx.ty 3=some ti3:=rfl
@[simp] theorem kd3:cx.kd 3=some (.int .i64):=rfl
@[simp] theorem ti3_sz:ti3.sz=1:=rfl
@[simp] theorem ti3_agg:ti3.isAgg=false:=rfl
@[simp] theorem ti3_known:ti3.known=true:=rfl
@[simp] theorem ti3_kd:ti3.kd= .int .i64:=rfl
@[simp] theorem ti3_by:ti3.by'=8:=rfl
@[simp] theorem ti3_z:ti3.z=ofL [.int .i64 0]:=z_ofL _ _ rfl
@[simp] theorem ty4:cx.ty 4=some ti4:=rfl
@[simp] theorem kd4:cx.kd 4=some (.bool):=rfl
@[simp] theorem ti4_sz:ti4.sz=1:=rfl
@[simp] theorem ti4_agg:ti4.isAgg=false:=rfl
@[simp] theorem ti4_known:ti4.known=true:=rfl
@[simp] theorem ti4_kd:ti4.kd= .bool:=rfl
@[simp] theorem ti4_by:ti4.by'=1:=rfl
@[simp] theorem ti4_z:ti4.z=ofL [.bool false]:=z_ofL _ _ rfl
@[simp] theorem ty5:cx.ty 5=some ti5:=rfl
@[simp] theorem kd5:cx.kd 5=some (.int .u8):=rfl
@[simp] theorem ti5_sz:ti5.sz=1:=rfl
@[simp] theorem ti5_agg:ti5.isAgg=false:=rfl
@[simp] theorem ti5_known:ti5.known=true:=rfl
@[simp] theorem ti5_kd:ti5.kd= .int .u8:=rfl
@[simp] theorem ti5_by:ti5.by'=1:=rfl
@[simp] theorem ti5_z:ti5.z=ofL [.int .u8 0]:=z_ofL _ _ rfl
@[simp] theorem ty9:cx.ty 9=some ti9:=rfl
@[simp] theorem kd9:cx.kd 9=some (.str):=rfl
@[simp] theorem ti9_sz:ti9.sz=1:=rfl
@[simp] theorem ti9_agg:ti9.isAgg=false:=rfl
@[simp] theorem ti9_known:ti9.known=true:=rfl
@[simp] theorem ti9_kd:ti9.kd= .str:=rfl
@[simp] theorem ti9_by:ti9.by'=16:=rfl
@[simp] theorem ti9_z:ti9.z=ofL [.str ⟨#[]⟩]:=z_ofL _ _ rfl
@[simp] theorem ty22:cx.ty 22=some ti22:=rfl
@[simp] theorem kd22:cx.kd 22=some (.slc 25):=rfl
@[simp] theorem ti22_sz:ti22.sz=1:=rfl
@[simp] theorem ti22_agg:ti22.isAgg=false:=rfl
@[simp] theorem ti22_known:ti22.known=true:=rfl
@[simp] theorem ti22_kd:ti22.kd= .slc 25:=rfl
@[simp] theorem ti22_by:ti22.by'=24:=rfl
@[simp] theorem ti22_z:ti22.z=ofL [.nils]:=z_ofL _ _ rfl
@[simp] theorem ty25:cx.ty 25=some ti25:=rfl
@[simp] theorem kd25:cx.kd 25=some (.slc 5):=rfl
@[simp] theorem ti25_sz:ti25.sz=1:=rfl
@[simp] theorem ti25_agg:ti25.isAgg=false:=rfl
@[simp] theorem ti25_known:ti25.known=true:=rfl
@[simp] theorem ti25_kd:ti25.kd= .slc 5:=rfl
@[simp] theorem ti25_by:ti25.by'=24:=rfl
@[simp] theorem ti25_z:ti25.z=ofL [.nils]:=z_ofL _ _ rfl
@[simp] theorem ty26:cx.ty 26=some ti26:=rfl
@[simp] theorem kd26:cx.kd 26=some (.int .i64):=rfl
@[simp] theorem ti26_sz:ti26.sz=1:=rfl
@[simp] theorem ti26_agg:ti26.isAgg=false:=rfl
@[simp] theorem ti26_known:ti26.known=true:=rfl
@[simp] theorem ti26_kd:ti26.kd= .int .i64:=rfl
@[simp] theorem ti26_by:ti26.by'=8:=rfl
@[simp] theorem ti26_z:ti26.z=ofL [.int .i64 0]:=z_ofL _ _ rfl
@[simp] theorem ty47:cx.ty 47=some ti47:=rfl
@[simp] theorem kd47:cx.kd 47=some (.slc 3):=rfl
@[simp] theorem ti47_sz:ti47.sz=1:=rfl
@[simp] theorem ti47_agg:ti47.isAgg=false:=rfl
@[simp] theorem ti47_known:ti47.known=true:=rfl
@[simp] theorem ti47_kd:ti47.kd= .slc 3:=rfl
@[simp] theorem ti47_by:ti47.by'=24:=rfl
@[simp] theorem ti47_z:ti47.z=ofL [.nils]:=z_ofL _ _ rfl
@[simp] theorem ty48:cx.ty 48=some ti48:=rfl
@[simp] theorem kd48:cx.kd 48=some (.slc 54):=rfl
@[simp] theorem ti48_sz:ti48.sz=1:=rfl
@[simp] theorem ti48_agg:ti48.isAgg=false:=rfl
@[simp] theorem ti48_known:ti48.known=true:=rfl
@[simp] theorem ti48_kd:ti48.kd= .slc 54:=rfl
@[simp] theorem ti48_by:ti48.by'=24:=rfl
@[simp] theorem ti48_z:ti48.z=ofL [.nils]:=z_ofL _ _ rfl
@[simp] theorem ty50:cx.ty 50=some ti50:=rfl
@[simp] theorem kd50:cx.kd 50=some (.struct [(3,0),(3,1),(3,2),(3,3),(47,4)]):=rfl
@[simp] theorem ti50_sz:ti50.sz=5:=rfl
@[simp] theorem ti50_agg:ti50.isAgg=true:=rfl
@[simp] theorem ti50_known:ti50.known=true:=rfl
@[simp] theorem ti50_kd:ti50.kd= .struct [(3,0),(3,1),(3,2),(3,3),(47,4)]:=rfl
@[simp] theorem ti50_by:ti50.by'=56:=rfl
@[simp] theorem ti50_z:ti50.z=ofL [.int .i64 0,.int .i64 0,.int .i64 0,.int .i64 0,.nils]:=z_ofL _ _ rfl
@[simp] theorem fs50_0:fieldsA cx 50 0=some (ti3,0):=rfl
@[simp] theorem fs50_1:fieldsA cx 50 1=some (ti3,1):=rfl
@[simp] theorem fs50_2:fieldsA cx 50 2=some (ti3,2):=rfl
@[simp] theorem fs50_3:fieldsA cx 50 3=some (ti3,3):=rfl
@[simp] theorem fs50_4:fieldsA cx 50 4=some (ti47,4):=rfl
@[simp] theorem ty54:cx.ty 54=some ti54:=rfl
@[simp] theorem kd54:cx.kd 54=some (.struct [(3,0),(3,1),(22,2),(4,3)]):=rfl
@[simp] theorem ti54_sz:ti54.sz=4:=rfl
@[simp] theorem ti54_agg:ti54.isAgg=true:=rfl
@[simp] theorem ti54_known:ti54.known=true:=rfl
@[simp] theorem ti54_kd:ti54.kd= .struct [(3,0),(3,1),(22,2),(4,3)]:=rfl
@[simp] theorem ti54_by:ti54.by'=48:=rfl
@[simp] theorem ti54_z:ti54.z=ofL [.int .i64 0,.int .i64 0,.nils,.bool false]:=z_ofL _ _ rfl
@[simp] theorem fs54_0:fieldsA cx 54 0=some (ti3,0):=rfl
@[simp] theorem fs54_1:fieldsA cx 54 1=some (ti3,1):=rfl
@[simp] theorem fs54_2:fieldsA cx 54 2=some (ti22,2):=rfl
@[simp] theorem fs54_3:fieldsA cx 54 3=some (ti4,3):=rfl
@[simp] theorem ty56:cx.ty 56=some ti56:=rfl
@[simp] theorem kd56:cx.kd 56=some (.slc 4):=rfl
@[simp] theorem ti56_sz:ti56.sz=1:=rfl
@[simp] theorem ti56_agg:ti56.isAgg=false:=rfl
@[simp] theorem ti56_known:ti56.known=true:=rfl
@[simp] theorem ti56_kd:ti56.kd= .slc 4:=rfl
@[simp] theorem ti56_by:ti56.by'=24:=rfl
@[simp] theorem ti56_z:ti56.z=ofL [.nils]:=z_ofL _ _ rfl
@[simp] theorem ty68:cx.ty 68=some ti68:=rfl
@[simp] theorem kd68:cx.kd 68=some (.struct [(3,0),(3,1),(3,2),(25,3)]):=rfl
@[simp] theorem ti68_sz:ti68.sz=4:=rfl
@[simp] theorem ti68_agg:ti68.isAgg=true:=rfl
@[simp] theorem ti68_known:ti68.known=true:=rfl
@[simp] theorem ti68_kd:ti68.kd= .struct [(3,0),(3,1),(3,2),(25,3)]:=rfl
@[simp] theorem ti68_by:ti68.by'=48:=rfl
@[simp] theorem ti68_z:ti68.z=ofL [.int .i64 0,.int .i64 0,.int .i64 0,.nils]:=z_ofL _ _ rfl
@[simp] theorem fs68_0:fieldsA cx 68 0=some (ti3,0):=rfl
@[simp] theorem fs68_1:fieldsA cx 68 1=some (ti3,1):=rfl
@[simp] theorem fs68_2:fieldsA cx 68 2=some (ti3,2):=rfl
@[simp] theorem fs68_3:fieldsA cx 68 3=some (ti25,3):=rfl
@[simp] theorem ty71:cx.ty 71=some ti71:=rfl
@[simp] theorem kd71:cx.kd 71=some (.slc 50):=rfl
@[simp] theorem ti71_sz:ti71.sz=1:=rfl
@[simp] theorem ti71_agg:ti71.isAgg=false:=rfl
@[simp] theorem ti71_known:ti71.known=true:=rfl
@[simp] theorem ti71_kd:ti71.kd= .slc 50:=rfl
@[simp] theorem ti71_by:ti71.by'=24:=rfl
@[simp] theorem ti71_z:ti71.z=ofL [.nils]:=z_ofL _ _ rfl
@[simp] theorem ty95:cx.ty 95=some ti95:=rfl
@[simp] theorem kd95:cx.kd 95=some (.func):=rfl
@[simp] theorem ti95_sz:ti95.sz=1:=rfl
@[simp] theorem ti95_agg:ti95.isAgg=false:=rfl
@[simp] theorem ti95_known:ti95.known=true:=rfl
@[simp] theorem ti95_kd:ti95.kd= .func:=rfl
@[simp] theorem ti95_by:ti95.by'=8:=rfl
@[simp] theorem ti95_z:ti95.z=ofL [.nilf]:=z_ofL _ _ rfl
@[simp] theorem ty96:cx.ty 96=some ti96:=rfl
@[simp] theorem kd96:cx.kd 96=some (.func):=rfl
@[simp] theorem ti96_sz:ti96.sz=1:=rfl
@[simp] theorem ti96_agg:ti96.isAgg=false:=rfl
@[simp] theorem ti96_known:ti96.known=true:=rfl
@[simp] theorem ti96_kd:ti96.kd= .func:=rfl
@[simp] theorem ti96_by:ti96.by'=8:=rfl
@[simp] theorem ti96_z:ti96.z=ofL [.nilf]:=z_ofL _ _ rfl
@[simp] theorem ty100:cx.ty 100=some ti100:=rfl
@[simp] theorem kd100:cx.kd 100=some (.ptr 102):=rfl
@[simp] theorem ti100_sz:ti100.sz=1:=rfl
@[simp] theorem ti100_agg:ti100.isAgg=false:=rfl
@[simp] theorem ti100_known:ti100.known=true:=rfl
@[simp] theorem ti100_kd:ti100.kd= .ptr 102:=rfl
@[simp] theorem ti100_by:ti100.by'=8:=rfl
@[simp] theorem ti100_z:ti100.z=ofL [.nilp]:=z_ofL _ _ rfl
@[simp] theorem ty102:cx.ty 102=some ti102:=rfl
@[simp] theorem kd102:cx.kd 102=some (.struct [(25,0)]):=rfl
@[simp] theorem ti102_sz:ti102.sz=1:=rfl
@[simp] theorem ti102_agg:ti102.isAgg=true:=rfl
@[simp] theorem ti102_known:ti102.known=true:=rfl
@[simp] theorem ti102_kd:ti102.kd= .struct [(25,0)]:=rfl
@[simp] theorem ti102_by:ti102.by'=24:=rfl
@[simp] theorem ti102_z:ti102.z=ofL [.nils]:=z_ofL _ _ rfl
@[simp] theorem fs102_0:fieldsA cx 102 0=some (ti25,0):=rfl
@[simp] theorem ty105:cx.ty 105=some ti105:=rfl
@[simp] theorem kd105:cx.kd 105=some (.int .u64):=rfl
@[simp] theorem ti105_sz:ti105.sz=1:=rfl
@[simp] theorem ti105_agg:ti105.isAgg=false:=rfl
@[simp] theorem ti105_known:ti105.known=true:=rfl
@[simp] theorem ti105_kd:ti105.kd= .int .u64:=rfl
@[simp] theorem ti105_by:ti105.by'=8:=rfl
@[simp] theorem ti105_z:ti105.z=ofL [.int .u64 0]:=z_ofL _ _ rfl
@[simp] theorem ty106:cx.ty 106=some ti106:=rfl
@[simp] theorem kd106:cx.kd 106=some (.int .u32):=rfl
@[simp] theorem ti106_sz:ti106.sz=1:=rfl
@[simp] theorem ti106_agg:ti106.isAgg=false:=rfl
@[simp] theorem ti106_known:ti106.known=true:=rfl
@[simp] theorem ti106_kd:ti106.kd= .int .u32:=rfl
@[simp] theorem ti106_by:ti106.by'=4:=rfl
@[simp] theorem ti106_z:ti106.z=ofL [.int .u32 0]:=z_ofL _ _ rfl
@[simp] theorem ty111:cx.ty 111=some ti111:=rfl
@[simp] theorem kd111:cx.kd 111=some (.slc 22):=rfl
@[simp] theorem ti111_sz:ti111.sz=1:=rfl
@[simp] theorem ti111_agg:ti111.isAgg=false:=rfl
@[simp] theorem ti111_known:ti111.known=true:=rfl
@[simp] theorem ti111_kd:ti111.kd= .slc 22:=rfl
@[simp] theorem ti111_by:ti111.by'=24:=rfl
@[simp] theorem ti111_z:ti111.z=ofL [.nils]:=z_ofL _ _ rfl
@[simp] theorem ty116:cx.ty 116=some ti116:=rfl
@[simp] theorem kd116:cx.kd 116=some (.func):=rfl
@[simp] theorem ti116_sz:ti116.sz=1:=rfl
@[simp] theorem ti116_agg:ti116.isAgg=false:=rfl
@[simp] theorem ti116_known:ti116.known=true:=rfl
@[simp] theorem ti116_kd:ti116.kd= .func:=rfl
@[simp] theorem ti116_by:ti116.by'=8:=rfl
@[simp] theorem ti116_z:ti116.z=ofL [.nilf]:=z_ofL _ _ rfl
@[simp] theorem ty119:cx.ty 119=some ti119:=rfl
@[simp] theorem kd119:cx.kd 119=some (.func):=rfl
@[simp] theorem ti119_sz:ti119.sz=1:=rfl
@[simp] theorem ti119_agg:ti119.isAgg=false:=rfl
@[simp] theorem ti119_known:ti119.known=true:=rfl
@[simp] theorem ti119_kd:ti119.kd= .func:=rfl
@[simp] theorem ti119_by:ti119.by'=8:=rfl
@[simp] theorem ti119_z:ti119.z=ofL [.nilf]:=z_ofL _ _ rfl
@[simp] theorem ty145:cx.ty 145=some ti145:=rfl
@[simp] theorem kd145:cx.kd 145=some (.int .u64):=rfl
@[simp] theorem ti145_sz:ti145.sz=1:=rfl
@[simp] theorem ti145_agg:ti145.isAgg=false:=rfl
@[simp] theorem ti145_known:ti145.known=true:=rfl
@[simp] theorem ti145_kd:ti145.kd= .int .u64:=rfl
@[simp] theorem ti145_by:ti145.by'=8:=rfl
@[simp] theorem ti145_z:ti145.z=ofL [.int .u64 0]:=z_ofL _ _ rfl
@[simp] theorem ty147:cx.ty 147=some ti147:=rfl
@[simp] theorem kd147:cx.kd 147=some (.slc 48):=rfl
@[simp] theorem ti147_sz:ti147.sz=1:=rfl
@[simp] theorem ti147_agg:ti147.isAgg=false:=rfl
@[simp] theorem ti147_known:ti147.known=true:=rfl
@[simp] theorem ti147_kd:ti147.kd= .slc 48:=rfl
@[simp] theorem ti147_by:ti147.by'=24:=rfl
@[simp] theorem ti147_z:ti147.z=ofL [.nils]:=z_ofL _ _ rfl
@[simp] theorem ty151:cx.ty 151=some ti151:=rfl
@[simp] theorem kd151:cx.kd 151=some (.slc 68):=rfl
@[simp] theorem ti151_sz:ti151.sz=1:=rfl
@[simp] theorem ti151_agg:ti151.isAgg=false:=rfl
@[simp] theorem ti151_known:ti151.known=true:=rfl
@[simp] theorem ti151_kd:ti151.kd= .slc 68:=rfl
@[simp] theorem ti151_by:ti151.by'=24:=rfl
@[simp] theorem ti151_z:ti151.z=ofL [.nils]:=z_ofL _ _ rfl
@[simp] theorem ty165:cx.ty 165=some ti165:=rfl
@[simp] theorem kd165:cx.kd 165=some (.int .i64):=rfl
@[simp] theorem ti165_sz:ti165.sz=1:=rfl
@[simp] theorem ti165_agg:ti165.isAgg=false:=rfl
@[simp] theorem ti165_known:ti165.known=true:=rfl
@[simp] theorem ti165_kd:ti165.kd= .int .i64:=rfl
@[simp] theorem ti165_by:ti165.by'=8:=rfl
@[simp] theorem ti165_z:ti165.z=ofL [.int .i64 0]:=z_ofL _ _ rfl
@[simp] theorem ty184:cx.ty 184=some ti184:=rfl
@[simp] theorem kd184:cx.kd 184=some (.ptr 186):=rfl
@[simp] theorem ti184_sz:ti184.sz=1:=rfl
@[simp] theorem ti184_agg:ti184.isAgg=false:=rfl
@[simp] theorem ti184_known:ti184.known=true:=rfl
@[simp] theorem ti184_kd:ti184.kd= .ptr 186:=rfl
@[simp] theorem ti184_by:ti184.by'=8:=rfl
@[simp] theorem ti184_z:ti184.z=ofL [.nilp]:=z_ofL _ _ rfl
@[simp] theorem ty186:cx.ty 186=some ti186:=rfl
@[simp] theorem kd186:cx.kd 186=some (.struct [(25,0)]):=rfl
@[simp] theorem ti186_sz:ti186.sz=1:=rfl
@[simp] theorem ti186_agg:ti186.isAgg=true:=rfl
@[simp] theorem ti186_known:ti186.known=true:=rfl
@[simp] theorem ti186_kd:ti186.kd= .struct [(25,0)]:=rfl
@[simp] theorem ti186_by:ti186.by'=24:=rfl
@[simp] theorem ti186_z:ti186.z=ofL [.nils]:=z_ofL _ _ rfl
@[simp] theorem fs186_0:fieldsA cx 186 0=some (ti25,0):=rfl
@[simp] theorem ty192:cx.ty 192=some ti192:=rfl
@[simp] theorem kd192:cx.kd 192=some (.ptr 215):=rfl
@[simp] theorem ti192_sz:ti192.sz=1:=rfl
@[simp] theorem ti192_agg:ti192.isAgg=false:=rfl
@[simp] theorem ti192_known:ti192.known=true:=rfl
@[simp] theorem ti192_kd:ti192.kd= .ptr 215:=rfl
@[simp] theorem ti192_by:ti192.by'=8:=rfl
@[simp] theorem ti192_z:ti192.z=ofL [.nilp]:=z_ofL _ _ rfl
@[simp] theorem ty194:cx.ty 194=some ti194:=rfl
@[simp] theorem kd194:cx.kd 194=some (.ptr 3):=rfl
@[simp] theorem ti194_sz:ti194.sz=1:=rfl
@[simp] theorem ti194_agg:ti194.isAgg=false:=rfl
@[simp] theorem ti194_known:ti194.known=true:=rfl
@[simp] theorem ti194_kd:ti194.kd= .ptr 3:=rfl
@[simp] theorem ti194_by:ti194.by'=8:=rfl
@[simp] theorem ti194_z:ti194.z=ofL [.nilp]:=z_ofL _ _ rfl
@[simp] theorem ty195:cx.ty 195=some ti195:=rfl
@[simp] theorem kd195:cx.kd 195=some (.slc 194):=rfl
@[simp] theorem ti195_sz:ti195.sz=1:=rfl
@[simp] theorem ti195_agg:ti195.isAgg=false:=rfl
@[simp] theorem ti195_known:ti195.known=true:=rfl
@[simp] theorem ti195_kd:ti195.kd= .slc 194:=rfl
@[simp] theorem ti195_by:ti195.by'=24:=rfl
@[simp] theorem ti195_z:ti195.z=ofL [.nils]:=z_ofL _ _ rfl
@[simp] theorem ty215:cx.ty 215=some ti215:=rfl
@[simp] theorem kd215:cx.kd 215=some (.struct [(25,0),(4,1)]):=rfl
@[simp] theorem ti215_sz:ti215.sz=2:=rfl
@[simp] theorem ti215_agg:ti215.isAgg=true:=rfl
@[simp] theorem ti215_known:ti215.known=true:=rfl
@[simp] theorem ti215_kd:ti215.kd= .struct [(25,0),(4,1)]:=rfl
@[simp] theorem ti215_by:ti215.by'=32:=rfl
@[simp] theorem ti215_z:ti215.z=ofL [.nils,.bool false]:=z_ofL _ _ rfl
@[simp] theorem fs215_0:fieldsA cx 215 0=some (ti25,0):=rfl
@[simp] theorem fs215_1:fieldsA cx 215 1=some (ti4,1):=rfl
end Go.Proofs.Ytndjbcnpgggddaa
