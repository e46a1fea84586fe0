import Derived.Test.YtliahlgkinhjlaaDoorProg
import Derived.Test.YtliahlgkinhjlaaDoorLibB
import Derived.KernelRfl
/- The types that the walk reads; written by gen.py. -/
namespace Go.Proofs.YtliahlgkinhjlaaDoor
open Go.AM

def ti3 : TI := ⟨.int .i64, 1, 8, .int .i64 0⟩
def ti4 : TI := ⟨.bool, 1, 1, .bool false⟩
def ti5 : TI := ⟨.int .u8, 1, 1, .int .u8 0⟩
def ti9 : TI := ⟨.str, 1, 16, .string ⟨#[]⟩⟩
def ti21 : TI := ⟨.int .i32, 1, 4, .int .i32 0⟩
def ti23 : TI := ⟨.struct [(9, 0), (3, 1), (3, 2), (3, 3), (3, 4), (3, 5), (3, 6), (4, 7)], 8, 72, .agg #[.string ⟨#[]⟩, .int .i64 0, .int .i64 0, .int .i64 0, .int .i64 0, .int .i64 0, .int .i64 0, .bool false]⟩
def ti24 : TI := ⟨.slc 5, 1, 24, .slice none 0 0⟩
def ti26 : TI := ⟨.slc 24, 1, 24, .slice none 0 0⟩
def ti27 : TI := ⟨.int .i64, 1, 8, .int .i64 0⟩
def ti36 : TI := ⟨.slc 3, 1, 24, .slice none 0 0⟩
def ti38 : TI := ⟨.struct [(3, 0), (3, 1), (26, 2), (4, 3)], 4, 48, .agg #[.int .i64 0, .int .i64 0, .slice none 0 0, .bool false]⟩
def ti42 : TI := ⟨.struct [(3, 0), (3, 1), (3, 2), (24, 3)], 4, 48, .agg #[.int .i64 0, .int .i64 0, .int .i64 0, .slice none 0 0]⟩
def ti44 : TI := ⟨.slc 48, 1, 24, .slice none 0 0⟩
def ti48 : TI := ⟨.struct [(23, 0), (3, 8), (3, 9)], 10, 88, .agg #[.string ⟨#[]⟩, .int .i64 0, .int .i64 0, .int .i64 0, .int .i64 0, .int .i64 0, .int .i64 0, .bool false, .int .i64 0, .int .i64 0]⟩
def ti80 : TI := ⟨.slc 9, 1, 24, .slice none 0 0⟩
def ti97 : TI := ⟨.slc 42, 1, 24, .slice none 0 0⟩
def ti100 : TI := ⟨.ptr 102, 1, 8, .pointer none⟩
def ti102 : TI := ⟨.struct [(24, 0)], 1, 24, .agg #[.slice none 0 0]⟩
def ti106 : TI := ⟨.int .u32, 1, 4, .int .u32 0⟩
def ti112 : TI := ⟨.ptr 159, 1, 8, .pointer none⟩
def ti123 : TI := ⟨.func, 1, 8, .nilFunc⟩
def ti145 : TI := ⟨.ptr 147, 1, 8, .pointer none⟩
def ti147 : TI := ⟨.struct [(24, 0)], 1, 24, .agg #[.slice none 0 0]⟩
def ti152 : TI := ⟨.int .u64, 1, 8, .int .u64 0⟩
def ti159 : TI := ⟨.struct [(24, 0), (4, 1)], 2, 32, .agg #[.slice none 0 0, .bool false]⟩
def ti184 : TI := ⟨.ptr 215, 1, 8, .pointer none⟩
def ti188 : TI := ⟨.ptr 3, 1, 8, .pointer none⟩
def ti189 : TI := ⟨.slc 188, 1, 24, .slice none 0 0⟩
def ti201 : TI := ⟨.func, 1, 8, .nilFunc⟩
def ti215 : TI := ⟨.struct [(24, 0), (4, 1)], 2, 32, .agg #[.slice none 0 0, .bool false]⟩
def tyF : Nat → Option TI
  | 3 => some ti3
  | 4 => some ti4
  | 5 => some ti5
  | 9 => some ti9
  | 21 => some ti21
  | 23 => some ti23
  | 24 => some ti24
  | 26 => some ti26
  | 27 => some ti27
  | 36 => some ti36
  | 38 => some ti38
  | 42 => some ti42
  | 44 => some ti44
  | 48 => some ti48
  | 80 => some ti80
  | 97 => some ti97
  | 100 => some ti100
  | 102 => some ti102
  | 106 => some ti106
  | 112 => some ti112
  | 123 => some ti123
  | 145 => some ti145
  | 147 => some ti147
  | 152 => some ti152
  | 159 => some ti159
  | 184 => some ti184
  | 188 => some ti188
  | 189 => some ti189
  | 201 => some ti201
  | 215 => some ti215
  | _ => none

theorem tok3 : TyOK Tryd.prog 3 ti3 := ⟨Tryd.underlying3, by kernel_rfl, rfl⟩
theorem tok4 : TyOK Tryd.prog 4 ti4 := ⟨Tryd.underlying4, by kernel_rfl, rfl⟩
theorem tok5 : TyOK Tryd.prog 5 ti5 := ⟨Tryd.underlying5, by kernel_rfl, rfl⟩
theorem tok9 : TyOK Tryd.prog 9 ti9 := ⟨Tryd.underlying9, by kernel_rfl, rfl⟩
theorem tok21 : TyOK Tryd.prog 21 ti21 := ⟨Tryd.underlying21, by kernel_rfl, rfl⟩
theorem tok23 : TyOK Tryd.prog 23 ti23 := ⟨⟨_, Tryd.underlying23, rfl, by kernel_rfl, by kernel_rfl, rfl⟩, by kernel_rfl, rfl⟩
theorem tok24 : TyOK Tryd.prog 24 ti24 := ⟨Tryd.underlying24, by kernel_rfl, rfl⟩
theorem tok26 : TyOK Tryd.prog 26 ti26 := ⟨Tryd.underlying26, by kernel_rfl, rfl⟩
theorem tok27 : TyOK Tryd.prog 27 ti27 := ⟨Tryd.underlying27, by kernel_rfl, rfl⟩
theorem tok36 : TyOK Tryd.prog 36 ti36 := ⟨Tryd.underlying36, by kernel_rfl, rfl⟩
theorem tok38 : TyOK Tryd.prog 38 ti38 := ⟨⟨_, Tryd.underlying38, rfl, by kernel_rfl, by kernel_rfl, rfl⟩, by kernel_rfl, rfl⟩
theorem tok42 : TyOK Tryd.prog 42 ti42 := ⟨⟨_, Tryd.underlying42, rfl, by kernel_rfl, by kernel_rfl, rfl⟩, by kernel_rfl, rfl⟩
theorem tok44 : TyOK Tryd.prog 44 ti44 := ⟨Tryd.underlying44, by kernel_rfl, rfl⟩
theorem tok48 : TyOK Tryd.prog 48 ti48 := ⟨⟨_, Tryd.underlying48, rfl, by kernel_rfl, by kernel_rfl, rfl⟩, by kernel_rfl, rfl⟩
theorem tok80 : TyOK Tryd.prog 80 ti80 := ⟨Tryd.underlying80, by kernel_rfl, rfl⟩
theorem tok97 : TyOK Tryd.prog 97 ti97 := ⟨Tryd.underlying97, by kernel_rfl, rfl⟩
theorem tok100 : TyOK Tryd.prog 100 ti100 := ⟨Tryd.underlying100, by kernel_rfl, rfl⟩
theorem tok102 : TyOK Tryd.prog 102 ti102 := ⟨⟨_, Tryd.underlying102, rfl, by kernel_rfl, by kernel_rfl, rfl⟩, by kernel_rfl, rfl⟩
theorem tok106 : TyOK Tryd.prog 106 ti106 := ⟨Tryd.underlying106, by kernel_rfl, rfl⟩
theorem tok112 : TyOK Tryd.prog 112 ti112 := ⟨Tryd.underlying112, by kernel_rfl, rfl⟩
theorem tok123 : TyOK Tryd.prog 123 ti123 := ⟨⟨_, _, _, Tryd.underlying123⟩, by kernel_rfl, rfl⟩
theorem tok145 : TyOK Tryd.prog 145 ti145 := ⟨Tryd.underlying145, by kernel_rfl, rfl⟩
theorem tok147 : TyOK Tryd.prog 147 ti147 := ⟨⟨_, Tryd.underlying147, rfl, by kernel_rfl, by kernel_rfl, rfl⟩, by kernel_rfl, rfl⟩
theorem tok152 : TyOK Tryd.prog 152 ti152 := ⟨Tryd.underlying152, by kernel_rfl, rfl⟩
theorem tok159 : TyOK Tryd.prog 159 ti159 := ⟨⟨_, Tryd.underlying159, rfl, by kernel_rfl, by kernel_rfl, rfl⟩, by kernel_rfl, rfl⟩
theorem tok184 : TyOK Tryd.prog 184 ti184 := ⟨Tryd.underlying184, by kernel_rfl, rfl⟩
theorem tok188 : TyOK Tryd.prog 188 ti188 := ⟨Tryd.underlying188, by kernel_rfl, rfl⟩
theorem tok189 : TyOK Tryd.prog 189 ti189 := ⟨Tryd.underlying189, by kernel_rfl, rfl⟩
theorem tok201 : TyOK Tryd.prog 201 ti201 := ⟨⟨_, _, _, Tryd.underlying201⟩, by kernel_rfl, rfl⟩
theorem tok215 : TyOK Tryd.prog 215 ti215 := ⟨⟨_, Tryd.underlying215, rfl, by kernel_rfl, by kernel_rfl, rfl⟩, by kernel_rfl, rfl⟩
theorem tyF_ok (t : Nat) (i : TI) (h : tyF t = some i) : TyOK Tryd.prog t i := by
  unfold tyF at h
  split at h
  · injection h with h; subst h; exact tok3
  · injection h with h; subst h; exact tok4
  · injection h with h; subst h; exact tok5
  · injection h with h; subst h; exact tok9
  · injection h with h; subst h; exact tok21
  · injection h with h; subst h; exact tok23
  · injection h with h; subst h; exact tok24
  · injection h with h; subst h; exact tok26
  · injection h with h; subst h; exact tok27
  · injection h with h; subst h; exact tok36
  · injection h with h; subst h; exact tok38
  · injection h with h; subst h; exact tok42
  · injection h with h; subst h; exact tok44
  · injection h with h; subst h; exact tok48
  · injection h with h; subst h; exact tok80
  · injection h with h; subst h; exact tok97
  · injection h with h; subst h; exact tok100
  · injection h with h; subst h; exact tok102
  · injection h with h; subst h; exact tok106
  · injection h with h; subst h; exact tok112
  · injection h with h; subst h; exact tok123
  · injection h with h; subst h; exact tok145
  · injection h with h; subst h; exact tok147
  · injection h with h; subst h; exact tok152
  · injection h with h; subst h; exact tok159
  · injection h with h; subst h; exact tok184
  · injection h with h; subst h; exact tok188
  · injection h with h; subst h; exact tok189
  · injection h with h; subst h; exact tok201
  · injection h with h; subst h; exact tok215
  · cases h

noncomputable def cx : Cx := { P := Tryd.prog, ty := tyF, ok := tyF_ok }
theorem cx_P : cx.P = Tryd.prog := rfl
@[simp] theorem ty3 : cx.ty 3 = some ti3 := rfl
@[simp] theorem kd3 : cx.kd 3 = some (.int .i64) := rfl
@[simp] theorem ti3_sz : ti3.sz = 1 := rfl
@[simp] theorem ti3_agg : ti3.isAgg = false := rfl
@[simp] theorem ti3_known : ti3.known = true := rfl
@[simp] theorem ti3_kd : ti3.kd = .int .i64 := rfl
@[simp] theorem ti3_by : ti3.by' = 8 := rfl
@[simp] theorem ti3_z : ti3.z = ofL [.int .i64 0] := z_ofL _ _ rfl
@[simp] theorem ty4 : cx.ty 4 = some ti4 := rfl
@[simp] theorem kd4 : cx.kd 4 = some (.bool) := rfl
@[simp] theorem ti4_sz : ti4.sz = 1 := rfl
@[simp] theorem ti4_agg : ti4.isAgg = false := rfl
@[simp] theorem ti4_known : ti4.known = true := rfl
@[simp] theorem ti4_kd : ti4.kd = .bool := rfl
@[simp] theorem ti4_by : ti4.by' = 1 := rfl
@[simp] theorem ti4_z : ti4.z = ofL [.bool false] := z_ofL _ _ rfl
@[simp] theorem ty5 : cx.ty 5 = some ti5 := rfl
@[simp] theorem kd5 : cx.kd 5 = some (.int .u8) := rfl
@[simp] theorem ti5_sz : ti5.sz = 1 := rfl
@[simp] theorem ti5_agg : ti5.isAgg = false := rfl
@[simp] theorem ti5_known : ti5.known = true := rfl
@[simp] theorem ti5_kd : ti5.kd = .int .u8 := rfl
@[simp] theorem ti5_by : ti5.by' = 1 := rfl
@[simp] theorem ti5_z : ti5.z = ofL [.int .u8 0] := z_ofL _ _ rfl
@[simp] theorem ty9 : cx.ty 9 = some ti9 := rfl
@[simp] theorem kd9 : cx.kd 9 = some (.str) := rfl
@[simp] theorem ti9_sz : ti9.sz = 1 := rfl
@[simp] theorem ti9_agg : ti9.isAgg = false := rfl
@[simp] theorem ti9_known : ti9.known = true := rfl
@[simp] theorem ti9_kd : ti9.kd = .str := rfl
@[simp] theorem ti9_by : ti9.by' = 16 := rfl
@[simp] theorem ti9_z : ti9.z = ofL [.str ⟨#[]⟩] := z_ofL _ _ rfl
@[simp] theorem ty21 : cx.ty 21 = some ti21 := rfl
@[simp] theorem kd21 : cx.kd 21 = some (.int .i32) := rfl
@[simp] theorem ti21_sz : ti21.sz = 1 := rfl
@[simp] theorem ti21_agg : ti21.isAgg = false := rfl
@[simp] theorem ti21_known : ti21.known = true := rfl
@[simp] theorem ti21_kd : ti21.kd = .int .i32 := rfl
@[simp] theorem ti21_by : ti21.by' = 4 := rfl
@[simp] theorem ti21_z : ti21.z = ofL [.int .i32 0] := z_ofL _ _ rfl
@[simp] theorem ty23 : cx.ty 23 = some ti23 := rfl
@[simp] theorem kd23 : cx.kd 23 = some (.struct [(9, 0), (3, 1), (3, 2), (3, 3), (3, 4), (3, 5), (3, 6), (4, 7)]) := rfl
@[simp] theorem ti23_sz : ti23.sz = 8 := rfl
@[simp] theorem ti23_agg : ti23.isAgg = true := rfl
@[simp] theorem ti23_known : ti23.known = true := rfl
@[simp] theorem ti23_kd : ti23.kd = .struct [(9, 0), (3, 1), (3, 2), (3, 3), (3, 4), (3, 5), (3, 6), (4, 7)] := rfl
@[simp] theorem ti23_by : ti23.by' = 72 := rfl
@[simp] theorem ti23_z : ti23.z = ofL [.str ⟨#[]⟩, .int .i64 0, .int .i64 0, .int .i64 0, .int .i64 0, .int .i64 0, .int .i64 0, .bool false] := z_ofL _ _ rfl
@[simp] theorem fs23_0 : fieldsA cx 23 0 = some (ti9, 0) := rfl
@[simp] theorem fs23_1 : fieldsA cx 23 1 = some (ti3, 1) := rfl
@[simp] theorem fs23_2 : fieldsA cx 23 2 = some (ti3, 2) := rfl
@[simp] theorem fs23_3 : fieldsA cx 23 3 = some (ti3, 3) := rfl
@[simp] theorem fs23_4 : fieldsA cx 23 4 = some (ti3, 4) := rfl
@[simp] theorem fs23_5 : fieldsA cx 23 5 = some (ti3, 5) := rfl
@[simp] theorem fs23_6 : fieldsA cx 23 6 = some (ti3, 6) := rfl
@[simp] theorem fs23_7 : fieldsA cx 23 7 = some (ti4, 7) := rfl
@[simp] theorem ty24 : cx.ty 24 = some ti24 := rfl
@[simp] theorem kd24 : cx.kd 24 = some (.slc 5) := rfl
@[simp] theorem ti24_sz : ti24.sz = 1 := rfl
@[simp] theorem ti24_agg : ti24.isAgg = false := rfl
@[simp] theorem ti24_known : ti24.known = true := rfl
@[simp] theorem ti24_kd : ti24.kd = .slc 5 := rfl
@[simp] theorem ti24_by : ti24.by' = 24 := rfl
@[simp] theorem ti24_z : ti24.z = ofL [.nils] := z_ofL _ _ rfl
@[simp] theorem ty26 : cx.ty 26 = some ti26 := rfl
@[simp] theorem kd26 : cx.kd 26 = some (.slc 24) := rfl
@[simp] theorem ti26_sz : ti26.sz = 1 := rfl
@[simp] theorem ti26_agg : ti26.isAgg = false := rfl
@[simp] theorem ti26_known : ti26.known = true := rfl
@[simp] theorem ti26_kd : ti26.kd = .slc 24 := rfl
@[simp] theorem ti26_by : ti26.by' = 24 := rfl
@[simp] theorem ti26_z : ti26.z = ofL [.nils] := z_ofL _ _ rfl
@[simp] theorem ty27 : cx.ty 27 = some ti27 := rfl
@[simp] theorem kd27 : cx.kd 27 = some (.int .i64) := rfl
@[simp] theorem ti27_sz : ti27.sz = 1 := rfl
@[simp] theorem ti27_agg : ti27.isAgg = false := rfl
@[simp] theorem ti27_known : ti27.known = true := rfl
@[simp] theorem ti27_kd : ti27.kd = .int .i64 := rfl
@[simp] theorem ti27_by : ti27.by' = 8 := rfl
@[simp] theorem ti27_z : ti27.z = ofL [.int .i64 0] := z_ofL _ _ rfl
@[simp] theorem ty36 : cx.ty 36 = some ti36 := rfl
@[simp] theorem kd36 : cx.kd 36 = some (.slc 3) := rfl
@[simp] theorem ti36_sz : ti36.sz = 1 := rfl
@[simp] theorem ti36_agg : ti36.isAgg = false := rfl
@[simp] theorem ti36_known : ti36.known = true := rfl
@[simp] theorem ti36_kd : ti36.kd = .slc 3 := rfl
@[simp] theorem ti36_by : ti36.by' = 24 := rfl
@[simp] theorem ti36_z : ti36.z = ofL [.nils] := z_ofL _ _ rfl
@[simp] theorem ty38 : cx.ty 38 = some ti38 := rfl
@[simp] theorem kd38 : cx.kd 38 = some (.struct [(3, 0), (3, 1), (26, 2), (4, 3)]) := rfl
@[simp] theorem ti38_sz : ti38.sz = 4 := rfl
@[simp] theorem ti38_agg : ti38.isAgg = true := rfl
@[simp] theorem ti38_known : ti38.known = true := rfl
@[simp] theorem ti38_kd : ti38.kd = .struct [(3, 0), (3, 1), (26, 2), (4, 3)] := rfl
@[simp] theorem ti38_by : ti38.by' = 48 := rfl
@[simp] theorem ti38_z : ti38.z = ofL [.int .i64 0, .int .i64 0, .nils, .bool false] := z_ofL _ _ rfl
@[simp] theorem fs38_0 : fieldsA cx 38 0 = some (ti3, 0) := rfl
@[simp] theorem fs38_1 : fieldsA cx 38 1 = some (ti3, 1) := rfl
@[simp] theorem fs38_2 : fieldsA cx 38 2 = some (ti26, 2) := rfl
@[simp] theorem fs38_3 : fieldsA cx 38 3 = some (ti4, 3) := rfl
@[simp] theorem ty42 : cx.ty 42 = some ti42 := rfl
@[simp] theorem kd42 : cx.kd 42 = some (.struct [(3, 0), (3, 1), (3, 2), (24, 3)]) := rfl
@[simp] theorem ti42_sz : ti42.sz = 4 := rfl
@[simp] theorem ti42_agg : ti42.isAgg = true := rfl
@[simp] theorem ti42_known : ti42.known = true := rfl
@[simp] theorem ti42_kd : ti42.kd = .struct [(3, 0), (3, 1), (3, 2), (24, 3)] := rfl
@[simp] theorem ti42_by : ti42.by' = 48 := rfl
@[simp] theorem ti42_z : ti42.z = ofL [.int .i64 0, .int .i64 0, .int .i64 0, .nils] := z_ofL _ _ rfl
@[simp] theorem fs42_0 : fieldsA cx 42 0 = some (ti3, 0) := rfl
@[simp] theorem fs42_1 : fieldsA cx 42 1 = some (ti3, 1) := rfl
@[simp] theorem fs42_2 : fieldsA cx 42 2 = some (ti3, 2) := rfl
@[simp] theorem fs42_3 : fieldsA cx 42 3 = some (ti24, 3) := rfl
@[simp] theorem ty44 : cx.ty 44 = some ti44 := rfl
@[simp] theorem kd44 : cx.kd 44 = some (.slc 48) := rfl
@[simp] theorem ti44_sz : ti44.sz = 1 := rfl
@[simp] theorem ti44_agg : ti44.isAgg = false := rfl
@[simp] theorem ti44_known : ti44.known = true := rfl
@[simp] theorem ti44_kd : ti44.kd = .slc 48 := rfl
@[simp] theorem ti44_by : ti44.by' = 24 := rfl
@[simp] theorem ti44_z : ti44.z = ofL [.nils] := z_ofL _ _ rfl
@[simp] theorem ty48 : cx.ty 48 = some ti48 := rfl
@[simp] theorem kd48 : cx.kd 48 = some (.struct [(23, 0), (3, 8), (3, 9)]) := rfl
@[simp] theorem ti48_sz : ti48.sz = 10 := rfl
@[simp] theorem ti48_agg : ti48.isAgg = true := rfl
@[simp] theorem ti48_known : ti48.known = true := rfl
@[simp] theorem ti48_kd : ti48.kd = .struct [(23, 0), (3, 8), (3, 9)] := rfl
@[simp] theorem ti48_by : ti48.by' = 88 := rfl
@[simp] theorem ti48_z : ti48.z = ofL [.str ⟨#[]⟩, .int .i64 0, .int .i64 0, .int .i64 0, .int .i64 0, .int .i64 0, .int .i64 0, .bool false, .int .i64 0, .int .i64 0] := z_ofL _ _ rfl
@[simp] theorem fs48_0 : fieldsA cx 48 0 = some (ti23, 0) := rfl
@[simp] theorem fs48_1 : fieldsA cx 48 1 = some (ti3, 8) := rfl
@[simp] theorem fs48_2 : fieldsA cx 48 2 = some (ti3, 9) := rfl
@[simp] theorem ty80 : cx.ty 80 = some ti80 := rfl
@[simp] theorem kd80 : cx.kd 80 = some (.slc 9) := rfl
@[simp] theorem ti80_sz : ti80.sz = 1 := rfl
@[simp] theorem ti80_agg : ti80.isAgg = false := rfl
@[simp] theorem ti80_known : ti80.known = true := rfl
@[simp] theorem ti80_kd : ti80.kd = .slc 9 := rfl
@[simp] theorem ti80_by : ti80.by' = 24 := rfl
@[simp] theorem ti80_z : ti80.z = ofL [.nils] := z_ofL _ _ rfl
@[simp] theorem ty97 : cx.ty 97 = some ti97 := rfl
@[simp] theorem kd97 : cx.kd 97 = some (.slc 42) := rfl
@[simp] theorem ti97_sz : ti97.sz = 1 := rfl
@[simp] theorem ti97_agg : ti97.isAgg = false := rfl
@[simp] theorem ti97_known : ti97.known = true := rfl
@[simp] theorem ti97_kd : ti97.kd = .slc 42 := rfl
@[simp] theorem ti97_by : ti97.by' = 24 := rfl
@[simp] theorem ti97_z : ti97.z = ofL [.nils] := z_ofL _ _ rfl
@[simp] theorem ty100 : cx.ty 100 = some ti100 := rfl
@[simp] theorem kd100 : cx.kd 100 = some (.ptr 102) := rfl
@[simp] theorem ti100_sz : ti100.sz = 1 := rfl
@[simp] theorem ti100_agg : ti100.isAgg = false := rfl
@[simp] theorem ti100_known : ti100.known = true := rfl
@[simp] theorem ti100_kd : ti100.kd = .ptr 102 := rfl
@[simp] theorem ti100_by : ti100.by' = 8 := rfl
@[simp] theorem ti100_z : ti100.z = ofL [.nilp] := z_ofL _ _ rfl
@[simp] theorem ty102 : cx.ty 102 = some ti102 := rfl
@[simp] theorem kd102 : cx.kd 102 = some (.struct [(24, 0)]) := rfl
@[simp] theorem ti102_sz : ti102.sz = 1 := rfl
@[simp] theorem ti102_agg : ti102.isAgg = true := rfl
@[simp] theorem ti102_known : ti102.known = true := rfl
@[simp] theorem ti102_kd : ti102.kd = .struct [(24, 0)] := rfl
@[simp] theorem ti102_by : ti102.by' = 24 := rfl
@[simp] theorem ti102_z : ti102.z = ofL [.nils] := z_ofL _ _ rfl
@[simp] theorem fs102_0 : fieldsA cx 102 0 = some (ti24, 0) := rfl
@[simp] theorem ty106 : cx.ty 106 = some ti106 := rfl
@[simp] theorem kd106 : cx.kd 106 = some (.int .u32) := rfl
@[simp] theorem ti106_sz : ti106.sz = 1 := rfl
@[simp] theorem ti106_agg : ti106.isAgg = false := rfl
@[simp] theorem ti106_known : ti106.known = true := rfl
@[simp] theorem ti106_kd : ti106.kd = .int .u32 := rfl
@[simp] theorem ti106_by : ti106.by' = 4 := rfl
@[simp] theorem ti106_z : ti106.z = ofL [.int .u32 0] := z_ofL _ _ rfl
@[simp] theorem ty112 : cx.ty 112 = some ti112 := rfl
@[simp] theorem kd112 : cx.kd 112 = some (.ptr 159) := rfl
@[simp] theorem ti112_sz : ti112.sz = 1 := rfl
@[simp] theorem ti112_agg : ti112.isAgg = false := rfl
@[simp] theorem ti112_known : ti112.known = true := rfl
@[simp] theorem ti112_kd : ti112.kd = .ptr 159 := rfl
@[simp] theorem ti112_by : ti112.by' = 8 := rfl
@[simp] theorem ti112_z : ti112.z = ofL [.nilp] := z_ofL _ _ rfl
@[simp] theorem ty123 : cx.ty 123 = some ti123 := rfl
@[simp] theorem kd123 : cx.kd 123 = some (.func) := rfl
@[simp] theorem ti123_sz : ti123.sz = 1 := rfl
@[simp] theorem ti123_agg : ti123.isAgg = false := rfl
@[simp] theorem ti123_known : ti123.known = true := rfl
@[simp] theorem ti123_kd : ti123.kd = .func := rfl
@[simp] theorem ti123_by : ti123.by' = 8 := rfl
@[simp] theorem ti123_z : ti123.z = ofL [.nilf] := z_ofL _ _ rfl
@[simp] theorem ty145 : cx.ty 145 = some ti145 := rfl
@[simp] theorem kd145 : cx.kd 145 = some (.ptr 147) := rfl
@[simp] theorem ti145_sz : ti145.sz = 1 := rfl
@[simp] theorem ti145_agg : ti145.isAgg = false := rfl
@[simp] theorem ti145_known : ti145.known = true := rfl
@[simp] theorem ti145_kd : ti145.kd = .ptr 147 := rfl
@[simp] theorem ti145_by : ti145.by' = 8 := rfl
@[simp] theorem ti145_z : ti145.z = ofL [.nilp] := z_ofL _ _ rfl
@[simp] theorem ty147 : cx.ty 147 = some ti147 := rfl
@[simp] theorem kd147 : cx.kd 147 = some (.struct [(24, 0)]) := rfl
@[simp] theorem ti147_sz : ti147.sz = 1 := rfl
@[simp] theorem ti147_agg : ti147.isAgg = true := rfl
@[simp] theorem ti147_known : ti147.known = true := rfl
@[simp] theorem ti147_kd : ti147.kd = .struct [(24, 0)] := rfl
@[simp] theorem ti147_by : ti147.by' = 24 := rfl
@[simp] theorem ti147_z : ti147.z = ofL [.nils] := z_ofL _ _ rfl
@[simp] theorem fs147_0 : fieldsA cx 147 0 = some (ti24, 0) := rfl
@[simp] theorem ty152 : cx.ty 152 = some ti152 := rfl
@[simp] theorem kd152 : cx.kd 152 = some (.int .u64) := rfl
@[simp] theorem ti152_sz : ti152.sz = 1 := rfl
@[simp] theorem ti152_agg : ti152.isAgg = false := rfl
@[simp] theorem ti152_known : ti152.known = true := rfl
@[simp] theorem ti152_kd : ti152.kd = .int .u64 := rfl
@[simp] theorem ti152_by : ti152.by' = 8 := rfl
@[simp] theorem ti152_z : ti152.z = ofL [.int .u64 0] := z_ofL _ _ rfl
@[simp] theorem ty159 : cx.ty 159 = some ti159 := rfl
@[simp] theorem kd159 : cx.kd 159 = some (.struct [(24, 0), (4, 1)]) := rfl
@[simp] theorem ti159_sz : ti159.sz = 2 := rfl
@[simp] theorem ti159_agg : ti159.isAgg = true := rfl
@[simp] theorem ti159_known : ti159.known = true := rfl
@[simp] theorem ti159_kd : ti159.kd = .struct [(24, 0), (4, 1)] := rfl
@[simp] theorem ti159_by : ti159.by' = 32 := rfl
@[simp] theorem ti159_z : ti159.z = ofL [.nils, .bool false] := z_ofL _ _ rfl
@[simp] theorem fs159_0 : fieldsA cx 159 0 = some (ti24, 0) := rfl
@[simp] theorem fs159_1 : fieldsA cx 159 1 = some (ti4, 1) := rfl
@[simp] theorem ty184 : cx.ty 184 = some ti184 := rfl
@[simp] theorem kd184 : cx.kd 184 = some (.ptr 215) := rfl
@[simp] theorem ti184_sz : ti184.sz = 1 := rfl
@[simp] theorem ti184_agg : ti184.isAgg = false := rfl
@[simp] theorem ti184_known : ti184.known = true := rfl
@[simp] theorem ti184_kd : ti184.kd = .ptr 215 := rfl
@[simp] theorem ti184_by : ti184.by' = 8 := rfl
@[simp] theorem ti184_z : ti184.z = ofL [.nilp] := z_ofL _ _ rfl
@[simp] theorem ty188 : cx.ty 188 = some ti188 := rfl
@[simp] theorem kd188 : cx.kd 188 = some (.ptr 3) := rfl
@[simp] theorem ti188_sz : ti188.sz = 1 := rfl
@[simp] theorem ti188_agg : ti188.isAgg = false := rfl
@[simp] theorem ti188_known : ti188.known = true := rfl
@[simp] theorem ti188_kd : ti188.kd = .ptr 3 := rfl
@[simp] theorem ti188_by : ti188.by' = 8 := rfl
@[simp] theorem ti188_z : ti188.z = ofL [.nilp] := z_ofL _ _ rfl
@[simp] theorem ty189 : cx.ty 189 = some ti189 := rfl
@[simp] theorem kd189 : cx.kd 189 = some (.slc 188) := rfl
@[simp] theorem ti189_sz : ti189.sz = 1 := rfl
@[simp] theorem ti189_agg : ti189.isAgg = false := rfl
@[simp] theorem ti189_known : ti189.known = true := rfl
@[simp] theorem ti189_kd : ti189.kd = .slc 188 := rfl
@[simp] theorem ti189_by : ti189.by' = 24 := rfl
@[simp] theorem ti189_z : ti189.z = ofL [.nils] := z_ofL _ _ rfl
@[simp] theorem ty201 : cx.ty 201 = some ti201 := rfl
@[simp] theorem kd201 : cx.kd 201 = some (.func) := rfl
@[simp] theorem ti201_sz : ti201.sz = 1 := rfl
@[simp] theorem ti201_agg : ti201.isAgg = false := rfl
@[simp] theorem ti201_known : ti201.known = true := rfl
@[simp] theorem ti201_kd : ti201.kd = .func := rfl
@[simp] theorem ti201_by : ti201.by' = 8 := rfl
@[simp] theorem ti201_z : ti201.z = ofL [.nilf] := z_ofL _ _ rfl
@[simp] theorem ty215 : cx.ty 215 = some ti215 := rfl
@[simp] theorem kd215 : cx.kd 215 = some (.struct [(24, 0), (4, 1)]) := rfl
@[simp] theorem ti215_sz : ti215.sz = 2 := rfl
@[simp] theorem ti215_agg : ti215.isAgg = true := rfl
@[simp] theorem ti215_known : ti215.known = true := rfl
@[simp] theorem ti215_kd : ti215.kd = .struct [(24, 0), (4, 1)] := rfl
@[simp] theorem ti215_by : ti215.by' = 32 := rfl
@[simp] theorem ti215_z : ti215.z = ofL [.nils, .bool false] := z_ofL _ _ rfl
@[simp] theorem fs215_0 : fieldsA cx 215 0 = some (ti24, 0) := rfl
@[simp] theorem fs215_1 : fieldsA cx 215 1 = some (ti4, 1) := rfl
end Go.Proofs.YtliahlgkinhjlaaDoor
