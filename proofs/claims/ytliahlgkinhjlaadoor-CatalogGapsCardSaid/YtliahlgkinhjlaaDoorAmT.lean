import Derived.Test.YtliahlgkinhjlaaDoorProg
import Derived.Test.YtliahlgkinhjlaaDoorLibB
import Derived.KernelRfl
/- The types that the walk reads; written by gen.py. -/
namespace Go.Proofs.YtliahlgkinhjlaaDoor
open Go.AM

def ti3 : TI := ⟨.int .i64, 1, 8, .int .i64 0⟩
def ti4 : TI := ⟨.bool, 1, 1, .bool false⟩
def ti5 : TI := ⟨.int .u8, 1, 1, .int .u8 0⟩
def ti9 : TI := ⟨.str, 1, 16, .string ⟨#[]⟩⟩
def ti23 : TI := ⟨.struct [(9, 0), (3, 1), (3, 2), (3, 3), (3, 4), (3, 5), (3, 6), (4, 7)], 8, 72, .agg #[.string ⟨#[]⟩, .int .i64 0, .int .i64 0, .int .i64 0, .int .i64 0, .int .i64 0, .int .i64 0, .bool false]⟩
def ti24 : TI := ⟨.slc 5, 1, 24, .slice none 0 0⟩
def ti26 : TI := ⟨.slc 24, 1, 24, .slice none 0 0⟩
def ti38 : TI := ⟨.struct [(3, 0), (3, 1), (26, 2), (4, 3)], 4, 48, .agg #[.int .i64 0, .int .i64 0, .slice none 0 0, .bool false]⟩
def ti44 : TI := ⟨.slc 48, 1, 24, .slice none 0 0⟩
def ti48 : TI := ⟨.struct [(23, 0), (3, 8), (3, 9)], 10, 88, .agg #[.string ⟨#[]⟩, .int .i64 0, .int .i64 0, .int .i64 0, .int .i64 0, .int .i64 0, .int .i64 0, .bool false, .int .i64 0, .int .i64 0]⟩
def ti57 : TI := ⟨.slc 38, 1, 24, .slice none 0 0⟩
def ti87 : TI := ⟨.slc 91, 1, 24, .slice none 0 0⟩
def ti91 : TI := ⟨.struct [(9, 0), (3, 1), (3, 2), (3, 3), (3, 4), (4, 5), (44, 6)], 7, 80, .agg #[.string ⟨#[]⟩, .int .i64 0, .int .i64 0, .int .i64 0, .int .i64 0, .bool false, .slice none 0 0]⟩
def ti134 : TI := ⟨.slc 23, 1, 24, .slice none 0 0⟩
def ti138 : TI := ⟨.func, 1, 8, .nilFunc⟩
def ti142 : TI := ⟨.func, 1, 8, .nilFunc⟩
def tyF : Nat → Option TI
  | 3 => some ti3
  | 4 => some ti4
  | 5 => some ti5
  | 9 => some ti9
  | 23 => some ti23
  | 24 => some ti24
  | 26 => some ti26
  | 38 => some ti38
  | 44 => some ti44
  | 48 => some ti48
  | 57 => some ti57
  | 87 => some ti87
  | 91 => some ti91
  | 134 => some ti134
  | 138 => some ti138
  | 142 => some ti142
  | _ => none

theorem tok3 : TyOK Tryd.prog 3 ti3 := ⟨Tryd.underlying3, by kernel_rfl, rfl⟩
theorem tok4 : TyOK Tryd.prog 4 ti4 := ⟨Tryd.underlying4, by kernel_rfl, rfl⟩
theorem tok5 : TyOK Tryd.prog 5 ti5 := ⟨Tryd.underlying5, by kernel_rfl, rfl⟩
theorem tok9 : TyOK Tryd.prog 9 ti9 := ⟨Tryd.underlying9, by kernel_rfl, rfl⟩
theorem tok23 : TyOK Tryd.prog 23 ti23 := ⟨⟨_, Tryd.underlying23, rfl, by kernel_rfl, by kernel_rfl, rfl⟩, by kernel_rfl, rfl⟩
theorem tok24 : TyOK Tryd.prog 24 ti24 := ⟨Tryd.underlying24, by kernel_rfl, rfl⟩
theorem tok26 : TyOK Tryd.prog 26 ti26 := ⟨Tryd.underlying26, by kernel_rfl, rfl⟩
theorem tok38 : TyOK Tryd.prog 38 ti38 := ⟨⟨_, Tryd.underlying38, rfl, by kernel_rfl, by kernel_rfl, rfl⟩, by kernel_rfl, rfl⟩
theorem tok44 : TyOK Tryd.prog 44 ti44 := ⟨Tryd.underlying44, by kernel_rfl, rfl⟩
theorem tok48 : TyOK Tryd.prog 48 ti48 := ⟨⟨_, Tryd.underlying48, rfl, by kernel_rfl, by kernel_rfl, rfl⟩, by kernel_rfl, rfl⟩
theorem tok57 : TyOK Tryd.prog 57 ti57 := ⟨Tryd.underlying57, by kernel_rfl, rfl⟩
theorem tok87 : TyOK Tryd.prog 87 ti87 := ⟨Tryd.underlying87, by kernel_rfl, rfl⟩
theorem tok91 : TyOK Tryd.prog 91 ti91 := ⟨⟨_, Tryd.underlying91, rfl, by kernel_rfl, by kernel_rfl, rfl⟩, by kernel_rfl, rfl⟩
theorem tok134 : TyOK Tryd.prog 134 ti134 := ⟨Tryd.underlying134, by kernel_rfl, rfl⟩
theorem tok138 : TyOK Tryd.prog 138 ti138 := ⟨⟨_, _, _, Tryd.underlying138⟩, by kernel_rfl, rfl⟩
theorem tok142 : TyOK Tryd.prog 142 ti142 := ⟨⟨_, _, _, Tryd.underlying142⟩, by kernel_rfl, rfl⟩
theorem tyF_ok (t : Nat) (i : TI) (h : tyF t = some i) : TyOK Tryd.prog t i := by
  unfold tyF at h
  split at h
  · injection h with h; subst h; exact tok3
  · injection h with h; subst h; exact tok4
  · injection h with h; subst h; exact tok5
  · injection h with h; subst h; exact tok9
  · injection h with h; subst h; exact tok23
  · injection h with h; subst h; exact tok24
  · injection h with h; subst h; exact tok26
  · injection h with h; subst h; exact tok38
  · injection h with h; subst h; exact tok44
  · injection h with h; subst h; exact tok48
  · injection h with h; subst h; exact tok57
  · injection h with h; subst h; exact tok87
  · injection h with h; subst h; exact tok91
  · injection h with h; subst h; exact tok134
  · injection h with h; subst h; exact tok138
  · injection h with h; subst h; exact tok142
  · cases h

noncomputable def cx : Cx := { P := Tryd.prog, ty := tyF, ok := tyF_ok }
theorem cx_P : cx.P = Tryd.prog := rfl
@[simp] theorem ty3 : cx.ty 3 = some ti3 := rfl
@[simp] theorem kd3 : cx.kd 3 = some (.int .i64) := rfl
@[simp] theorem ti3_sz : ti3.sz = 1 := rfl
@[simp] theorem ti3_agg : ti3.isAgg = false := rfl
@[simp] theorem ti3_known : ti3.known = true := rfl
@[simp] theorem ti3_kd : ti3.kd = .int .i64 := rfl
@[simp] theorem ti3_by : ti3.by' = 8 := rfl
@[simp] theorem ti3_z : ti3.z = ofL [.int .i64 0] := z_ofL _ _ rfl
@[simp] theorem ty4 : cx.ty 4 = some ti4 := rfl
@[simp] theorem kd4 : cx.kd 4 = some (.bool) := rfl
@[simp] theorem ti4_sz : ti4.sz = 1 := rfl
@[simp] theorem ti4_agg : ti4.isAgg = false := rfl
@[simp] theorem ti4_known : ti4.known = true := rfl
@[simp] theorem ti4_kd : ti4.kd = .bool := rfl
@[simp] theorem ti4_by : ti4.by' = 1 := rfl
@[simp] theorem ti4_z : ti4.z = ofL [.bool false] := z_ofL _ _ rfl
@[simp] theorem ty5 : cx.ty 5 = some ti5 := rfl
@[simp] theorem kd5 : cx.kd 5 = some (.int .u8) := rfl
@[simp] theorem ti5_sz : ti5.sz = 1 := rfl
@[simp] theorem ti5_agg : ti5.isAgg = false := rfl
@[simp] theorem ti5_known : ti5.known = true := rfl
@[simp] theorem ti5_kd : ti5.kd = .int .u8 := rfl
@[simp] theorem ti5_by : ti5.by' = 1 := rfl
@[simp] theorem ti5_z : ti5.z = ofL [.int .u8 0] := z_ofL _ _ rfl
@[simp] theorem ty9 : cx.ty 9 = some ti9 := rfl
@[simp] theorem kd9 : cx.kd 9 = some (.str) := rfl
@[simp] theorem ti9_sz : ti9.sz = 1 := rfl
@[simp] theorem ti9_agg : ti9.isAgg = false := rfl
@[simp] theorem ti9_known : ti9.known = true := rfl
@[simp] theorem ti9_kd : ti9.kd = .str := rfl
@[simp] theorem ti9_by : ti9.by' = 16 := rfl
@[simp] theorem ti9_z : ti9.z = ofL [.str ⟨#[]⟩] := z_ofL _ _ rfl
@[simp] theorem ty23 : cx.ty 23 = some ti23 := rfl
@[simp] theorem kd23 : cx.kd 23 = some (.struct [(9, 0), (3, 1), (3, 2), (3, 3), (3, 4), (3, 5), (3, 6), (4, 7)]) := rfl
@[simp] theorem ti23_sz : ti23.sz = 8 := rfl
@[simp] theorem ti23_agg : ti23.isAgg = true := rfl
@[simp] theorem ti23_known : ti23.known = true := rfl
@[simp] theorem ti23_kd : ti23.kd = .struct [(9, 0), (3, 1), (3, 2), (3, 3), (3, 4), (3, 5), (3, 6), (4, 7)] := rfl
@[simp] theorem ti23_by : ti23.by' = 72 := rfl
@[simp] theorem ti23_z : ti23.z = ofL [.str ⟨#[]⟩, .int .i64 0, .int .i64 0, .int .i64 0, .int .i64 0, .int .i64 0, .int .i64 0, .bool false] := z_ofL _ _ rfl
@[simp] theorem fs23_0 : fieldsA cx 23 0 = some (ti9, 0) := rfl
@[simp] theorem fs23_1 : fieldsA cx 23 1 = some (ti3, 1) := rfl
@[simp] theorem fs23_2 : fieldsA cx 23 2 = some (ti3, 2) := rfl
@[simp] theorem fs23_3 : fieldsA cx 23 3 = some (ti3, 3) := rfl
@[simp] theorem fs23_4 : fieldsA cx 23 4 = some (ti3, 4) := rfl
@[simp] theorem fs23_5 : fieldsA cx 23 5 = some (ti3, 5) := rfl
@[simp] theorem fs23_6 : fieldsA cx 23 6 = some (ti3, 6) := rfl
@[simp] theorem fs23_7 : fieldsA cx 23 7 = some (ti4, 7) := rfl
@[simp] theorem ty24 : cx.ty 24 = some ti24 := rfl
@[simp] theorem kd24 : cx.kd 24 = some (.slc 5) := rfl
@[simp] theorem ti24_sz : ti24.sz = 1 := rfl
@[simp] theorem ti24_agg : ti24.isAgg = false := rfl
@[simp] theorem ti24_known : ti24.known = true := rfl
@[simp] theorem ti24_kd : ti24.kd = .slc 5 := rfl
@[simp] theorem ti24_by : ti24.by' = 24 := rfl
@[simp] theorem ti24_z : ti24.z = ofL [.nils] := z_ofL _ _ rfl
@[simp] theorem ty26 : cx.ty 26 = some ti26 := rfl
@[simp] theorem kd26 : cx.kd 26 = some (.slc 24) := rfl
@[simp] theorem ti26_sz : ti26.sz = 1 := rfl
@[simp] theorem ti26_agg : ti26.isAgg = false := rfl
@[simp] theorem ti26_known : ti26.known = true := rfl
@[simp] theorem ti26_kd : ti26.kd = .slc 24 := rfl
@[simp] theorem ti26_by : ti26.by' = 24 := rfl
@[simp] theorem ti26_z : ti26.z = ofL [.nils] := z_ofL _ _ rfl
@[simp] theorem ty38 : cx.ty 38 = some ti38 := rfl
@[simp] theorem kd38 : cx.kd 38 = some (.struct [(3, 0), (3, 1), (26, 2), (4, 3)]) := rfl
@[simp] theorem ti38_sz : ti38.sz = 4 := rfl
@[simp] theorem ti38_agg : ti38.isAgg = true := rfl
@[simp] theorem ti38_known : ti38.known = true := rfl
@[simp] theorem ti38_kd : ti38.kd = .struct [(3, 0), (3, 1), (26, 2), (4, 3)] := rfl
@[simp] theorem ti38_by : ti38.by' = 48 := rfl
@[simp] theorem ti38_z : ti38.z = ofL [.int .i64 0, .int .i64 0, .nils, .bool false] := z_ofL _ _ rfl
@[simp] theorem fs38_0 : fieldsA cx 38 0 = some (ti3, 0) := rfl
@[simp] theorem fs38_1 : fieldsA cx 38 1 = some (ti3, 1) := rfl
@[simp] theorem fs38_2 : fieldsA cx 38 2 = some (ti26, 2) := rfl
@[simp] theorem fs38_3 : fieldsA cx 38 3 = some (ti4, 3) := rfl
@[simp] theorem ty44 : cx.ty 44 = some ti44 := rfl
@[simp] theorem kd44 : cx.kd 44 = some (.slc 48) := rfl
@[simp] theorem ti44_sz : ti44.sz = 1 := rfl
@[simp] theorem ti44_agg : ti44.isAgg = false := rfl
@[simp] theorem ti44_known : ti44.known = true := rfl
@[simp] theorem ti44_kd : ti44.kd = .slc 48 := rfl
@[simp] theorem ti44_by : ti44.by' = 24 := rfl
@[simp] theorem ti44_z : ti44.z = ofL [.nils] := z_ofL _ _ rfl
@[simp] theorem ty48 : cx.ty 48 = some ti48 := rfl
@[simp] theorem kd48 : cx.kd 48 = some (.struct [(23, 0), (3, 8), (3, 9)]) := rfl
@[simp] theorem ti48_sz : ti48.sz = 10 := rfl
@[simp] theorem ti48_agg : ti48.isAgg = true := rfl
@[simp] theorem ti48_known : ti48.known = true := rfl
@[simp] theorem ti48_kd : ti48.kd = .struct [(23, 0), (3, 8), (3, 9)] := rfl
@[simp] theorem ti48_by : ti48.by' = 88 := rfl
@[simp] theorem ti48_z : ti48.z = ofL [.str ⟨#[]⟩, .int .i64 0, .int .i64 0, .int .i64 0, .int .i64 0, .int .i64 0, .int .i64 0, .bool false, .int .i64 0, .int .i64 0] := z_ofL _ _ rfl
@[simp] theorem fs48_0 : fieldsA cx 48 0 = some (ti23, 0) := rfl
@[simp] theorem fs48_1 : fieldsA cx 48 1 = some (ti3, 8) := rfl
@[simp] theorem fs48_2 : fieldsA cx 48 2 = some (ti3, 9) := rfl
@[simp] theorem ty57 : cx.ty 57 = some ti57 := rfl
@[simp] theorem kd57 : cx.kd 57 = some (.slc 38) := rfl
@[simp] theorem ti57_sz : ti57.sz = 1 := rfl
@[simp] theorem ti57_agg : ti57.isAgg = false := rfl
@[simp] theorem ti57_known : ti57.known = true := rfl
@[simp] theorem ti57_kd : ti57.kd = .slc 38 := rfl
@[simp] theorem ti57_by : ti57.by' = 24 := rfl
@[simp] theorem ti57_z : ti57.z = ofL [.nils] := z_ofL _ _ rfl
@[simp] theorem ty87 : cx.ty 87 = some ti87 := rfl
@[simp] theorem kd87 : cx.kd 87 = some (.slc 91) := rfl
@[simp] theorem ti87_sz : ti87.sz = 1 := rfl
@[simp] theorem ti87_agg : ti87.isAgg = false := rfl
@[simp] theorem ti87_known : ti87.known = true := rfl
@[simp] theorem ti87_kd : ti87.kd = .slc 91 := rfl
@[simp] theorem ti87_by : ti87.by' = 24 := rfl
@[simp] theorem ti87_z : ti87.z = ofL [.nils] := z_ofL _ _ rfl
@[simp] theorem ty91 : cx.ty 91 = some ti91 := rfl
@[simp] theorem kd91 : cx.kd 91 = some (.struct [(9, 0), (3, 1), (3, 2), (3, 3), (3, 4), (4, 5), (44, 6)]) := rfl
@[simp] theorem ti91_sz : ti91.sz = 7 := rfl
@[simp] theorem ti91_agg : ti91.isAgg = true := rfl
@[simp] theorem ti91_known : ti91.known = true := rfl
@[simp] theorem ti91_kd : ti91.kd = .struct [(9, 0), (3, 1), (3, 2), (3, 3), (3, 4), (4, 5), (44, 6)] := rfl
@[simp] theorem ti91_by : ti91.by' = 80 := rfl
@[simp] theorem ti91_z : ti91.z = ofL [.str ⟨#[]⟩, .int .i64 0, .int .i64 0, .int .i64 0, .int .i64 0, .bool false, .nils] := z_ofL _ _ rfl
@[simp] theorem fs91_0 : fieldsA cx 91 0 = some (ti9, 0) := rfl
@[simp] theorem fs91_1 : fieldsA cx 91 1 = some (ti3, 1) := rfl
@[simp] theorem fs91_2 : fieldsA cx 91 2 = some (ti3, 2) := rfl
@[simp] theorem fs91_3 : fieldsA cx 91 3 = some (ti3, 3) := rfl
@[simp] theorem fs91_4 : fieldsA cx 91 4 = some (ti3, 4) := rfl
@[simp] theorem fs91_5 : fieldsA cx 91 5 = some (ti4, 5) := rfl
@[simp] theorem fs91_6 : fieldsA cx 91 6 = some (ti44, 6) := rfl
@[simp] theorem ty134 : cx.ty 134 = some ti134 := rfl
@[simp] theorem kd134 : cx.kd 134 = some (.slc 23) := rfl
@[simp] theorem ti134_sz : ti134.sz = 1 := rfl
@[simp] theorem ti134_agg : ti134.isAgg = false := rfl
@[simp] theorem ti134_known : ti134.known = true := rfl
@[simp] theorem ti134_kd : ti134.kd = .slc 23 := rfl
@[simp] theorem ti134_by : ti134.by' = 24 := rfl
@[simp] theorem ti134_z : ti134.z = ofL [.nils] := z_ofL _ _ rfl
@[simp] theorem ty138 : cx.ty 138 = some ti138 := rfl
@[simp] theorem kd138 : cx.kd 138 = some (.func) := rfl
@[simp] theorem ti138_sz : ti138.sz = 1 := rfl
@[simp] theorem ti138_agg : ti138.isAgg = false := rfl
@[simp] theorem ti138_known : ti138.known = true := rfl
@[simp] theorem ti138_kd : ti138.kd = .func := rfl
@[simp] theorem ti138_by : ti138.by' = 8 := rfl
@[simp] theorem ti138_z : ti138.z = ofL [.nilf] := z_ofL _ _ rfl
@[simp] theorem ty142 : cx.ty 142 = some ti142 := rfl
@[simp] theorem kd142 : cx.kd 142 = some (.func) := rfl
@[simp] theorem ti142_sz : ti142.sz = 1 := rfl
@[simp] theorem ti142_agg : ti142.isAgg = false := rfl
@[simp] theorem ti142_known : ti142.known = true := rfl
@[simp] theorem ti142_kd : ti142.kd = .func := rfl
@[simp] theorem ti142_by : ti142.by' = 8 := rfl
@[simp] theorem ti142_z : ti142.z = ofL [.nilf] := z_ofL _ _ rfl
end Go.Proofs.YtliahlgkinhjlaaDoor
