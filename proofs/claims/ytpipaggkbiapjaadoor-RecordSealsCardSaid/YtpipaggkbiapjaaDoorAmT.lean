import Derived.Test.YtpipaggkbiapjaaDoorProg
import Derived.Test.YtpipaggkbiapjaaDoorLibB
import Derived.KernelRfl
/- The types that the walk reads; written by gen.py. -/
namespace Go.Proofs.YtpipaggkbiapjaaDoor
open Go.AM

def ti3 : TI := ⟨.int .i64, 1, 8, .int .i64 0⟩
def ti4 : TI := ⟨.bool, 1, 1, .bool false⟩
def ti5 : TI := ⟨.int .u8, 1, 1, .int .u8 0⟩
def ti9 : TI := ⟨.str, 1, 16, .string ⟨#[]⟩⟩
def ti21 : TI := ⟨.int .i32, 1, 4, .int .i32 0⟩
def ti23 : TI := ⟨.func, 1, 8, .nilFunc⟩
def ti25 : TI := ⟨.slc 9, 1, 24, .slice none 0 0⟩
def ti31 : TI := ⟨.struct [(9, 0), (3, 1), (3, 2), (3, 3), (3, 4), (3, 5), (3, 6), (4, 7)], 8, 72, .agg #[.string ⟨#[]⟩, .int .i64 0, .int .i64 0, .int .i64 0, .int .i64 0, .int .i64 0, .int .i64 0, .bool false]⟩
def ti32 : TI := ⟨.slc 5, 1, 24, .slice none 0 0⟩
def ti35 : TI := ⟨.int .i64, 1, 8, .int .i64 0⟩
def ti43 : TI := ⟨.slc 3, 1, 24, .slice none 0 0⟩
def ti45 : TI := ⟨.struct [(3, 0), (3, 1), (3, 2), (3, 3), (43, 4)], 5, 56, .agg #[.int .i64 0, .int .i64 0, .int .i64 0, .int .i64 0, .slice none 0 0]⟩
def ti57 : TI := ⟨.ptr 59, 1, 8, .pointer none⟩
def ti59 : TI := ⟨.struct [(32, 0)], 1, 24, .agg #[.slice none 0 0]⟩
def ti64 : TI := ⟨.ptr 87, 1, 8, .pointer none⟩
def ti67 : TI := ⟨.ptr 3, 1, 8, .pointer none⟩
def ti68 : TI := ⟨.slc 67, 1, 24, .slice none 0 0⟩
def ti72 : TI := ⟨.ptr 90, 1, 8, .pointer none⟩
def ti75 : TI := ⟨.ptr 77, 1, 8, .pointer none⟩
def ti77 : TI := ⟨.struct [(32, 0)], 1, 24, .agg #[.slice none 0 0]⟩
def ti82 : TI := ⟨.func, 1, 8, .nilFunc⟩
def ti83 : TI := ⟨.int .u32, 1, 4, .int .u32 0⟩
def ti87 : TI := ⟨.struct [(32, 0), (4, 1)], 2, 32, .agg #[.slice none 0 0, .bool false]⟩
def ti90 : TI := ⟨.struct [(32, 0), (4, 1)], 2, 32, .agg #[.slice none 0 0, .bool false]⟩
def ti91 : TI := ⟨.int .u64, 1, 8, .int .u64 0⟩
def tyF : Nat → Option TI
  | 3 => some ti3
  | 4 => some ti4
  | 5 => some ti5
  | 9 => some ti9
  | 21 => some ti21
  | 23 => some ti23
  | 25 => some ti25
  | 31 => some ti31
  | 32 => some ti32
  | 35 => some ti35
  | 43 => some ti43
  | 45 => some ti45
  | 57 => some ti57
  | 59 => some ti59
  | 64 => some ti64
  | 67 => some ti67
  | 68 => some ti68
  | 72 => some ti72
  | 75 => some ti75
  | 77 => some ti77
  | 82 => some ti82
  | 83 => some ti83
  | 87 => some ti87
  | 90 => some ti90
  | 91 => some ti91
  | _ => none

theorem tok3 : TyOK Tryd.prog 3 ti3 := ⟨Tryd.underlying3, by kernel_rfl, rfl⟩
theorem tok4 : TyOK Tryd.prog 4 ti4 := ⟨Tryd.underlying4, by kernel_rfl, rfl⟩
theorem tok5 : TyOK Tryd.prog 5 ti5 := ⟨Tryd.underlying5, by kernel_rfl, rfl⟩
theorem tok9 : TyOK Tryd.prog 9 ti9 := ⟨Tryd.underlying9, by kernel_rfl, rfl⟩
theorem tok21 : TyOK Tryd.prog 21 ti21 := ⟨Tryd.underlying21, by kernel_rfl, rfl⟩
theorem tok23 : TyOK Tryd.prog 23 ti23 := ⟨⟨_, _, _, Tryd.underlying23⟩, by kernel_rfl, rfl⟩
theorem tok25 : TyOK Tryd.prog 25 ti25 := ⟨Tryd.underlying25, by kernel_rfl, rfl⟩
theorem tok31 : TyOK Tryd.prog 31 ti31 := ⟨⟨_, Tryd.underlying31, rfl, by kernel_rfl, by kernel_rfl, rfl⟩, by kernel_rfl, rfl⟩
theorem tok32 : TyOK Tryd.prog 32 ti32 := ⟨Tryd.underlying32, by kernel_rfl, rfl⟩
theorem tok35 : TyOK Tryd.prog 35 ti35 := ⟨Tryd.underlying35, by kernel_rfl, rfl⟩
theorem tok43 : TyOK Tryd.prog 43 ti43 := ⟨Tryd.underlying43, by kernel_rfl, rfl⟩
theorem tok45 : TyOK Tryd.prog 45 ti45 := ⟨⟨_, Tryd.underlying45, rfl, by kernel_rfl, by kernel_rfl, rfl⟩, by kernel_rfl, rfl⟩
theorem tok57 : TyOK Tryd.prog 57 ti57 := ⟨Tryd.underlying57, by kernel_rfl, rfl⟩
theorem tok59 : TyOK Tryd.prog 59 ti59 := ⟨⟨_, Tryd.underlying59, rfl, by kernel_rfl, by kernel_rfl, rfl⟩, by kernel_rfl, rfl⟩
theorem tok64 : TyOK Tryd.prog 64 ti64 := ⟨Tryd.underlying64, by kernel_rfl, rfl⟩
theorem tok67 : TyOK Tryd.prog 67 ti67 := ⟨Tryd.underlying67, by kernel_rfl, rfl⟩
theorem tok68 : TyOK Tryd.prog 68 ti68 := ⟨Tryd.underlying68, by kernel_rfl, rfl⟩
theorem tok72 : TyOK Tryd.prog 72 ti72 := ⟨Tryd.underlying72, by kernel_rfl, rfl⟩
theorem tok75 : TyOK Tryd.prog 75 ti75 := ⟨Tryd.underlying75, by kernel_rfl, rfl⟩
theorem tok77 : TyOK Tryd.prog 77 ti77 := ⟨⟨_, Tryd.underlying77, rfl, by kernel_rfl, by kernel_rfl, rfl⟩, by kernel_rfl, rfl⟩
theorem tok82 : TyOK Tryd.prog 82 ti82 := ⟨⟨_, _, _, Tryd.underlying82⟩, by kernel_rfl, rfl⟩
theorem tok83 : TyOK Tryd.prog 83 ti83 := ⟨Tryd.underlying83, by kernel_rfl, rfl⟩
theorem tok87 : TyOK Tryd.prog 87 ti87 := ⟨⟨_, Tryd.underlying87, rfl, by kernel_rfl, by kernel_rfl, rfl⟩, by kernel_rfl, rfl⟩
theorem tok90 : TyOK Tryd.prog 90 ti90 := ⟨⟨_, Tryd.underlying90, rfl, by kernel_rfl, by kernel_rfl, rfl⟩, by kernel_rfl, rfl⟩
theorem tok91 : TyOK Tryd.prog 91 ti91 := ⟨Tryd.underlying91, by kernel_rfl, rfl⟩
theorem tyF_ok (t : Nat) (i : TI) (h : tyF t = some i) : TyOK Tryd.prog t i := by
  unfold tyF at h
  split at h
  · injection h with h; subst h; exact tok3
  · injection h with h; subst h; exact tok4
  · injection h with h; subst h; exact tok5
  · injection h with h; subst h; exact tok9
  · injection h with h; subst h; exact tok21
  · injection h with h; subst h; exact tok23
  · injection h with h; subst h; exact tok25
  · injection h with h; subst h; exact tok31
  · injection h with h; subst h; exact tok32
  · injection h with h; subst h; exact tok35
  · injection h with h; subst h; exact tok43
  · injection h with h; subst h; exact tok45
  · injection h with h; subst h; exact tok57
  · injection h with h; subst h; exact tok59
  · injection h with h; subst h; exact tok64
  · injection h with h; subst h; exact tok67
  · injection h with h; subst h; exact tok68
  · injection h with h; subst h; exact tok72
  · injection h with h; subst h; exact tok75
  · injection h with h; subst h; exact tok77
  · injection h with h; subst h; exact tok82
  · injection h with h; subst h; exact tok83
  · injection h with h; subst h; exact tok87
  · injection h with h; subst h; exact tok90
  · injection h with h; subst h; exact tok91
  · cases h

noncomputable def cx : Cx := { P := Tryd.prog, ty := tyF, ok := tyF_ok }
theorem cx_P : cx.P = Tryd.prog := rfl
@[simp] theorem ty3 : cx.ty 3 = some ti3 := rfl
@[simp] theorem kd3 : cx.kd 3 = some (.int .i64) := rfl
@[simp] theorem ti3_sz : ti3.sz = 1 := rfl
@[simp] theorem ti3_agg : ti3.isAgg = false := rfl
@[simp] theorem ti3_known : ti3.known = true := rfl
@[simp] theorem ti3_kd : ti3.kd = .int .i64 := rfl
@[simp] theorem ti3_by : ti3.by' = 8 := rfl
@[simp] theorem ti3_z : ti3.z = ofL [.int .i64 0] := z_ofL _ _ rfl
@[simp] theorem ty4 : cx.ty 4 = some ti4 := rfl
@[simp] theorem kd4 : cx.kd 4 = some (.bool) := rfl
@[simp] theorem ti4_sz : ti4.sz = 1 := rfl
@[simp] theorem ti4_agg : ti4.isAgg = false := rfl
@[simp] theorem ti4_known : ti4.known = true := rfl
@[simp] theorem ti4_kd : ti4.kd = .bool := rfl
@[simp] theorem ti4_by : ti4.by' = 1 := rfl
@[simp] theorem ti4_z : ti4.z = ofL [.bool false] := z_ofL _ _ rfl
@[simp] theorem ty5 : cx.ty 5 = some ti5 := rfl
@[simp] theorem kd5 : cx.kd 5 = some (.int .u8) := rfl
@[simp] theorem ti5_sz : ti5.sz = 1 := rfl
@[simp] theorem ti5_agg : ti5.isAgg = false := rfl
@[simp] theorem ti5_known : ti5.known = true := rfl
@[simp] theorem ti5_kd : ti5.kd = .int .u8 := rfl
@[simp] theorem ti5_by : ti5.by' = 1 := rfl
@[simp] theorem ti5_z : ti5.z = ofL [.int .u8 0] := z_ofL _ _ rfl
@[simp] theorem ty9 : cx.ty 9 = some ti9 := rfl
@[simp] theorem kd9 : cx.kd 9 = some (.str) := rfl
@[simp] theorem ti9_sz : ti9.sz = 1 := rfl
@[simp] theorem ti9_agg : ti9.isAgg = false := rfl
@[simp] theorem ti9_known : ti9.known = true := rfl
@[simp] theorem ti9_kd : ti9.kd = .str := rfl
@[simp] theorem ti9_by : ti9.by' = 16 := rfl
@[simp] theorem ti9_z : ti9.z = ofL [.str ⟨#[]⟩] := z_ofL _ _ rfl
@[simp] theorem ty21 : cx.ty 21 = some ti21 := rfl
@[simp] theorem kd21 : cx.kd 21 = some (.int .i32) := rfl
@[simp] theorem ti21_sz : ti21.sz = 1 := rfl
@[simp] theorem ti21_agg : ti21.isAgg = false := rfl
@[simp] theorem ti21_known : ti21.known = true := rfl
@[simp] theorem ti21_kd : ti21.kd = .int .i32 := rfl
@[simp] theorem ti21_by : ti21.by' = 4 := rfl
@[simp] theorem ti21_z : ti21.z = ofL [.int .i32 0] := z_ofL _ _ rfl
@[simp] theorem ty23 : cx.ty 23 = some ti23 := rfl
@[simp] theorem kd23 : cx.kd 23 = some (.func) := rfl
@[simp] theorem ti23_sz : ti23.sz = 1 := rfl
@[simp] theorem ti23_agg : ti23.isAgg = false := rfl
@[simp] theorem ti23_known : ti23.known = true := rfl
@[simp] theorem ti23_kd : ti23.kd = .func := rfl
@[simp] theorem ti23_by : ti23.by' = 8 := rfl
@[simp] theorem ti23_z : ti23.z = ofL [.nilf] := z_ofL _ _ rfl
@[simp] theorem ty25 : cx.ty 25 = some ti25 := rfl
@[simp] theorem kd25 : cx.kd 25 = some (.slc 9) := rfl
@[simp] theorem ti25_sz : ti25.sz = 1 := rfl
@[simp] theorem ti25_agg : ti25.isAgg = false := rfl
@[simp] theorem ti25_known : ti25.known = true := rfl
@[simp] theorem ti25_kd : ti25.kd = .slc 9 := rfl
@[simp] theorem ti25_by : ti25.by' = 24 := rfl
@[simp] theorem ti25_z : ti25.z = ofL [.nils] := z_ofL _ _ rfl
@[simp] theorem ty31 : cx.ty 31 = some ti31 := rfl
@[simp] theorem kd31 : cx.kd 31 = some (.struct [(9, 0), (3, 1), (3, 2), (3, 3), (3, 4), (3, 5), (3, 6), (4, 7)]) := rfl
@[simp] theorem ti31_sz : ti31.sz = 8 := rfl
@[simp] theorem ti31_agg : ti31.isAgg = true := rfl
@[simp] theorem ti31_known : ti31.known = true := rfl
@[simp] theorem ti31_kd : ti31.kd = .struct [(9, 0), (3, 1), (3, 2), (3, 3), (3, 4), (3, 5), (3, 6), (4, 7)] := rfl
@[simp] theorem ti31_by : ti31.by' = 72 := rfl
@[simp] theorem ti31_z : ti31.z = ofL [.str ⟨#[]⟩, .int .i64 0, .int .i64 0, .int .i64 0, .int .i64 0, .int .i64 0, .int .i64 0, .bool false] := z_ofL _ _ rfl
@[simp] theorem fs31_0 : fieldsA cx 31 0 = some (ti9, 0) := rfl
@[simp] theorem fs31_1 : fieldsA cx 31 1 = some (ti3, 1) := rfl
@[simp] theorem fs31_2 : fieldsA cx 31 2 = some (ti3, 2) := rfl
@[simp] theorem fs31_3 : fieldsA cx 31 3 = some (ti3, 3) := rfl
@[simp] theorem fs31_4 : fieldsA cx 31 4 = some (ti3, 4) := rfl
@[simp] theorem fs31_5 : fieldsA cx 31 5 = some (ti3, 5) := rfl
@[simp] theorem fs31_6 : fieldsA cx 31 6 = some (ti3, 6) := rfl
@[simp] theorem fs31_7 : fieldsA cx 31 7 = some (ti4, 7) := rfl
@[simp] theorem ty32 : cx.ty 32 = some ti32 := rfl
@[simp] theorem kd32 : cx.kd 32 = some (.slc 5) := rfl
@[simp] theorem ti32_sz : ti32.sz = 1 := rfl
@[simp] theorem ti32_agg : ti32.isAgg = false := rfl
@[simp] theorem ti32_known : ti32.known = true := rfl
@[simp] theorem ti32_kd : ti32.kd = .slc 5 := rfl
@[simp] theorem ti32_by : ti32.by' = 24 := rfl
@[simp] theorem ti32_z : ti32.z = ofL [.nils] := z_ofL _ _ rfl
@[simp] theorem ty35 : cx.ty 35 = some ti35 := rfl
@[simp] theorem kd35 : cx.kd 35 = some (.int .i64) := rfl
@[simp] theorem ti35_sz : ti35.sz = 1 := rfl
@[simp] theorem ti35_agg : ti35.isAgg = false := rfl
@[simp] theorem ti35_known : ti35.known = true := rfl
@[simp] theorem ti35_kd : ti35.kd = .int .i64 := rfl
@[simp] theorem ti35_by : ti35.by' = 8 := rfl
@[simp] theorem ti35_z : ti35.z = ofL [.int .i64 0] := z_ofL _ _ rfl
@[simp] theorem ty43 : cx.ty 43 = some ti43 := rfl
@[simp] theorem kd43 : cx.kd 43 = some (.slc 3) := rfl
@[simp] theorem ti43_sz : ti43.sz = 1 := rfl
@[simp] theorem ti43_agg : ti43.isAgg = false := rfl
@[simp] theorem ti43_known : ti43.known = true := rfl
@[simp] theorem ti43_kd : ti43.kd = .slc 3 := rfl
@[simp] theorem ti43_by : ti43.by' = 24 := rfl
@[simp] theorem ti43_z : ti43.z = ofL [.nils] := z_ofL _ _ rfl
@[simp] theorem ty45 : cx.ty 45 = some ti45 := rfl
@[simp] theorem kd45 : cx.kd 45 = some (.struct [(3, 0), (3, 1), (3, 2), (3, 3), (43, 4)]) := rfl
@[simp] theorem ti45_sz : ti45.sz = 5 := rfl
@[simp] theorem ti45_agg : ti45.isAgg = true := rfl
@[simp] theorem ti45_known : ti45.known = true := rfl
@[simp] theorem ti45_kd : ti45.kd = .struct [(3, 0), (3, 1), (3, 2), (3, 3), (43, 4)] := rfl
@[simp] theorem ti45_by : ti45.by' = 56 := rfl
@[simp] theorem ti45_z : ti45.z = ofL [.int .i64 0, .int .i64 0, .int .i64 0, .int .i64 0, .nils] := z_ofL _ _ rfl
@[simp] theorem fs45_0 : fieldsA cx 45 0 = some (ti3, 0) := rfl
@[simp] theorem fs45_1 : fieldsA cx 45 1 = some (ti3, 1) := rfl
@[simp] theorem fs45_2 : fieldsA cx 45 2 = some (ti3, 2) := rfl
@[simp] theorem fs45_3 : fieldsA cx 45 3 = some (ti3, 3) := rfl
@[simp] theorem fs45_4 : fieldsA cx 45 4 = some (ti43, 4) := rfl
@[simp] theorem ty57 : cx.ty 57 = some ti57 := rfl
@[simp] theorem kd57 : cx.kd 57 = some (.ptr 59) := rfl
@[simp] theorem ti57_sz : ti57.sz = 1 := rfl
@[simp] theorem ti57_agg : ti57.isAgg = false := rfl
@[simp] theorem ti57_known : ti57.known = true := rfl
@[simp] theorem ti57_kd : ti57.kd = .ptr 59 := rfl
@[simp] theorem ti57_by : ti57.by' = 8 := rfl
@[simp] theorem ti57_z : ti57.z = ofL [.nilp] := z_ofL _ _ rfl
@[simp] theorem ty59 : cx.ty 59 = some ti59 := rfl
@[simp] theorem kd59 : cx.kd 59 = some (.struct [(32, 0)]) := rfl
@[simp] theorem ti59_sz : ti59.sz = 1 := rfl
@[simp] theorem ti59_agg : ti59.isAgg = true := rfl
@[simp] theorem ti59_known : ti59.known = true := rfl
@[simp] theorem ti59_kd : ti59.kd = .struct [(32, 0)] := rfl
@[simp] theorem ti59_by : ti59.by' = 24 := rfl
@[simp] theorem ti59_z : ti59.z = ofL [.nils] := z_ofL _ _ rfl
@[simp] theorem fs59_0 : fieldsA cx 59 0 = some (ti32, 0) := rfl
@[simp] theorem ty64 : cx.ty 64 = some ti64 := rfl
@[simp] theorem kd64 : cx.kd 64 = some (.ptr 87) := rfl
@[simp] theorem ti64_sz : ti64.sz = 1 := rfl
@[simp] theorem ti64_agg : ti64.isAgg = false := rfl
@[simp] theorem ti64_known : ti64.known = true := rfl
@[simp] theorem ti64_kd : ti64.kd = .ptr 87 := rfl
@[simp] theorem ti64_by : ti64.by' = 8 := rfl
@[simp] theorem ti64_z : ti64.z = ofL [.nilp] := z_ofL _ _ rfl
@[simp] theorem ty67 : cx.ty 67 = some ti67 := rfl
@[simp] theorem kd67 : cx.kd 67 = some (.ptr 3) := rfl
@[simp] theorem ti67_sz : ti67.sz = 1 := rfl
@[simp] theorem ti67_agg : ti67.isAgg = false := rfl
@[simp] theorem ti67_known : ti67.known = true := rfl
@[simp] theorem ti67_kd : ti67.kd = .ptr 3 := rfl
@[simp] theorem ti67_by : ti67.by' = 8 := rfl
@[simp] theorem ti67_z : ti67.z = ofL [.nilp] := z_ofL _ _ rfl
@[simp] theorem ty68 : cx.ty 68 = some ti68 := rfl
@[simp] theorem kd68 : cx.kd 68 = some (.slc 67) := rfl
@[simp] theorem ti68_sz : ti68.sz = 1 := rfl
@[simp] theorem ti68_agg : ti68.isAgg = false := rfl
@[simp] theorem ti68_known : ti68.known = true := rfl
@[simp] theorem ti68_kd : ti68.kd = .slc 67 := rfl
@[simp] theorem ti68_by : ti68.by' = 24 := rfl
@[simp] theorem ti68_z : ti68.z = ofL [.nils] := z_ofL _ _ rfl
@[simp] theorem ty72 : cx.ty 72 = some ti72 := rfl
@[simp] theorem kd72 : cx.kd 72 = some (.ptr 90) := rfl
@[simp] theorem ti72_sz : ti72.sz = 1 := rfl
@[simp] theorem ti72_agg : ti72.isAgg = false := rfl
@[simp] theorem ti72_known : ti72.known = true := rfl
@[simp] theorem ti72_kd : ti72.kd = .ptr 90 := rfl
@[simp] theorem ti72_by : ti72.by' = 8 := rfl
@[simp] theorem ti72_z : ti72.z = ofL [.nilp] := z_ofL _ _ rfl
@[simp] theorem ty75 : cx.ty 75 = some ti75 := rfl
@[simp] theorem kd75 : cx.kd 75 = some (.ptr 77) := rfl
@[simp] theorem ti75_sz : ti75.sz = 1 := rfl
@[simp] theorem ti75_agg : ti75.isAgg = false := rfl
@[simp] theorem ti75_known : ti75.known = true := rfl
@[simp] theorem ti75_kd : ti75.kd = .ptr 77 := rfl
@[simp] theorem ti75_by : ti75.by' = 8 := rfl
@[simp] theorem ti75_z : ti75.z = ofL [.nilp] := z_ofL _ _ rfl
@[simp] theorem ty77 : cx.ty 77 = some ti77 := rfl
@[simp] theorem kd77 : cx.kd 77 = some (.struct [(32, 0)]) := rfl
@[simp] theorem ti77_sz : ti77.sz = 1 := rfl
@[simp] theorem ti77_agg : ti77.isAgg = true := rfl
@[simp] theorem ti77_known : ti77.known = true := rfl
@[simp] theorem ti77_kd : ti77.kd = .struct [(32, 0)] := rfl
@[simp] theorem ti77_by : ti77.by' = 24 := rfl
@[simp] theorem ti77_z : ti77.z = ofL [.nils] := z_ofL _ _ rfl
@[simp] theorem fs77_0 : fieldsA cx 77 0 = some (ti32, 0) := rfl
@[simp] theorem ty82 : cx.ty 82 = some ti82 := rfl
@[simp] theorem kd82 : cx.kd 82 = some (.func) := rfl
@[simp] theorem ti82_sz : ti82.sz = 1 := rfl
@[simp] theorem ti82_agg : ti82.isAgg = false := rfl
@[simp] theorem ti82_known : ti82.known = true := rfl
@[simp] theorem ti82_kd : ti82.kd = .func := rfl
@[simp] theorem ti82_by : ti82.by' = 8 := rfl
@[simp] theorem ti82_z : ti82.z = ofL [.nilf] := z_ofL _ _ rfl
@[simp] theorem ty83 : cx.ty 83 = some ti83 := rfl
@[simp] theorem kd83 : cx.kd 83 = some (.int .u32) := rfl
@[simp] theorem ti83_sz : ti83.sz = 1 := rfl
@[simp] theorem ti83_agg : ti83.isAgg = false := rfl
@[simp] theorem ti83_known : ti83.known = true := rfl
@[simp] theorem ti83_kd : ti83.kd = .int .u32 := rfl
@[simp] theorem ti83_by : ti83.by' = 4 := rfl
@[simp] theorem ti83_z : ti83.z = ofL [.int .u32 0] := z_ofL _ _ rfl
@[simp] theorem ty87 : cx.ty 87 = some ti87 := rfl
@[simp] theorem kd87 : cx.kd 87 = some (.struct [(32, 0), (4, 1)]) := rfl
@[simp] theorem ti87_sz : ti87.sz = 2 := rfl
@[simp] theorem ti87_agg : ti87.isAgg = true := rfl
@[simp] theorem ti87_known : ti87.known = true := rfl
@[simp] theorem ti87_kd : ti87.kd = .struct [(32, 0), (4, 1)] := rfl
@[simp] theorem ti87_by : ti87.by' = 32 := rfl
@[simp] theorem ti87_z : ti87.z = ofL [.nils, .bool false] := z_ofL _ _ rfl
@[simp] theorem fs87_0 : fieldsA cx 87 0 = some (ti32, 0) := rfl
@[simp] theorem fs87_1 : fieldsA cx 87 1 = some (ti4, 1) := rfl
@[simp] theorem ty90 : cx.ty 90 = some ti90 := rfl
@[simp] theorem kd90 : cx.kd 90 = some (.struct [(32, 0), (4, 1)]) := rfl
@[simp] theorem ti90_sz : ti90.sz = 2 := rfl
@[simp] theorem ti90_agg : ti90.isAgg = true := rfl
@[simp] theorem ti90_known : ti90.known = true := rfl
@[simp] theorem ti90_kd : ti90.kd = .struct [(32, 0), (4, 1)] := rfl
@[simp] theorem ti90_by : ti90.by' = 32 := rfl
@[simp] theorem ti90_z : ti90.z = ofL [.nils, .bool false] := z_ofL _ _ rfl
@[simp] theorem fs90_0 : fieldsA cx 90 0 = some (ti32, 0) := rfl
@[simp] theorem fs90_1 : fieldsA cx 90 1 = some (ti4, 1) := rfl
@[simp] theorem ty91 : cx.ty 91 = some ti91 := rfl
@[simp] theorem kd91 : cx.kd 91 = some (.int .u64) := rfl
@[simp] theorem ti91_sz : ti91.sz = 1 := rfl
@[simp] theorem ti91_agg : ti91.isAgg = false := rfl
@[simp] theorem ti91_known : ti91.known = true := rfl
@[simp] theorem ti91_kd : ti91.kd = .int .u64 := rfl
@[simp] theorem ti91_by : ti91.by' = 8 := rfl
@[simp] theorem ti91_z : ti91.z = ofL [.int .u64 0] := z_ofL _ _ rfl
end Go.Proofs.YtpipaggkbiapjaaDoor
