import Derived.Test.YtjkjoihlpnahdaaProg
import Derived.Test.YtjkjoihlpnahdaaAmZ
import Derived.KernelRfl
/- The types that the walk reads; written by gen.py. -/
namespace Go.Proofs.Ytjkjoihlpnahdaa
open Go.AM

def ti3 : TI := ⟨.int .i64, 1, 8, .int .i64 0⟩
def ti4 : TI := ⟨.bool, 1, 1, .bool false⟩
def ti22 : TI := ⟨.slc 3, 1, 24, .slice none 0 0⟩
def ti24 : TI := ⟨.slc 32, 1, 24, .slice none 0 0⟩
def ti25 : TI := ⟨.int .i64, 1, 8, .int .i64 0⟩
def ti32 : TI := ⟨.struct [(3, 0), (3, 1), (3, 2)], 3, 24, .agg #[.int .i64 0, .int .i64 0, .int .i64 0]⟩
def ti34 : TI := ⟨.slc 39, 1, 24, .slice none 0 0⟩
def ti35 : TI := ⟨.ptr 37, 1, 8, .pointer none⟩
def ti37 : TI := ⟨.struct [(22, 0)], 1, 24, .agg #[.slice none 0 0]⟩
def ti39 : TI := ⟨.struct [(3, 0), (3, 1)], 2, 16, .agg #[.int .i64 0, .int .i64 0]⟩
def ti44 : TI := ⟨.func, 1, 8, .nilFunc⟩
def ti47 : TI := ⟨.slc 55, 1, 24, .slice none 0 0⟩
def ti48 : TI := ⟨.ptr 65, 1, 8, .pointer none⟩
def ti51 : TI := ⟨.ptr 67, 1, 8, .pointer none⟩
def ti55 : TI := ⟨.struct [(3, 0), (3, 1), (3, 2)], 3, 24, .agg #[.int .i64 0, .int .i64 0, .int .i64 0]⟩
def ti65 : TI := ⟨.struct [(22, 0), (22, 1)], 2, 48, .agg #[.slice none 0 0, .slice none 0 0]⟩
def ti67 : TI := ⟨.struct [(22, 0), (22, 1), (22, 2)], 3, 72, .agg #[.slice none 0 0, .slice none 0 0, .slice none 0 0]⟩
def tyF : Nat → Option TI
  | 3 => some ti3
  | 4 => some ti4
  | 22 => some ti22
  | 24 => some ti24
  | 25 => some ti25
  | 32 => some ti32
  | 34 => some ti34
  | 35 => some ti35
  | 37 => some ti37
  | 39 => some ti39
  | 44 => some ti44
  | 47 => some ti47
  | 48 => some ti48
  | 51 => some ti51
  | 55 => some ti55
  | 65 => some ti65
  | 67 => some ti67
  | _ => none

theorem tok3 : TyOK Try.prog 3 ti3 := ⟨Try.underlying3, by kernel_rfl, rfl⟩
theorem tok4 : TyOK Try.prog 4 ti4 := ⟨Try.underlying4, by kernel_rfl, rfl⟩
theorem tok22 : TyOK Try.prog 22 ti22 := ⟨Try.underlying22, by kernel_rfl, rfl⟩
theorem tok24 : TyOK Try.prog 24 ti24 := ⟨Try.underlying24, by kernel_rfl, rfl⟩
theorem tok25 : TyOK Try.prog 25 ti25 := ⟨Try.underlying25, by kernel_rfl, rfl⟩
theorem tok32 : TyOK Try.prog 32 ti32 := ⟨⟨_, Try.underlying32, rfl, by kernel_rfl, by kernel_rfl, rfl⟩, by kernel_rfl, rfl⟩
theorem tok34 : TyOK Try.prog 34 ti34 := ⟨Try.underlying34, by kernel_rfl, rfl⟩
theorem tok35 : TyOK Try.prog 35 ti35 := ⟨Try.underlying35, by kernel_rfl, rfl⟩
theorem tok37 : TyOK Try.prog 37 ti37 := ⟨⟨_, Try.underlying37, rfl, by kernel_rfl, by kernel_rfl, rfl⟩, by kernel_rfl, rfl⟩
theorem tok39 : TyOK Try.prog 39 ti39 := ⟨⟨_, Try.underlying39, rfl, by kernel_rfl, by kernel_rfl, rfl⟩, by kernel_rfl, rfl⟩
theorem tok44 : TyOK Try.prog 44 ti44 := ⟨⟨_, _, _, Try.underlying44⟩, by kernel_rfl, rfl⟩
theorem tok47 : TyOK Try.prog 47 ti47 := ⟨Try.underlying47, by kernel_rfl, rfl⟩
theorem tok48 : TyOK Try.prog 48 ti48 := ⟨Try.underlying48, by kernel_rfl, rfl⟩
theorem tok51 : TyOK Try.prog 51 ti51 := ⟨Try.underlying51, by kernel_rfl, rfl⟩
theorem tok55 : TyOK Try.prog 55 ti55 := ⟨⟨_, Try.underlying55, rfl, by kernel_rfl, by kernel_rfl, rfl⟩, by kernel_rfl, rfl⟩
theorem tok65 : TyOK Try.prog 65 ti65 := ⟨⟨_, Try.underlying65, rfl, by kernel_rfl, by kernel_rfl, rfl⟩, by kernel_rfl, rfl⟩
theorem tok67 : TyOK Try.prog 67 ti67 := ⟨⟨_, Try.underlying67, rfl, by kernel_rfl, by kernel_rfl, rfl⟩, by kernel_rfl, rfl⟩
theorem tyF_ok (t : Nat) (i : TI) (h : tyF t = some i) : TyOK Try.prog t i := by
  unfold tyF at h
  split at h
  · injection h with h; subst h; exact tok3
  · injection h with h; subst h; exact tok4
  · injection h with h; subst h; exact tok22
  · injection h with h; subst h; exact tok24
  · injection h with h; subst h; exact tok25
  · injection h with h; subst h; exact tok32
  · injection h with h; subst h; exact tok34
  · injection h with h; subst h; exact tok35
  · injection h with h; subst h; exact tok37
  · injection h with h; subst h; exact tok39
  · injection h with h; subst h; exact tok44
  · injection h with h; subst h; exact tok47
  · injection h with h; subst h; exact tok48
  · injection h with h; subst h; exact tok51
  · injection h with h; subst h; exact tok55
  · injection h with h; subst h; exact tok65
  · injection h with h; subst h; exact tok67
  · cases h

noncomputable def cx : Cx := { P := Try.prog, ty := tyF, ok := tyF_ok }
theorem cx_P : cx.P = Try.prog := rfl
@[simp] theorem ty3 : cx.ty 3 = some ti3 := rfl
@[simp] theorem kd3 : cx.kd 3 = some (.int .i64) := rfl
@[simp] theorem ti3_sz : ti3.sz = 1 := rfl
@[simp] theorem ti3_agg : ti3.isAgg = false := rfl
@[simp] theorem ti3_known : ti3.known = true := rfl
@[simp] theorem ti3_kd : ti3.kd = .int .i64 := rfl
@[simp] theorem ti3_by : ti3.by' = 8 := rfl
@[simp] theorem ti3_z : ti3.z = ofL [.int .i64 0] := z_ofL _ _ rfl
@[simp] theorem ty4 : cx.ty 4 = some ti4 := rfl
@[simp] theorem kd4 : cx.kd 4 = some (.bool) := rfl
@[simp] theorem ti4_sz : ti4.sz = 1 := rfl
@[simp] theorem ti4_agg : ti4.isAgg = false := rfl
@[simp] theorem ti4_known : ti4.known = true := rfl
@[simp] theorem ti4_kd : ti4.kd = .bool := rfl
@[simp] theorem ti4_by : ti4.by' = 1 := rfl
@[simp] theorem ti4_z : ti4.z = ofL [.bool false] := z_ofL _ _ rfl
@[simp] theorem ty22 : cx.ty 22 = some ti22 := rfl
@[simp] theorem kd22 : cx.kd 22 = some (.slc 3) := rfl
@[simp] theorem ti22_sz : ti22.sz = 1 := rfl
@[simp] theorem ti22_agg : ti22.isAgg = false := rfl
@[simp] theorem ti22_known : ti22.known = true := rfl
@[simp] theorem ti22_kd : ti22.kd = .slc 3 := rfl
@[simp] theorem ti22_by : ti22.by' = 24 := rfl
@[simp] theorem ti22_z : ti22.z = ofL [.nils] := z_ofL _ _ rfl
@[simp] theorem ty24 : cx.ty 24 = some ti24 := rfl
@[simp] theorem kd24 : cx.kd 24 = some (.slc 32) := rfl
@[simp] theorem ti24_sz : ti24.sz = 1 := rfl
@[simp] theorem ti24_agg : ti24.isAgg = false := rfl
@[simp] theorem ti24_known : ti24.known = true := rfl
@[simp] theorem ti24_kd : ti24.kd = .slc 32 := rfl
@[simp] theorem ti24_by : ti24.by' = 24 := rfl
@[simp] theorem ti24_z : ti24.z = ofL [.nils] := z_ofL _ _ rfl
@[simp] theorem ty25 : cx.ty 25 = some ti25 := rfl
@[simp] theorem kd25 : cx.kd 25 = some (.int .i64) := rfl
@[simp] theorem ti25_sz : ti25.sz = 1 := rfl
@[simp] theorem ti25_agg : ti25.isAgg = false := rfl
@[simp] theorem ti25_known : ti25.known = true := rfl
@[simp] theorem ti25_kd : ti25.kd = .int .i64 := rfl
@[simp] theorem ti25_by : ti25.by' = 8 := rfl
@[simp] theorem ti25_z : ti25.z = ofL [.int .i64 0] := z_ofL _ _ rfl
@[simp] theorem ty32 : cx.ty 32 = some ti32 := rfl
@[simp] theorem kd32 : cx.kd 32 = some (.struct [(3, 0), (3, 1), (3, 2)]) := rfl
@[simp] theorem ti32_sz : ti32.sz = 3 := rfl
@[simp] theorem ti32_agg : ti32.isAgg = true := rfl
@[simp] theorem ti32_known : ti32.known = true := rfl
@[simp] theorem ti32_kd : ti32.kd = .struct [(3, 0), (3, 1), (3, 2)] := rfl
@[simp] theorem ti32_by : ti32.by' = 24 := rfl
@[simp] theorem ti32_z : ti32.z = ofL [.int .i64 0, .int .i64 0, .int .i64 0] := z_ofL _ _ rfl
@[simp] theorem fs32_0 : fieldsA cx 32 0 = some (ti3, 0) := rfl
@[simp] theorem fs32_1 : fieldsA cx 32 1 = some (ti3, 1) := rfl
@[simp] theorem fs32_2 : fieldsA cx 32 2 = some (ti3, 2) := rfl
@[simp] theorem ty34 : cx.ty 34 = some ti34 := rfl
@[simp] theorem kd34 : cx.kd 34 = some (.slc 39) := rfl
@[simp] theorem ti34_sz : ti34.sz = 1 := rfl
@[simp] theorem ti34_agg : ti34.isAgg = false := rfl
@[simp] theorem ti34_known : ti34.known = true := rfl
@[simp] theorem ti34_kd : ti34.kd = .slc 39 := rfl
@[simp] theorem ti34_by : ti34.by' = 24 := rfl
@[simp] theorem ti34_z : ti34.z = ofL [.nils] := z_ofL _ _ rfl
@[simp] theorem ty35 : cx.ty 35 = some ti35 := rfl
@[simp] theorem kd35 : cx.kd 35 = some (.ptr 37) := rfl
@[simp] theorem ti35_sz : ti35.sz = 1 := rfl
@[simp] theorem ti35_agg : ti35.isAgg = false := rfl
@[simp] theorem ti35_known : ti35.known = true := rfl
@[simp] theorem ti35_kd : ti35.kd = .ptr 37 := rfl
@[simp] theorem ti35_by : ti35.by' = 8 := rfl
@[simp] theorem ti35_z : ti35.z = ofL [.nilp] := z_ofL _ _ rfl
@[simp] theorem ty37 : cx.ty 37 = some ti37 := rfl
@[simp] theorem kd37 : cx.kd 37 = some (.struct [(22, 0)]) := rfl
@[simp] theorem ti37_sz : ti37.sz = 1 := rfl
@[simp] theorem ti37_agg : ti37.isAgg = true := rfl
@[simp] theorem ti37_known : ti37.known = true := rfl
@[simp] theorem ti37_kd : ti37.kd = .struct [(22, 0)] := rfl
@[simp] theorem ti37_by : ti37.by' = 24 := rfl
@[simp] theorem ti37_z : ti37.z = ofL [.nils] := z_ofL _ _ rfl
@[simp] theorem fs37_0 : fieldsA cx 37 0 = some (ti22, 0) := rfl
@[simp] theorem ty39 : cx.ty 39 = some ti39 := rfl
@[simp] theorem kd39 : cx.kd 39 = some (.struct [(3, 0), (3, 1)]) := rfl
@[simp] theorem ti39_sz : ti39.sz = 2 := rfl
@[simp] theorem ti39_agg : ti39.isAgg = true := rfl
@[simp] theorem ti39_known : ti39.known = true := rfl
@[simp] theorem ti39_kd : ti39.kd = .struct [(3, 0), (3, 1)] := rfl
@[simp] theorem ti39_by : ti39.by' = 16 := rfl
@[simp] theorem ti39_z : ti39.z = ofL [.int .i64 0, .int .i64 0] := z_ofL _ _ rfl
@[simp] theorem fs39_0 : fieldsA cx 39 0 = some (ti3, 0) := rfl
@[simp] theorem fs39_1 : fieldsA cx 39 1 = some (ti3, 1) := rfl
@[simp] theorem ty44 : cx.ty 44 = some ti44 := rfl
@[simp] theorem kd44 : cx.kd 44 = some (.func) := rfl
@[simp] theorem ti44_sz : ti44.sz = 1 := rfl
@[simp] theorem ti44_agg : ti44.isAgg = false := rfl
@[simp] theorem ti44_known : ti44.known = true := rfl
@[simp] theorem ti44_kd : ti44.kd = .func := rfl
@[simp] theorem ti44_by : ti44.by' = 8 := rfl
@[simp] theorem ti44_z : ti44.z = ofL [.nilf] := z_ofL _ _ rfl
@[simp] theorem ty47 : cx.ty 47 = some ti47 := rfl
@[simp] theorem kd47 : cx.kd 47 = some (.slc 55) := rfl
@[simp] theorem ti47_sz : ti47.sz = 1 := rfl
@[simp] theorem ti47_agg : ti47.isAgg = false := rfl
@[simp] theorem ti47_known : ti47.known = true := rfl
@[simp] theorem ti47_kd : ti47.kd = .slc 55 := rfl
@[simp] theorem ti47_by : ti47.by' = 24 := rfl
@[simp] theorem ti47_z : ti47.z = ofL [.nils] := z_ofL _ _ rfl
@[simp] theorem ty48 : cx.ty 48 = some ti48 := rfl
@[simp] theorem kd48 : cx.kd 48 = some (.ptr 65) := rfl
@[simp] theorem ti48_sz : ti48.sz = 1 := rfl
@[simp] theorem ti48_agg : ti48.isAgg = false := rfl
@[simp] theorem ti48_known : ti48.known = true := rfl
@[simp] theorem ti48_kd : ti48.kd = .ptr 65 := rfl
@[simp] theorem ti48_by : ti48.by' = 8 := rfl
@[simp] theorem ti48_z : ti48.z = ofL [.nilp] := z_ofL _ _ rfl
@[simp] theorem ty51 : cx.ty 51 = some ti51 := rfl
@[simp] theorem kd51 : cx.kd 51 = some (.ptr 67) := rfl
@[simp] theorem ti51_sz : ti51.sz = 1 := rfl
@[simp] theorem ti51_agg : ti51.isAgg = false := rfl
@[simp] theorem ti51_known : ti51.known = true := rfl
@[simp] theorem ti51_kd : ti51.kd = .ptr 67 := rfl
@[simp] theorem ti51_by : ti51.by' = 8 := rfl
@[simp] theorem ti51_z : ti51.z = ofL [.nilp] := z_ofL _ _ rfl
@[simp] theorem ty55 : cx.ty 55 = some ti55 := rfl
@[simp] theorem kd55 : cx.kd 55 = some (.struct [(3, 0), (3, 1), (3, 2)]) := rfl
@[simp] theorem ti55_sz : ti55.sz = 3 := rfl
@[simp] theorem ti55_agg : ti55.isAgg = true := rfl
@[simp] theorem ti55_known : ti55.known = true := rfl
@[simp] theorem ti55_kd : ti55.kd = .struct [(3, 0), (3, 1), (3, 2)] := rfl
@[simp] theorem ti55_by : ti55.by' = 24 := rfl
@[simp] theorem ti55_z : ti55.z = ofL [.int .i64 0, .int .i64 0, .int .i64 0] := z_ofL _ _ rfl
@[simp] theorem fs55_0 : fieldsA cx 55 0 = some (ti3, 0) := rfl
@[simp] theorem fs55_1 : fieldsA cx 55 1 = some (ti3, 1) := rfl
@[simp] theorem fs55_2 : fieldsA cx 55 2 = some (ti3, 2) := rfl
@[simp] theorem ty65 : cx.ty 65 = some ti65 := rfl
@[simp] theorem kd65 : cx.kd 65 = some (.struct [(22, 0), (22, 1)]) := rfl
@[simp] theorem ti65_sz : ti65.sz = 2 := rfl
@[simp] theorem ti65_agg : ti65.isAgg = true := rfl
@[simp] theorem ti65_known : ti65.known = true := rfl
@[simp] theorem ti65_kd : ti65.kd = .struct [(22, 0), (22, 1)] := rfl
@[simp] theorem ti65_by : ti65.by' = 48 := rfl
@[simp] theorem ti65_z : ti65.z = ofL [.nils, .nils] := z_ofL _ _ rfl
@[simp] theorem fs65_0 : fieldsA cx 65 0 = some (ti22, 0) := rfl
@[simp] theorem fs65_1 : fieldsA cx 65 1 = some (ti22, 1) := rfl
@[simp] theorem ty67 : cx.ty 67 = some ti67 := rfl
@[simp] theorem kd67 : cx.kd 67 = some (.struct [(22, 0), (22, 1), (22, 2)]) := rfl
@[simp] theorem ti67_sz : ti67.sz = 3 := rfl
@[simp] theorem ti67_agg : ti67.isAgg = true := rfl
@[simp] theorem ti67_known : ti67.known = true := rfl
@[simp] theorem ti67_kd : ti67.kd = .struct [(22, 0), (22, 1), (22, 2)] := rfl
@[simp] theorem ti67_by : ti67.by' = 72 := rfl
@[simp] theorem ti67_z : ti67.z = ofL [.nils, .nils, .nils] := z_ofL _ _ rfl
@[simp] theorem fs67_0 : fieldsA cx 67 0 = some (ti22, 0) := rfl
@[simp] theorem fs67_1 : fieldsA cx 67 1 = some (ti22, 1) := rfl
@[simp] theorem fs67_2 : fieldsA cx 67 2 = some (ti22, 2) := rfl
end Go.Proofs.Ytjkjoihlpnahdaa
