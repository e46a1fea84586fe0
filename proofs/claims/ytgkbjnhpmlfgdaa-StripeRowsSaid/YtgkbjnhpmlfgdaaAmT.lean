import Derived.Test.YtgkbjnhpmlfgdaaProg
import Derived.Test.YtgkbjnhpmlfgdaaAmZ
import Derived.KernelRfl
/- The types that the walk reads; written by gen.py. -/
namespace Go.Proofs.Ytgkbjnhpmlfgdaa
open Go.AM

def ti3 : TI := ⟨.int .i64, 1, 8, .int .i64 0⟩
def ti4 : TI := ⟨.bool, 1, 1, .bool false⟩
def ti5 : TI := ⟨.int .u8, 1, 1, .int .u8 0⟩
def ti9 : TI := ⟨.str, 1, 16, .string ⟨#[]⟩⟩
def ti22 : TI := ⟨.slc 23, 1, 24, .slice none 0 0⟩
def ti23 : TI := ⟨.slc 5, 1, 24, .slice none 0 0⟩
def ti26 : TI := ⟨.int .i64, 1, 8, .int .i64 0⟩
def ti35 : TI := ⟨.slc 48, 1, 24, .slice none 0 0⟩
def ti37 : TI := ⟨.slc 22, 1, 24, .slice none 0 0⟩
def ti46 : TI := ⟨.slc 3, 1, 24, .slice none 0 0⟩
def ti48 : TI := ⟨.struct [(3, 0), (3, 1), (22, 2), (4, 3)], 4, 48, .agg #[.int .i64 0, .int .i64 0, .slice none 0 0, .bool false]⟩
def ti91 : TI := ⟨.func, 1, 8, .nilFunc⟩
def ti97 : TI := ⟨.int .u64, 1, 8, .int .u64 0⟩
def tyF : Nat → Option TI
  | 3 => some ti3
  | 4 => some ti4
  | 5 => some ti5
  | 9 => some ti9
  | 22 => some ti22
  | 23 => some ti23
  | 26 => some ti26
  | 35 => some ti35
  | 37 => some ti37
  | 46 => some ti46
  | 48 => some ti48
  | 91 => some ti91
  | 97 => some ti97
  | _ => none

theorem tok3 : TyOK Try.prog 3 ti3 := ⟨Try.underlying3, by kernel_rfl, rfl⟩
theorem tok4 : TyOK Try.prog 4 ti4 := ⟨Try.underlying4, by kernel_rfl, rfl⟩
theorem tok5 : TyOK Try.prog 5 ti5 := ⟨Try.underlying5, by kernel_rfl, rfl⟩
theorem tok9 : TyOK Try.prog 9 ti9 := ⟨Try.underlying9, by kernel_rfl, rfl⟩
theorem tok22 : TyOK Try.prog 22 ti22 := ⟨Try.underlying22, by kernel_rfl, rfl⟩
theorem tok23 : TyOK Try.prog 23 ti23 := ⟨Try.underlying23, by kernel_rfl, rfl⟩
theorem tok26 : TyOK Try.prog 26 ti26 := ⟨Try.underlying26, by kernel_rfl, rfl⟩
theorem tok35 : TyOK Try.prog 35 ti35 := ⟨Try.underlying35, by kernel_rfl, rfl⟩
theorem tok37 : TyOK Try.prog 37 ti37 := ⟨Try.underlying37, by kernel_rfl, rfl⟩
theorem tok46 : TyOK Try.prog 46 ti46 := ⟨Try.underlying46, by kernel_rfl, rfl⟩
theorem tok48 : TyOK Try.prog 48 ti48 := ⟨⟨_, Try.underlying48, rfl, by kernel_rfl, by kernel_rfl, rfl⟩, by kernel_rfl, rfl⟩
theorem tok91 : TyOK Try.prog 91 ti91 := ⟨⟨_, _, _, Try.underlying91⟩, by kernel_rfl, rfl⟩
theorem tok97 : TyOK Try.prog 97 ti97 := ⟨Try.underlying97, by kernel_rfl, rfl⟩
theorem tyF_ok (t : Nat) (i : TI) (h : tyF t = some i) : TyOK Try.prog t i := by
  unfold tyF at h
  split at h
  · injection h with h; subst h; exact tok3
  · injection h with h; subst h; exact tok4
  · injection h with h; subst h; exact tok5
  · injection h with h; subst h; exact tok9
  · injection h with h; subst h; exact tok22
  · injection h with h; subst h; exact tok23
  · injection h with h; subst h; exact tok26
  · injection h with h; subst h; exact tok35
  · injection h with h; subst h; exact tok37
  · injection h with h; subst h; exact tok46
  · injection h with h; subst h; exact tok48
  · injection h with h; subst h; exact tok91
  · injection h with h; subst h; exact tok97
  · cases h

noncomputable def cx : Cx := { P := Try.prog, ty := tyF, ok := tyF_ok }
theorem cx_P : cx.P = Try.prog := rfl
@[simp] theorem ty3 : cx.ty 3 = some ti3 := rfl
@[simp] theorem kd3 : cx.kd 3 = some (.int .i64) := rfl
@[simp] theorem ti3_sz : ti3.sz = 1 := rfl
@[simp] theorem ti3_agg : ti3.isAgg = false := rfl
@[simp] theorem ti3_known : ti3.known = true := rfl
@[simp] theorem ti3_kd : ti3.kd = .int .i64 := rfl
@[simp] theorem ti3_by : ti3.by' = 8 := rfl
@[simp] theorem ti3_z : ti3.z = ofL [.int .i64 0] := z_ofL _ _ rfl
@[simp] theorem ty4 : cx.ty 4 = some ti4 := rfl
@[simp] theorem kd4 : cx.kd 4 = some (.bool) := rfl
@[simp] theorem ti4_sz : ti4.sz = 1 := rfl
@[simp] theorem ti4_agg : ti4.isAgg = false := rfl
@[simp] theorem ti4_known : ti4.known = true := rfl
@[simp] theorem ti4_kd : ti4.kd = .bool := rfl
@[simp] theorem ti4_by : ti4.by' = 1 := rfl
@[simp] theorem ti4_z : ti4.z = ofL [.bool false] := z_ofL _ _ rfl
@[simp] theorem ty5 : cx.ty 5 = some ti5 := rfl
@[simp] theorem kd5 : cx.kd 5 = some (.int .u8) := rfl
@[simp] theorem ti5_sz : ti5.sz = 1 := rfl
@[simp] theorem ti5_agg : ti5.isAgg = false := rfl
@[simp] theorem ti5_known : ti5.known = true := rfl
@[simp] theorem ti5_kd : ti5.kd = .int .u8 := rfl
@[simp] theorem ti5_by : ti5.by' = 1 := rfl
@[simp] theorem ti5_z : ti5.z = ofL [.int .u8 0] := z_ofL _ _ rfl
@[simp] theorem ty9 : cx.ty 9 = some ti9 := rfl
@[simp] theorem kd9 : cx.kd 9 = some (.str) := rfl
@[simp] theorem ti9_sz : ti9.sz = 1 := rfl
@[simp] theorem ti9_agg : ti9.isAgg = false := rfl
@[simp] theorem ti9_known : ti9.known = true := rfl
@[simp] theorem ti9_kd : ti9.kd = .str := rfl
@[simp] theorem ti9_by : ti9.by' = 16 := rfl
@[simp] theorem ti9_z : ti9.z = ofL [.str ⟨#[]⟩] := z_ofL _ _ rfl
@[simp] theorem ty22 : cx.ty 22 = some ti22 := rfl
@[simp] theorem kd22 : cx.kd 22 = some (.slc 23) := rfl
@[simp] theorem ti22_sz : ti22.sz = 1 := rfl
@[simp] theorem ti22_agg : ti22.isAgg = false := rfl
@[simp] theorem ti22_known : ti22.known = true := rfl
@[simp] theorem ti22_kd : ti22.kd = .slc 23 := rfl
@[simp] theorem ti22_by : ti22.by' = 24 := rfl
@[simp] theorem ti22_z : ti22.z = ofL [.nils] := z_ofL _ _ rfl
@[simp] theorem ty23 : cx.ty 23 = some ti23 := rfl
@[simp] theorem kd23 : cx.kd 23 = some (.slc 5) := rfl
@[simp] theorem ti23_sz : ti23.sz = 1 := rfl
@[simp] theorem ti23_agg : ti23.isAgg = false := rfl
@[simp] theorem ti23_known : ti23.known = true := rfl
@[simp] theorem ti23_kd : ti23.kd = .slc 5 := rfl
@[simp] theorem ti23_by : ti23.by' = 24 := rfl
@[simp] theorem ti23_z : ti23.z = ofL [.nils] := z_ofL _ _ rfl
@[simp] theorem ty26 : cx.ty 26 = some ti26 := rfl
@[simp] theorem kd26 : cx.kd 26 = some (.int .i64) := rfl
@[simp] theorem ti26_sz : ti26.sz = 1 := rfl
@[simp] theorem ti26_agg : ti26.isAgg = false := rfl
@[simp] theorem ti26_known : ti26.known = true := rfl
@[simp] theorem ti26_kd : ti26.kd = .int .i64 := rfl
@[simp] theorem ti26_by : ti26.by' = 8 := rfl
@[simp] theorem ti26_z : ti26.z = ofL [.int .i64 0] := z_ofL _ _ rfl
@[simp] theorem ty35 : cx.ty 35 = some ti35 := rfl
@[simp] theorem kd35 : cx.kd 35 = some (.slc 48) := rfl
@[simp] theorem ti35_sz : ti35.sz = 1 := rfl
@[simp] theorem ti35_agg : ti35.isAgg = false := rfl
@[simp] theorem ti35_known : ti35.known = true := rfl
@[simp] theorem ti35_kd : ti35.kd = .slc 48 := rfl
@[simp] theorem ti35_by : ti35.by' = 24 := rfl
@[simp] theorem ti35_z : ti35.z = ofL [.nils] := z_ofL _ _ rfl
@[simp] theorem ty37 : cx.ty 37 = some ti37 := rfl
@[simp] theorem kd37 : cx.kd 37 = some (.slc 22) := rfl
@[simp] theorem ti37_sz : ti37.sz = 1 := rfl
@[simp] theorem ti37_agg : ti37.isAgg = false := rfl
@[simp] theorem ti37_known : ti37.known = true := rfl
@[simp] theorem ti37_kd : ti37.kd = .slc 22 := rfl
@[simp] theorem ti37_by : ti37.by' = 24 := rfl
@[simp] theorem ti37_z : ti37.z = ofL [.nils] := z_ofL _ _ rfl
@[simp] theorem ty46 : cx.ty 46 = some ti46 := rfl
@[simp] theorem kd46 : cx.kd 46 = some (.slc 3) := rfl
@[simp] theorem ti46_sz : ti46.sz = 1 := rfl
@[simp] theorem ti46_agg : ti46.isAgg = false := rfl
@[simp] theorem ti46_known : ti46.known = true := rfl
@[simp] theorem ti46_kd : ti46.kd = .slc 3 := rfl
@[simp] theorem ti46_by : ti46.by' = 24 := rfl
@[simp] theorem ti46_z : ti46.z = ofL [.nils] := z_ofL _ _ rfl
@[simp] theorem ty48 : cx.ty 48 = some ti48 := rfl
@[simp] theorem kd48 : cx.kd 48 = some (.struct [(3, 0), (3, 1), (22, 2), (4, 3)]) := rfl
@[simp] theorem ti48_sz : ti48.sz = 4 := rfl
@[simp] theorem ti48_agg : ti48.isAgg = true := rfl
@[simp] theorem ti48_known : ti48.known = true := rfl
@[simp] theorem ti48_kd : ti48.kd = .struct [(3, 0), (3, 1), (22, 2), (4, 3)] := rfl
@[simp] theorem ti48_by : ti48.by' = 48 := rfl
@[simp] theorem ti48_z : ti48.z = ofL [.int .i64 0, .int .i64 0, .nils, .bool false] := z_ofL _ _ rfl
@[simp] theorem fs48_0 : fieldsA cx 48 0 = some (ti3, 0) := rfl
@[simp] theorem fs48_1 : fieldsA cx 48 1 = some (ti3, 1) := rfl
@[simp] theorem fs48_2 : fieldsA cx 48 2 = some (ti22, 2) := rfl
@[simp] theorem fs48_3 : fieldsA cx 48 3 = some (ti4, 3) := rfl
@[simp] theorem ty91 : cx.ty 91 = some ti91 := rfl
@[simp] theorem kd91 : cx.kd 91 = some (.func) := rfl
@[simp] theorem ti91_sz : ti91.sz = 1 := rfl
@[simp] theorem ti91_agg : ti91.isAgg = false := rfl
@[simp] theorem ti91_known : ti91.known = true := rfl
@[simp] theorem ti91_kd : ti91.kd = .func := rfl
@[simp] theorem ti91_by : ti91.by' = 8 := rfl
@[simp] theorem ti91_z : ti91.z = ofL [.nilf] := z_ofL _ _ rfl
@[simp] theorem ty97 : cx.ty 97 = some ti97 := rfl
@[simp] theorem kd97 : cx.kd 97 = some (.int .u64) := rfl
@[simp] theorem ti97_sz : ti97.sz = 1 := rfl
@[simp] theorem ti97_agg : ti97.isAgg = false := rfl
@[simp] theorem ti97_known : ti97.known = true := rfl
@[simp] theorem ti97_kd : ti97.kd = .int .u64 := rfl
@[simp] theorem ti97_by : ti97.by' = 8 := rfl
@[simp] theorem ti97_z : ti97.z = ofL [.int .u64 0] := z_ofL _ _ rfl
end Go.Proofs.Ytgkbjnhpmlfgdaa
