import Derived.Test.YtgkbjnhpmlfgdaaProg
import Derived.Test.YtgkbjnhpmlfgdaaAmZ
import Derived.KernelRfl
/- The types that the walk reads; written by gen.py. -/
namespace Go.Proofs.Ytgkbjnhpmlfgdaa
open Go.AM

def ti3 : TI := ⟨.int .i64, 1, 8, .int .i64 0⟩
def ti4 : TI := ⟨.bool, 1, 1, .bool false⟩
def ti26 : TI := ⟨.int .i64, 1, 8, .int .i64 0⟩
def ti46 : TI := ⟨.slc 3, 1, 24, .slice none 0 0⟩
def ti64 : TI := ⟨.ptr 109, 1, 8, .pointer none⟩
def ti71 : TI := ⟨.slc 76, 1, 24, .slice none 0 0⟩
def ti72 : TI := ⟨.ptr 84, 1, 8, .pointer none⟩
def ti76 : TI := ⟨.struct [(3, 0), (3, 1), (4, 2), (46, 3)], 4, 48, .agg #[.int .i64 0, .int .i64 0, .bool false, .slice none 0 0]⟩
def ti82 : TI := ⟨.ptr 118, 1, 8, .pointer none⟩
def ti84 : TI := ⟨.struct [(82, 0), (46, 1), (46, 2)], 3, 56, .agg #[.pointer none, .slice none 0 0, .slice none 0 0]⟩
def ti102 : TI := ⟨.ptr 127, 1, 8, .pointer none⟩
def ti107 : TI := ⟨.struct [(46, 0)], 1, 24, .agg #[.slice none 0 0]⟩
def ti109 : TI := ⟨.struct [(102, 0), (3, 1), (46, 2), (107, 3), (46, 4)], 5, 88, .agg #[.pointer none, .int .i64 0, .slice none 0 0, .slice none 0 0, .slice none 0 0]⟩
def ti111 : TI := ⟨.func, 1, 8, .nilFunc⟩
def ti118 : TI := ⟨.struct [(46, 0), (46, 1), (46, 2)], 3, 72, .agg #[.slice none 0 0, .slice none 0 0, .slice none 0 0]⟩
def ti127 : TI := ⟨.struct [(46, 0), (46, 1)], 2, 48, .agg #[.slice none 0 0, .slice none 0 0]⟩
def ti129 : TI := ⟨.ptr 107, 1, 8, .pointer none⟩
def tyF : Nat → Option TI
  | 3 => some ti3
  | 4 => some ti4
  | 26 => some ti26
  | 46 => some ti46
  | 64 => some ti64
  | 71 => some ti71
  | 72 => some ti72
  | 76 => some ti76
  | 82 => some ti82
  | 84 => some ti84
  | 102 => some ti102
  | 107 => some ti107
  | 109 => some ti109
  | 111 => some ti111
  | 118 => some ti118
  | 127 => some ti127
  | 129 => some ti129
  | _ => none

theorem tok3 : TyOK Try.prog 3 ti3 := ⟨Try.underlying3, by kernel_rfl, rfl⟩
theorem tok4 : TyOK Try.prog 4 ti4 := ⟨Try.underlying4, by kernel_rfl, rfl⟩
theorem tok26 : TyOK Try.prog 26 ti26 := ⟨Try.underlying26, by kernel_rfl, rfl⟩
theorem tok46 : TyOK Try.prog 46 ti46 := ⟨Try.underlying46, by kernel_rfl, rfl⟩
theorem tok64 : TyOK Try.prog 64 ti64 := ⟨Try.underlying64, by kernel_rfl, rfl⟩
theorem tok71 : TyOK Try.prog 71 ti71 := ⟨Try.underlying71, by kernel_rfl, rfl⟩
theorem tok72 : TyOK Try.prog 72 ti72 := ⟨Try.underlying72, by kernel_rfl, rfl⟩
theorem tok76 : TyOK Try.prog 76 ti76 := ⟨⟨_, Try.underlying76, rfl, by kernel_rfl, by kernel_rfl, rfl⟩, by kernel_rfl, rfl⟩
theorem tok82 : TyOK Try.prog 82 ti82 := ⟨Try.underlying82, by kernel_rfl, rfl⟩
theorem tok84 : TyOK Try.prog 84 ti84 := ⟨⟨_, Try.underlying84, rfl, by kernel_rfl, by kernel_rfl, rfl⟩, by kernel_rfl, rfl⟩
theorem tok102 : TyOK Try.prog 102 ti102 := ⟨Try.underlying102, by kernel_rfl, rfl⟩
theorem tok107 : TyOK Try.prog 107 ti107 := ⟨⟨_, Try.underlying107, rfl, by kernel_rfl, by kernel_rfl, rfl⟩, by kernel_rfl, rfl⟩
theorem tok109 : TyOK Try.prog 109 ti109 := ⟨⟨_, Try.underlying109, rfl, by kernel_rfl, by kernel_rfl, rfl⟩, by kernel_rfl, rfl⟩
theorem tok111 : TyOK Try.prog 111 ti111 := ⟨⟨_, _, _, Try.underlying111⟩, by kernel_rfl, rfl⟩
theorem tok118 : TyOK Try.prog 118 ti118 := ⟨⟨_, Try.underlying118, rfl, by kernel_rfl, by kernel_rfl, rfl⟩, by kernel_rfl, rfl⟩
theorem tok127 : TyOK Try.prog 127 ti127 := ⟨⟨_, Try.underlying127, rfl, by kernel_rfl, by kernel_rfl, rfl⟩, by kernel_rfl, rfl⟩
theorem tok129 : TyOK Try.prog 129 ti129 := ⟨Try.underlying129, by kernel_rfl, rfl⟩
theorem tyF_ok (t : Nat) (i : TI) (h : tyF t = some i) : TyOK Try.prog t i := by
  unfold tyF at h
  split at h
  · injection h with h; subst h; exact tok3
  · injection h with h; subst h; exact tok4
  · injection h with h; subst h; exact tok26
  · injection h with h; subst h; exact tok46
  · injection h with h; subst h; exact tok64
  · injection h with h; subst h; exact tok71
  · injection h with h; subst h; exact tok72
  · injection h with h; subst h; exact tok76
  · injection h with h; subst h; exact tok82
  · injection h with h; subst h; exact tok84
  · injection h with h; subst h; exact tok102
  · injection h with h; subst h; exact tok107
  · injection h with h; subst h; exact tok109
  · injection h with h; subst h; exact tok111
  · injection h with h; subst h; exact tok118
  · injection h with h; subst h; exact tok127
  · injection h with h; subst h; exact tok129
  · cases h

noncomputable def cx : Cx := { P := Try.prog, ty := tyF, ok := tyF_ok }
theorem cx_P : cx.P = Try.prog := rfl
@[simp] theorem ty3 : cx.ty 3 = some ti3 := rfl
@[simp] theorem kd3 : cx.kd 3 = some (.int .i64) := rfl
@[simp] theorem ti3_sz : ti3.sz = 1 := rfl
@[simp] theorem ti3_agg : ti3.isAgg = false := rfl
@[simp] theorem ti3_known : ti3.known = true := rfl
@[simp] theorem ti3_kd : ti3.kd = .int .i64 := rfl
@[simp] theorem ti3_by : ti3.by' = 8 := rfl
@[simp] theorem ti3_z : ti3.z = ofL [.int .i64 0] := z_ofL _ _ rfl
@[simp] theorem ty4 : cx.ty 4 = some ti4 := rfl
@[simp] theorem kd4 : cx.kd 4 = some (.bool) := rfl
@[simp] theorem ti4_sz : ti4.sz = 1 := rfl
@[simp] theorem ti4_agg : ti4.isAgg = false := rfl
@[simp] theorem ti4_known : ti4.known = true := rfl
@[simp] theorem ti4_kd : ti4.kd = .bool := rfl
@[simp] theorem ti4_by : ti4.by' = 1 := rfl
@[simp] theorem ti4_z : ti4.z = ofL [.bool false] := z_ofL _ _ rfl
@[simp] theorem ty26 : cx.ty 26 = some ti26 := rfl
@[simp] theorem kd26 : cx.kd 26 = some (.int .i64) := rfl
@[simp] theorem ti26_sz : ti26.sz = 1 := rfl
@[simp] theorem ti26_agg : ti26.isAgg = false := rfl
@[simp] theorem ti26_known : ti26.known = true := rfl
@[simp] theorem ti26_kd : ti26.kd = .int .i64 := rfl
@[simp] theorem ti26_by : ti26.by' = 8 := rfl
@[simp] theorem ti26_z : ti26.z = ofL [.int .i64 0] := z_ofL _ _ rfl
@[simp] theorem ty46 : cx.ty 46 = some ti46 := rfl
@[simp] theorem kd46 : cx.kd 46 = some (.slc 3) := rfl
@[simp] theorem ti46_sz : ti46.sz = 1 := rfl
@[simp] theorem ti46_agg : ti46.isAgg = false := rfl
@[simp] theorem ti46_known : ti46.known = true := rfl
@[simp] theorem ti46_kd : ti46.kd = .slc 3 := rfl
@[simp] theorem ti46_by : ti46.by' = 24 := rfl
@[simp] theorem ti46_z : ti46.z = ofL [.nils] := z_ofL _ _ rfl
@[simp] theorem ty64 : cx.ty 64 = some ti64 := rfl
@[simp] theorem kd64 : cx.kd 64 = some (.ptr 109) := rfl
@[simp] theorem ti64_sz : ti64.sz = 1 := rfl
@[simp] theorem ti64_agg : ti64.isAgg = false := rfl
@[simp] theorem ti64_known : ti64.known = true := rfl
@[simp] theorem ti64_kd : ti64.kd = .ptr 109 := rfl
@[simp] theorem ti64_by : ti64.by' = 8 := rfl
@[simp] theorem ti64_z : ti64.z = ofL [.nilp] := z_ofL _ _ rfl
@[simp] theorem ty71 : cx.ty 71 = some ti71 := rfl
@[simp] theorem kd71 : cx.kd 71 = some (.slc 76) := rfl
@[simp] theorem ti71_sz : ti71.sz = 1 := rfl
@[simp] theorem ti71_agg : ti71.isAgg = false := rfl
@[simp] theorem ti71_known : ti71.known = true := rfl
@[simp] theorem ti71_kd : ti71.kd = .slc 76 := rfl
@[simp] theorem ti71_by : ti71.by' = 24 := rfl
@[simp] theorem ti71_z : ti71.z = ofL [.nils] := z_ofL _ _ rfl
@[simp] theorem ty72 : cx.ty 72 = some ti72 := rfl
@[simp] theorem kd72 : cx.kd 72 = some (.ptr 84) := rfl
@[simp] theorem ti72_sz : ti72.sz = 1 := rfl
@[simp] theorem ti72_agg : ti72.isAgg = false := rfl
@[simp] theorem ti72_known : ti72.known = true := rfl
@[simp] theorem ti72_kd : ti72.kd = .ptr 84 := rfl
@[simp] theorem ti72_by : ti72.by' = 8 := rfl
@[simp] theorem ti72_z : ti72.z = ofL [.nilp] := z_ofL _ _ rfl
@[simp] theorem ty76 : cx.ty 76 = some ti76 := rfl
@[simp] theorem kd76 : cx.kd 76 = some (.struct [(3, 0), (3, 1), (4, 2), (46, 3)]) := rfl
@[simp] theorem ti76_sz : ti76.sz = 4 := rfl
@[simp] theorem ti76_agg : ti76.isAgg = true := rfl
@[simp] theorem ti76_known : ti76.known = true := rfl
@[simp] theorem ti76_kd : ti76.kd = .struct [(3, 0), (3, 1), (4, 2), (46, 3)] := rfl
@[simp] theorem ti76_by : ti76.by' = 48 := rfl
@[simp] theorem ti76_z : ti76.z = ofL [.int .i64 0, .int .i64 0, .bool false, .nils] := z_ofL _ _ rfl
@[simp] theorem fs76_0 : fieldsA cx 76 0 = some (ti3, 0) := rfl
@[simp] theorem fs76_1 : fieldsA cx 76 1 = some (ti3, 1) := rfl
@[simp] theorem fs76_2 : fieldsA cx 76 2 = some (ti4, 2) := rfl
@[simp] theorem fs76_3 : fieldsA cx 76 3 = some (ti46, 3) := rfl
@[simp] theorem ty82 : cx.ty 82 = some ti82 := rfl
@[simp] theorem kd82 : cx.kd 82 = some (.ptr 118) := rfl
@[simp] theorem ti82_sz : ti82.sz = 1 := rfl
@[simp] theorem ti82_agg : ti82.isAgg = false := rfl
@[simp] theorem ti82_known : ti82.known = true := rfl
@[simp] theorem ti82_kd : ti82.kd = .ptr 118 := rfl
@[simp] theorem ti82_by : ti82.by' = 8 := rfl
@[simp] theorem ti82_z : ti82.z = ofL [.nilp] := z_ofL _ _ rfl
@[simp] theorem ty84 : cx.ty 84 = some ti84 := rfl
@[simp] theorem kd84 : cx.kd 84 = some (.struct [(82, 0), (46, 1), (46, 2)]) := rfl
@[simp] theorem ti84_sz : ti84.sz = 3 := rfl
@[simp] theorem ti84_agg : ti84.isAgg = true := rfl
@[simp] theorem ti84_known : ti84.known = true := rfl
@[simp] theorem ti84_kd : ti84.kd = .struct [(82, 0), (46, 1), (46, 2)] := rfl
@[simp] theorem ti84_by : ti84.by' = 56 := rfl
@[simp] theorem ti84_z : ti84.z = ofL [.nilp, .nils, .nils] := z_ofL _ _ rfl
@[simp] theorem fs84_0 : fieldsA cx 84 0 = some (ti82, 0) := rfl
@[simp] theorem fs84_1 : fieldsA cx 84 1 = some (ti46, 1) := rfl
@[simp] theorem fs84_2 : fieldsA cx 84 2 = some (ti46, 2) := rfl
@[simp] theorem ty102 : cx.ty 102 = some ti102 := rfl
@[simp] theorem kd102 : cx.kd 102 = some (.ptr 127) := rfl
@[simp] theorem ti102_sz : ti102.sz = 1 := rfl
@[simp] theorem ti102_agg : ti102.isAgg = false := rfl
@[simp] theorem ti102_known : ti102.known = true := rfl
@[simp] theorem ti102_kd : ti102.kd = .ptr 127 := rfl
@[simp] theorem ti102_by : ti102.by' = 8 := rfl
@[simp] theorem ti102_z : ti102.z = ofL [.nilp] := z_ofL _ _ rfl
@[simp] theorem ty107 : cx.ty 107 = some ti107 := rfl
@[simp] theorem kd107 : cx.kd 107 = some (.struct [(46, 0)]) := rfl
@[simp] theorem ti107_sz : ti107.sz = 1 := rfl
@[simp] theorem ti107_agg : ti107.isAgg = true := rfl
@[simp] theorem ti107_known : ti107.known = true := rfl
@[simp] theorem ti107_kd : ti107.kd = .struct [(46, 0)] := rfl
@[simp] theorem ti107_by : ti107.by' = 24 := rfl
@[simp] theorem ti107_z : ti107.z = ofL [.nils] := z_ofL _ _ rfl
@[simp] theorem fs107_0 : fieldsA cx 107 0 = some (ti46, 0) := rfl
@[simp] theorem ty109 : cx.ty 109 = some ti109 := rfl
@[simp] theorem kd109 : cx.kd 109 = some (.struct [(102, 0), (3, 1), (46, 2), (107, 3), (46, 4)]) := rfl
@[simp] theorem ti109_sz : ti109.sz = 5 := rfl
@[simp] theorem ti109_agg : ti109.isAgg = true := rfl
@[simp] theorem ti109_known : ti109.known = true := rfl
@[simp] theorem ti109_kd : ti109.kd = .struct [(102, 0), (3, 1), (46, 2), (107, 3), (46, 4)] := rfl
@[simp] theorem ti109_by : ti109.by' = 88 := rfl
@[simp] theorem ti109_z : ti109.z = ofL [.nilp, .int .i64 0, .nils, .nils, .nils] := z_ofL _ _ rfl
@[simp] theorem fs109_0 : fieldsA cx 109 0 = some (ti102, 0) := rfl
@[simp] theorem fs109_1 : fieldsA cx 109 1 = some (ti3, 1) := rfl
@[simp] theorem fs109_2 : fieldsA cx 109 2 = some (ti46, 2) := rfl
@[simp] theorem fs109_3 : fieldsA cx 109 3 = some (ti107, 3) := rfl
@[simp] theorem fs109_4 : fieldsA cx 109 4 = some (ti46, 4) := rfl
@[simp] theorem ty111 : cx.ty 111 = some ti111 := rfl
@[simp] theorem kd111 : cx.kd 111 = some (.func) := rfl
@[simp] theorem ti111_sz : ti111.sz = 1 := rfl
@[simp] theorem ti111_agg : ti111.isAgg = false := rfl
@[simp] theorem ti111_known : ti111.known = true := rfl
@[simp] theorem ti111_kd : ti111.kd = .func := rfl
@[simp] theorem ti111_by : ti111.by' = 8 := rfl
@[simp] theorem ti111_z : ti111.z = ofL [.nilf] := z_ofL _ _ rfl
@[simp] theorem ty118 : cx.ty 118 = some ti118 := rfl
@[simp] theorem kd118 : cx.kd 118 = some (.struct [(46, 0), (46, 1), (46, 2)]) := rfl
@[simp] theorem ti118_sz : ti118.sz = 3 := rfl
@[simp] theorem ti118_agg : ti118.isAgg = true := rfl
@[simp] theorem ti118_known : ti118.known = true := rfl
@[simp] theorem ti118_kd : ti118.kd = .struct [(46, 0), (46, 1), (46, 2)] := rfl
@[simp] theorem ti118_by : ti118.by' = 72 := rfl
@[simp] theorem ti118_z : ti118.z = ofL [.nils, .nils, .nils] := z_ofL _ _ rfl
@[simp] theorem fs118_0 : fieldsA cx 118 0 = some (ti46, 0) := rfl
@[simp] theorem fs118_1 : fieldsA cx 118 1 = some (ti46, 1) := rfl
@[simp] theorem fs118_2 : fieldsA cx 118 2 = some (ti46, 2) := rfl
@[simp] theorem ty127 : cx.ty 127 = some ti127 := rfl
@[simp] theorem kd127 : cx.kd 127 = some (.struct [(46, 0), (46, 1)]) := rfl
@[simp] theorem ti127_sz : ti127.sz = 2 := rfl
@[simp] theorem ti127_agg : ti127.isAgg = true := rfl
@[simp] theorem ti127_known : ti127.known = true := rfl
@[simp] theorem ti127_kd : ti127.kd = .struct [(46, 0), (46, 1)] := rfl
@[simp] theorem ti127_by : ti127.by' = 48 := rfl
@[simp] theorem ti127_z : ti127.z = ofL [.nils, .nils] := z_ofL _ _ rfl
@[simp] theorem fs127_0 : fieldsA cx 127 0 = some (ti46, 0) := rfl
@[simp] theorem fs127_1 : fieldsA cx 127 1 = some (ti46, 1) := rfl
@[simp] theorem ty129 : cx.ty 129 = some ti129 := rfl
@[simp] theorem kd129 : cx.kd 129 = some (.ptr 107) := rfl
@[simp] theorem ti129_sz : ti129.sz = 1 := rfl
@[simp] theorem ti129_agg : ti129.isAgg = false := rfl
@[simp] theorem ti129_known : ti129.known = true := rfl
@[simp] theorem ti129_kd : ti129.kd = .ptr 107 := rfl
@[simp] theorem ti129_by : ti129.by' = 8 := rfl
@[simp] theorem ti129_z : ti129.z = ofL [.nilp] := z_ofL _ _ rfl
end Go.Proofs.Ytgkbjnhpmlfgdaa
