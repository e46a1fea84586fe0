import Derived.Test.YtpipaggkbiapjaaDoorProg
import Derived.Test.YtpipaggkbiapjaaDoorAmZ
import Derived.KernelRfl
/- The types that the walk reads; written by gen.py. -/
namespace Go.Proofs.YtpipaggkbiapjaaDoor
open Go.AM

def ti3 : TI := ⟨.int .i64, 1, 8, .int .i64 0⟩
def ti4 : TI := ⟨.bool, 1, 1, .bool false⟩
def ti5 : TI := ⟨.int .u8, 1, 1, .int .u8 0⟩
def ti9 : TI := ⟨.str, 1, 16, .string ⟨#[]⟩⟩
def ti21 : TI := ⟨.int .i32, 1, 4, .int .i32 0⟩
def ti23 : TI := ⟨.func, 1, 8, .nilFunc⟩
def ti25 : TI := ⟨.slc 9, 1, 24, .slice none 0 0⟩
def ti28 : TI := ⟨.slc 4, 1, 24, .slice none 0 0⟩
def ti82 : TI := ⟨.func, 1, 8, .nilFunc⟩
def tyF : Nat → Option TI
  | 3 => some ti3
  | 4 => some ti4
  | 5 => some ti5
  | 9 => some ti9
  | 21 => some ti21
  | 23 => some ti23
  | 25 => some ti25
  | 28 => some ti28
  | 82 => some ti82
  | _ => none

theorem tok3 : TyOK Tryd.prog 3 ti3 := ⟨Tryd.underlying3, by kernel_rfl, rfl⟩
theorem tok4 : TyOK Tryd.prog 4 ti4 := ⟨Tryd.underlying4, by kernel_rfl, rfl⟩
theorem tok5 : TyOK Tryd.prog 5 ti5 := ⟨Tryd.underlying5, by kernel_rfl, rfl⟩
theorem tok9 : TyOK Tryd.prog 9 ti9 := ⟨Tryd.underlying9, by kernel_rfl, rfl⟩
theorem tok21 : TyOK Tryd.prog 21 ti21 := ⟨Tryd.underlying21, by kernel_rfl, rfl⟩
theorem tok23 : TyOK Tryd.prog 23 ti23 := ⟨⟨_, _, _, Tryd.underlying23⟩, by kernel_rfl, rfl⟩
theorem tok25 : TyOK Tryd.prog 25 ti25 := ⟨Tryd.underlying25, by kernel_rfl, rfl⟩
theorem tok28 : TyOK Tryd.prog 28 ti28 := ⟨Tryd.underlying28, by kernel_rfl, rfl⟩
theorem tok82 : TyOK Tryd.prog 82 ti82 := ⟨⟨_, _, _, Tryd.underlying82⟩, by kernel_rfl, rfl⟩
theorem tyF_ok (t : Nat) (i : TI) (h : tyF t = some i) : TyOK Tryd.prog t i := by
  unfold tyF at h
  split at h
  · injection h with h; subst h; exact tok3
  · injection h with h; subst h; exact tok4
  · injection h with h; subst h; exact tok5
  · injection h with h; subst h; exact tok9
  · injection h with h; subst h; exact tok21
  · injection h with h; subst h; exact tok23
  · injection h with h; subst h; exact tok25
  · injection h with h; subst h; exact tok28
  · injection h with h; subst h; exact tok82
  · cases h

noncomputable def cx : Cx := { P := Tryd.prog, ty := tyF, ok := tyF_ok }
theorem cx_P : cx.P = Tryd.prog := rfl
@[simp] theorem ty3 : cx.ty 3 = some ti3 := rfl
@[simp] theorem kd3 : cx.kd 3 = some (.int .i64) := rfl
@[simp] theorem ti3_sz : ti3.sz = 1 := rfl
@[simp] theorem ti3_agg : ti3.isAgg = false := rfl
@[simp] theorem ti3_known : ti3.known = true := rfl
@[simp] theorem ti3_kd : ti3.kd = .int .i64 := rfl
@[simp] theorem ti3_by : ti3.by' = 8 := rfl
@[simp] theorem ti3_z : ti3.z = ofL [.int .i64 0] := z_ofL _ _ rfl
@[simp] theorem ty4 : cx.ty 4 = some ti4 := rfl
@[simp] theorem kd4 : cx.kd 4 = some (.bool) := rfl
@[simp] theorem ti4_sz : ti4.sz = 1 := rfl
@[simp] theorem ti4_agg : ti4.isAgg = false := rfl
@[simp] theorem ti4_known : ti4.known = true := rfl
@[simp] theorem ti4_kd : ti4.kd = .bool := rfl
@[simp] theorem ti4_by : ti4.by' = 1 := rfl
@[simp] theorem ti4_z : ti4.z = ofL [.bool false] := z_ofL _ _ rfl
@[simp] theorem ty5 : cx.ty 5 = some ti5 := rfl
@[simp] theorem kd5 : cx.kd 5 = some (.int .u8) := rfl
@[simp] theorem ti5_sz : ti5.sz = 1 := rfl
@[simp] theorem ti5_agg : ti5.isAgg = false := rfl
@[simp] theorem ti5_known : ti5.known = true := rfl
@[simp] theorem ti5_kd : ti5.kd = .int .u8 := rfl
@[simp] theorem ti5_by : ti5.by' = 1 := rfl
@[simp] theorem ti5_z : ti5.z = ofL [.int .u8 0] := z_ofL _ _ rfl
@[simp] theorem ty9 : cx.ty 9 = some ti9 := rfl
@[simp] theorem kd9 : cx.kd 9 = some (.str) := rfl
@[simp] theorem ti9_sz : ti9.sz = 1 := rfl
@[simp] theorem ti9_agg : ti9.isAgg = false := rfl
@[simp] theorem ti9_known : ti9.known = true := rfl
@[simp] theorem ti9_kd : ti9.kd = .str := rfl
@[simp] theorem ti9_by : ti9.by' = 16 := rfl
@[simp] theorem ti9_z : ti9.z = ofL [.str ⟨#[]⟩] := z_ofL _ _ rfl
@[simp] theorem ty21 : cx.ty 21 = some ti21 := rfl
@[simp] theorem kd21 : cx.kd 21 = some (.int .i32) := rfl
@[simp] theorem ti21_sz : ti21.sz = 1 := rfl
@[simp] theorem ti21_agg : ti21.isAgg = false := rfl
@[simp] theorem ti21_known : ti21.known = true := rfl
@[simp] theorem ti21_kd : ti21.kd = .int .i32 := rfl
@[simp] theorem ti21_by : ti21.by' = 4 := rfl
@[simp] theorem ti21_z : ti21.z = ofL [.int .i32 0] := z_ofL _ _ rfl
@[simp] theorem ty23 : cx.ty 23 = some ti23 := rfl
@[simp] theorem kd23 : cx.kd 23 = some (.func) := rfl
@[simp] theorem ti23_sz : ti23.sz = 1 := rfl
@[simp] theorem ti23_agg : ti23.isAgg = false := rfl
@[simp] theorem ti23_known : ti23.known = true := rfl
@[simp] theorem ti23_kd : ti23.kd = .func := rfl
@[simp] theorem ti23_by : ti23.by' = 8 := rfl
@[simp] theorem ti23_z : ti23.z = ofL [.nilf] := z_ofL _ _ rfl
@[simp] theorem ty25 : cx.ty 25 = some ti25 := rfl
@[simp] theorem kd25 : cx.kd 25 = some (.slc 9) := rfl
@[simp] theorem ti25_sz : ti25.sz = 1 := rfl
@[simp] theorem ti25_agg : ti25.isAgg = false := rfl
@[simp] theorem ti25_known : ti25.known = true := rfl
@[simp] theorem ti25_kd : ti25.kd = .slc 9 := rfl
@[simp] theorem ti25_by : ti25.by' = 24 := rfl
@[simp] theorem ti25_z : ti25.z = ofL [.nils] := z_ofL _ _ rfl
@[simp] theorem ty28 : cx.ty 28 = some ti28 := rfl
@[simp] theorem kd28 : cx.kd 28 = some (.slc 4) := rfl
@[simp] theorem ti28_sz : ti28.sz = 1 := rfl
@[simp] theorem ti28_agg : ti28.isAgg = false := rfl
@[simp] theorem ti28_known : ti28.known = true := rfl
@[simp] theorem ti28_kd : ti28.kd = .slc 4 := rfl
@[simp] theorem ti28_by : ti28.by' = 24 := rfl
@[simp] theorem ti28_z : ti28.z = ofL [.nils] := z_ofL _ _ rfl
@[simp] theorem ty82 : cx.ty 82 = some ti82 := rfl
@[simp] theorem kd82 : cx.kd 82 = some (.func) := rfl
@[simp] theorem ti82_sz : ti82.sz = 1 := rfl
@[simp] theorem ti82_agg : ti82.isAgg = false := rfl
@[simp] theorem ti82_known : ti82.known = true := rfl
@[simp] theorem ti82_kd : ti82.kd = .func := rfl
@[simp] theorem ti82_by : ti82.by' = 8 := rfl
@[simp] theorem ti82_z : ti82.z = ofL [.nilf] := z_ofL _ _ rfl
end Go.Proofs.YtpipaggkbiapjaaDoor
