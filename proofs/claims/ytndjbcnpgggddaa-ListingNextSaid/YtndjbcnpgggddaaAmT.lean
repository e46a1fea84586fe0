import Derived.Test.YtndjbcnpgggddaaProg
import Derived.Test.YtndjbcnpgggddaaLibB
import Derived.KernelRfl
/- The types that the walk reads; written by gen.py. -/
namespace Go.Proofs.Ytndjbcnpgggddaa
open Go.AM

def ti3 : TI := ⟨.int .i64, 1, 8, .int .i64 0⟩
def ti4 : TI := ⟨.bool, 1, 1, .bool false⟩
def ti9 : TI := ⟨.str, 1, 16, .string ⟨#[]⟩⟩
def ti31 : TI := ⟨.slc 36, 1, 24, .slice none 0 0⟩
def ti32 : TI := ⟨.slc 9, 1, 24, .slice none 0 0⟩
def ti34 : TI := ⟨.slc 87, 1, 24, .slice none 0 0⟩
def ti36 : TI := ⟨.struct [(9, 0), (3, 1), (3, 2), (3, 3), (3, 4), (4, 5), (34, 6)], 7, 80, .agg #[.string ⟨#[]⟩, .int .i64 0, .int .i64 0, .int .i64 0, .int .i64 0, .bool false, .slice none 0 0]⟩
def ti83 : TI := ⟨.func, 1, 8, .nilFunc⟩
def ti85 : TI := ⟨.struct [(9, 0), (3, 1), (3, 2), (3, 3), (3, 4), (3, 5), (3, 6), (4, 7)], 8, 72, .agg #[.string ⟨#[]⟩, .int .i64 0, .int .i64 0, .int .i64 0, .int .i64 0, .int .i64 0, .int .i64 0, .bool false]⟩
def ti87 : TI := ⟨.struct [(85, 0), (3, 8), (3, 9)], 10, 88, .agg #[.string ⟨#[]⟩, .int .i64 0, .int .i64 0, .int .i64 0, .int .i64 0, .int .i64 0, .int .i64 0, .bool false, .int .i64 0, .int .i64 0]⟩
def ti105 : TI := ⟨.int .u64, 1, 8, .int .u64 0⟩
def tyF : Nat → Option TI
  | 3 => some ti3
  | 4 => some ti4
  | 9 => some ti9
  | 31 => some ti31
  | 32 => some ti32
  | 34 => some ti34
  | 36 => some ti36
  | 83 => some ti83
  | 85 => some ti85
  | 87 => some ti87
  | 105 => some ti105
  | _ => none

theorem tok3 : TyOK Try.prog 3 ti3 := ⟨Try.underlying3, by kernel_rfl, rfl⟩
theorem tok4 : TyOK Try.prog 4 ti4 := ⟨Try.underlying4, by kernel_rfl, rfl⟩
theorem tok9 : TyOK Try.prog 9 ti9 := ⟨Try.underlying9, by kernel_rfl, rfl⟩
theorem tok31 : TyOK Try.prog 31 ti31 := ⟨Try.underlying31, by kernel_rfl, rfl⟩
theorem tok32 : TyOK Try.prog 32 ti32 := ⟨Try.underlying32, by kernel_rfl, rfl⟩
theorem tok34 : TyOK Try.prog 34 ti34 := ⟨Try.underlying34, by kernel_rfl, rfl⟩
theorem tok36 : TyOK Try.prog 36 ti36 := ⟨⟨_, Try.underlying36, rfl, by kernel_rfl, by kernel_rfl, rfl⟩, by kernel_rfl, rfl⟩
theorem tok83 : TyOK Try.prog 83 ti83 := ⟨⟨_, _, _, Try.underlying83⟩, by kernel_rfl, rfl⟩
theorem tok85 : TyOK Try.prog 85 ti85 := ⟨⟨_, Try.underlying85, rfl, by kernel_rfl, by kernel_rfl, rfl⟩, by kernel_rfl, rfl⟩
theorem tok87 : TyOK Try.prog 87 ti87 := ⟨⟨_, Try.underlying87, rfl, by kernel_rfl, by kernel_rfl, rfl⟩, by kernel_rfl, rfl⟩
theorem tok105 : TyOK Try.prog 105 ti105 := ⟨Try.underlying105, by kernel_rfl, rfl⟩
theorem tyF_ok (t : Nat) (i : TI) (h : tyF t = some i) : TyOK Try.prog t i := by
  unfold tyF at h
  split at h
  · injection h with h; subst h; exact tok3
  · injection h with h; subst h; exact tok4
  · injection h with h; subst h; exact tok9
  · injection h with h; subst h; exact tok31
  · injection h with h; subst h; exact tok32
  · injection h with h; subst h; exact tok34
  · injection h with h; subst h; exact tok36
  · injection h with h; subst h; exact tok83
  · injection h with h; subst h; exact tok85
  · injection h with h; subst h; exact tok87
  · injection h with h; subst h; exact tok105
  · cases h

noncomputable def cx : Cx := { P := Try.prog, ty := tyF, ok := tyF_ok }
theorem cx_P : cx.P = Try.prog := rfl
@[simp] theorem ty3 : cx.ty 3 = some ti3 := rfl
@[simp] theorem kd3 : cx.kd 3 = some (.int .i64) := rfl
@[simp] theorem ti3_sz : ti3.sz = 1 := rfl
@[simp] theorem ti3_agg : ti3.isAgg = false := rfl
@[simp] theorem ti3_known : ti3.known = true := rfl
@[simp] theorem ti3_kd : ti3.kd = .int .i64 := rfl
@[simp] theorem ti3_by : ti3.by' = 8 := rfl
@[simp] theorem ti3_z : ti3.z = ofL [.int .i64 0] := z_ofL _ _ rfl
@[simp] theorem ty4 : cx.ty 4 = some ti4 := rfl
@[simp] theorem kd4 : cx.kd 4 = some (.bool) := rfl
@[simp] theorem ti4_sz : ti4.sz = 1 := rfl
@[simp] theorem ti4_agg : ti4.isAgg = false := rfl
@[simp] theorem ti4_known : ti4.known = true := rfl
@[simp] theorem ti4_kd : ti4.kd = .bool := rfl
@[simp] theorem ti4_by : ti4.by' = 1 := rfl
@[simp] theorem ti4_z : ti4.z = ofL [.bool false] := z_ofL _ _ rfl
@[simp] theorem ty9 : cx.ty 9 = some ti9 := rfl
@[simp] theorem kd9 : cx.kd 9 = some (.str) := rfl
@[simp] theorem ti9_sz : ti9.sz = 1 := rfl
@[simp] theorem ti9_agg : ti9.isAgg = false := rfl
@[simp] theorem ti9_known : ti9.known = true := rfl
@[simp] theorem ti9_kd : ti9.kd = .str := rfl
@[simp] theorem ti9_by : ti9.by' = 16 := rfl
@[simp] theorem ti9_z : ti9.z = ofL [.str ⟨#[]⟩] := z_ofL _ _ rfl
@[simp] theorem ty31 : cx.ty 31 = some ti31 := rfl
@[simp] theorem kd31 : cx.kd 31 = some (.slc 36) := rfl
@[simp] theorem ti31_sz : ti31.sz = 1 := rfl
@[simp] theorem ti31_agg : ti31.isAgg = false := rfl
@[simp] theorem ti31_known : ti31.known = true := rfl
@[simp] theorem ti31_kd : ti31.kd = .slc 36 := rfl
@[simp] theorem ti31_by : ti31.by' = 24 := rfl
@[simp] theorem ti31_z : ti31.z = ofL [.nils] := z_ofL _ _ rfl
@[simp] theorem ty32 : cx.ty 32 = some ti32 := rfl
@[simp] theorem kd32 : cx.kd 32 = some (.slc 9) := rfl
@[simp] theorem ti32_sz : ti32.sz = 1 := rfl
@[simp] theorem ti32_agg : ti32.isAgg = false := rfl
@[simp] theorem ti32_known : ti32.known = true := rfl
@[simp] theorem ti32_kd : ti32.kd = .slc 9 := rfl
@[simp] theorem ti32_by : ti32.by' = 24 := rfl
@[simp] theorem ti32_z : ti32.z = ofL [.nils] := z_ofL _ _ rfl
@[simp] theorem ty34 : cx.ty 34 = some ti34 := rfl
@[simp] theorem kd34 : cx.kd 34 = some (.slc 87) := rfl
@[simp] theorem ti34_sz : ti34.sz = 1 := rfl
@[simp] theorem ti34_agg : ti34.isAgg = false := rfl
@[simp] theorem ti34_known : ti34.known = true := rfl
@[simp] theorem ti34_kd : ti34.kd = .slc 87 := rfl
@[simp] theorem ti34_by : ti34.by' = 24 := rfl
@[simp] theorem ti34_z : ti34.z = ofL [.nils] := z_ofL _ _ rfl
@[simp] theorem ty36 : cx.ty 36 = some ti36 := rfl
@[simp] theorem kd36 : cx.kd 36 = some (.struct [(9, 0), (3, 1), (3, 2), (3, 3), (3, 4), (4, 5), (34, 6)]) := rfl
@[simp] theorem ti36_sz : ti36.sz = 7 := rfl
@[simp] theorem ti36_agg : ti36.isAgg = true := rfl
@[simp] theorem ti36_known : ti36.known = true := rfl
@[simp] theorem ti36_kd : ti36.kd = .struct [(9, 0), (3, 1), (3, 2), (3, 3), (3, 4), (4, 5), (34, 6)] := rfl
@[simp] theorem ti36_by : ti36.by' = 80 := rfl
@[simp] theorem ti36_z : ti36.z = ofL [.str ⟨#[]⟩, .int .i64 0, .int .i64 0, .int .i64 0, .int .i64 0, .bool false, .nils] := z_ofL _ _ rfl
@[simp] theorem fs36_0 : fieldsA cx 36 0 = some (ti9, 0) := rfl
@[simp] theorem fs36_1 : fieldsA cx 36 1 = some (ti3, 1) := rfl
@[simp] theorem fs36_2 : fieldsA cx 36 2 = some (ti3, 2) := rfl
@[simp] theorem fs36_3 : fieldsA cx 36 3 = some (ti3, 3) := rfl
@[simp] theorem fs36_4 : fieldsA cx 36 4 = some (ti3, 4) := rfl
@[simp] theorem fs36_5 : fieldsA cx 36 5 = some (ti4, 5) := rfl
@[simp] theorem fs36_6 : fieldsA cx 36 6 = some (ti34, 6) := rfl
@[simp] theorem ty83 : cx.ty 83 = some ti83 := rfl
@[simp] theorem kd83 : cx.kd 83 = some (.func) := rfl
@[simp] theorem ti83_sz : ti83.sz = 1 := rfl
@[simp] theorem ti83_agg : ti83.isAgg = false := rfl
@[simp] theorem ti83_known : ti83.known = true := rfl
@[simp] theorem ti83_kd : ti83.kd = .func := rfl
@[simp] theorem ti83_by : ti83.by' = 8 := rfl
@[simp] theorem ti83_z : ti83.z = ofL [.nilf] := z_ofL _ _ rfl
@[simp] theorem ty85 : cx.ty 85 = some ti85 := rfl
@[simp] theorem kd85 : cx.kd 85 = some (.struct [(9, 0), (3, 1), (3, 2), (3, 3), (3, 4), (3, 5), (3, 6), (4, 7)]) := rfl
@[simp] theorem ti85_sz : ti85.sz = 8 := rfl
@[simp] theorem ti85_agg : ti85.isAgg = true := rfl
@[simp] theorem ti85_known : ti85.known = true := rfl
@[simp] theorem ti85_kd : ti85.kd = .struct [(9, 0), (3, 1), (3, 2), (3, 3), (3, 4), (3, 5), (3, 6), (4, 7)] := rfl
@[simp] theorem ti85_by : ti85.by' = 72 := rfl
@[simp] theorem ti85_z : ti85.z = ofL [.str ⟨#[]⟩, .int .i64 0, .int .i64 0, .int .i64 0, .int .i64 0, .int .i64 0, .int .i64 0, .bool false] := z_ofL _ _ rfl
@[simp] theorem fs85_0 : fieldsA cx 85 0 = some (ti9, 0) := rfl
@[simp] theorem fs85_1 : fieldsA cx 85 1 = some (ti3, 1) := rfl
@[simp] theorem fs85_2 : fieldsA cx 85 2 = some (ti3, 2) := rfl
@[simp] theorem fs85_3 : fieldsA cx 85 3 = some (ti3, 3) := rfl
@[simp] theorem fs85_4 : fieldsA cx 85 4 = some (ti3, 4) := rfl
@[simp] theorem fs85_5 : fieldsA cx 85 5 = some (ti3, 5) := rfl
@[simp] theorem fs85_6 : fieldsA cx 85 6 = some (ti3, 6) := rfl
@[simp] theorem fs85_7 : fieldsA cx 85 7 = some (ti4, 7) := rfl
@[simp] theorem ty87 : cx.ty 87 = some ti87 := rfl
@[simp] theorem kd87 : cx.kd 87 = some (.struct [(85, 0), (3, 8), (3, 9)]) := rfl
@[simp] theorem ti87_sz : ti87.sz = 10 := rfl
@[simp] theorem ti87_agg : ti87.isAgg = true := rfl
@[simp] theorem ti87_known : ti87.known = true := rfl
@[simp] theorem ti87_kd : ti87.kd = .struct [(85, 0), (3, 8), (3, 9)] := rfl
@[simp] theorem ti87_by : ti87.by' = 88 := rfl
@[simp] theorem ti87_z : ti87.z = ofL [.str ⟨#[]⟩, .int .i64 0, .int .i64 0, .int .i64 0, .int .i64 0, .int .i64 0, .int .i64 0, .bool false, .int .i64 0, .int .i64 0] := z_ofL _ _ rfl
@[simp] theorem fs87_0 : fieldsA cx 87 0 = some (ti85, 0) := rfl
@[simp] theorem fs87_1 : fieldsA cx 87 1 = some (ti3, 8) := rfl
@[simp] theorem fs87_2 : fieldsA cx 87 2 = some (ti3, 9) := rfl
@[simp] theorem ty105 : cx.ty 105 = some ti105 := rfl
@[simp] theorem kd105 : cx.kd 105 = some (.int .u64) := rfl
@[simp] theorem ti105_sz : ti105.sz = 1 := rfl
@[simp] theorem ti105_agg : ti105.isAgg = false := rfl
@[simp] theorem ti105_known : ti105.known = true := rfl
@[simp] theorem ti105_kd : ti105.kd = .int .u64 := rfl
@[simp] theorem ti105_by : ti105.by' = 8 := rfl
@[simp] theorem ti105_z : ti105.z = ofL [.int .u64 0] := z_ofL _ _ rfl
end Go.Proofs.Ytndjbcnpgggddaa
