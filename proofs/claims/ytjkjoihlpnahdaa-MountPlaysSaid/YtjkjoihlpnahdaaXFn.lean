import Derived.Test.YtjkjoihlpnahdaaXT
/- What the Go functions compute. -/
set_option linter.unusedVariables false
namespace Go.AX
open Go.AM
namespace X

/-! (*cartridge/mount.Line).Len -/
def mount_Line_Len (l1 : (List Int)) : Option Int :=
  some (l1.length : Int)

/-! (*cartridge/mount.Line).Add -/
def mount_Line_Add (label4 : Int) (l1 : (List Int)) : Option (List Int) :=
  (need ((l1.length + ([label4] : List Int).length) * 8 ≤ 140737488355328)).bind fun u6 =>
  some (l1 ++ ([label4] : List Int))

/-! (*cartridge/mount.Line).First -/
def mount_Line_First (l1 : (List Int)) : Option (Int × Bool) :=
  (X.mount_Line_Len l1).bind fun r5 =>
  if (r5 == (0 : Int)) then
    some ((0 : Int), false)
  else
    (getI l1 (0 : Int)).bind fun e8 =>
    some (e8, true)

/-! slices.Index[[]int,int] -/
def slices_Index_Lint_int_e6  : Option Int :=
  some ((-1) : Int)

def slices_Index_Lint_int_s6 (s1 : (List Int)) (v2 : Int) (s : Int) : Option (Int ⊕ (Unit ⊕ Int)) :=
  match s with
  | x7 =>
    if (decide (x7 < (s1.length : Int))) then
      (getI s1 x7).bind fun e14 =>
      if (v2 == e14) then
        some (.inr (.inr x7))
      else
        some (.inl (wr (x7 + (1 : Int))))
    else
      some (.inr (.inl ()))

def slices_Index_Lint_int (s1 : (List Int)) (v2 : Int) : Option Int :=
  (run (X.slices_Index_Lint_int_s6 s1 v2) (0 : Int)).bind fun o6 => match o6 with
  | .inl _ => X.slices_Index_Lint_int_e6
  | .inr rv6 => some rv6

/-! slices.Contains[[]int,int] -/
def slices_Contains_Lint_int (s1 : (List Int)) (v2 : Int) : Option Bool :=
  (X.slices_Index_Lint_int s1 v2).bind fun r5 =>
  some (decide (r5 ≥ (0 : Int)))

/-! (*cartridge/mount.Line).Wants -/
def mount_Line_Wants (l1 : (List Int)) (label2 : Int) : Option Bool :=
  (X.slices_Contains_Lint_int l1 label2).bind fun r5 =>
  some r5

/-! slices.IndexFunc[[]int,int] -/
def slices_IndexFunc_Lint_int_e6  : Option Int :=
  some ((-1) : Int)

def slices_IndexFunc_Lint_int_s6 (s1 : (List Int)) (g2 : Int → Option Bool) (s : Int) : Option (Int ⊕ (Unit ⊕ Int)) :=
  match s with
  | x7 =>
    if (decide (x7 < (s1.length : Int))) then
      (getI s1 x7).bind fun e14 =>
      (g2 e14).bind fun r15 =>
      if r15 then
        some (.inr (.inr x7))
      else
        some (.inl (wr (x7 + (1 : Int))))
    else
      some (.inr (.inl ()))

def slices_IndexFunc_Lint_int (s1 : (List Int)) (g2 : Int → Option Bool) : Option Int :=
  (run (X.slices_IndexFunc_Lint_int_s6 s1 g2) (0 : Int)).bind fun o6 => match o6 with
  | .inl _ => X.slices_IndexFunc_Lint_int_e6
  | .inr rv6 => some rv6

/-! slices.DeleteFunc[[]int,int] -/
def slices_DeleteFunc_Lint_int_e12 (l18 : List Int) (i19 : Int) : Option (List Int) :=
  (need ((0 ≤ i19 ∧ i19 ≤ (l18.length : Int) ∧ (l18.length : Int) ≤ l18.length) ∧ (i19 = 0 ∨ i19 < l18.length))).bind fun u21 =>
  (need ((0 ≤ (0 : Int) ∧ (0 : Int) ≤ i19 ∧ i19 ≤ (clr l18 i19 (l18.length : Int) (0 : Int)).length) ∧ ((0 : Int) = 0 ∨ (0 : Int) < (clr l18 i19 (l18.length : Int) (0 : Int)).length))).bind fun u23 =>
  some (slc (clr l18 i19 (l18.length : Int) (0 : Int)) (0 : Int) i19)

def slices_DeleteFunc_Lint_int_j27 (j16 : Int) (l29 : List Int) (i30 : Int) : Option (((List Int) × Int × Int) ⊕ (List Int × Int)) :=
  some (.inl (l29, i30, (wr (j16 + (1 : Int)))))

def slices_DeleteFunc_Lint_int_s12 (g3 : Int → Option Bool) (s : ((List Int) × Int × Int)) : Option (((List Int) × Int × Int) ⊕ (List Int × Int)) :=
  match s with
  | (s14, i15, j16) =>
    if (decide (j16 < (s14.length : Int))) then
      (getI s14 j16).bind fun e32 =>
      (g3 e32).bind fun r34 =>
      if (!r34) then
        (getI s14 i15).bind fun e36 =>
        X.slices_DeleteFunc_Lint_int_j27 j16 (s14.set i15.toNat e32) (wr (i15 + (1 : Int)))
      else
        X.slices_DeleteFunc_Lint_int_j27 j16 s14 i15
    else
      some (.inr (s14, i15))

def slices_DeleteFunc_Lint_int (g3 : Int → Option Bool) (s1 : (List Int)) : Option (List Int) :=
  (X.slices_IndexFunc_Lint_int s1 g3).bind fun r6 =>
  if (r6 == ((-1) : Int)) then
    some s1
  else
    (run (X.slices_DeleteFunc_Lint_int_s12 g3) (s1, r6, (wr (r6 + (1 : Int))))).bind fun o12 => match o12 with
    | (l18, i19) => X.slices_DeleteFunc_Lint_int_e12 l18 i19

/-! (*cartridge/mount.Line).Serve$1 -/
def mount_Line_Serve_c1 (x1 : Int) (c2 : Int) : Option Bool :=
  some (x1 == c2)

/-! (*cartridge/mount.Line).Serve -/
def mount_Line_Serve_j8 (r7 : Int) (l11 : List Int) : Option (Int × (List Int)) :=
  (X.mount_Line_Len l11).bind fun r13 =>
  some ((wr (r7 - r13)), l11)

def mount_Line_Serve (label4 : Int) (l1 : (List Int)) : Option (Int × (List Int)) :=
  (X.mount_Line_Len l1).bind fun r7 =>
  if (decide (r7 > (0 : Int))) then
    (X.slices_DeleteFunc_Lint_int (fun a1 => X.mount_Line_Serve_c1 a1 label4) l1).bind fun r15 =>
    X.mount_Line_Serve_j8 r7 r15
  else
    X.mount_Line_Serve_j8 r7 l1

/-! cartridge/cartridgelaw23.alive -/
def cartridgelaw23_alive  : Option Bool :=
  (X.mount_Line_Len ([] : List Int)).bind fun r6 =>
  (X.mount_Line_Add (4 : Int) ([] : List Int)).bind fun r8 =>
  (X.mount_Line_First r8).bind fun r12 =>
  ((optG ((((r6 == (0 : Int)) && r12.2) && (r12.1 == (4 : Int)))) (X.mount_Line_Wants r8 (4 : Int)))).bind fun r14 =>
  if ((((r6 == (0 : Int)) && r12.2) && (r12.1 == (4 : Int))) && r14) then
    (X.mount_Line_Serve (4 : Int) r8).bind fun r15 =>
    some (r15.1 == (1 : Int))
  else
    some false

/-! cartridge/cartridgelaw23.MountPlays -/
def cartridgelaw23_MountPlays_e18  : Option Bool :=
  some true

def cartridgelaw23_MountPlays_e58 (l42 : List Int) (e33 : Act_law23) (r36 : (List Int)) (l46 : List Int) (i27 : Int) (in73 : Bool) : Option (((List Int) × (List Int) × (List Int) × Int) ⊕ (Unit ⊕ Bool)) :=
  (X.mount_Line_Wants l42 e33.Label).bind fun r75 =>
  if (r75 != in73) then
    some (.inr (.inr false))
  else
    some (.inl (l42, r36, l46, (wr (i27 + (1 : Int)))))

def cartridgelaw23_MountPlays_s58 (l46 : List Int) (e33 : Act_law23) (s : (Bool × Int)) : Option ((Bool × Int) ⊕ Bool) :=
  match s with
  | (in65, k66) =>
    if (decide (k66 < (l46.length : Int))) then
      ((optG (!in65) (getI l46 k66))).bind fun e80 =>
      some (.inl ((in65 || (e80 == e33.Label)), (wr (k66 + (1 : Int)))))
    else
      some (.inr in65)

def cartridgelaw23_MountPlays_j39 (e33 : Act_law23) (r36 : (List Int)) (i27 : Int) (l42 : List Int) (l46 : List Int) : Option (((List Int) × (List Int) × (List Int) × Int) ⊕ (Unit ⊕ Bool)) :=
  (X.mount_Line_First l42).bind fun r49 =>
  (X.mount_Line_Len l42).bind fun r52 =>
  ((optG ((!(((r52 != (l46.length : Int)) || (r49.2 != (decide ((l46.length : Int) > (0 : Int))))))) && (r49.2)) (getI l46 (0 : Int)))).bind fun e53 =>
  if (((r52 != (l46.length : Int)) || (r49.2 != (decide ((l46.length : Int) > (0 : Int))))) || (r49.2 && (r49.1 != e53))) then
    some (.inr (.inr false))
  else
    (run (X.cartridgelaw23_MountPlays_s58 l46 e33) (false, (0 : Int))).bind fun o58 => match o58 with
    | in73 => X.cartridgelaw23_MountPlays_e58 l42 e33 r36 l46 i27 in73

def cartridgelaw23_MountPlays_e94 (e33 : Act_law23) (l21 : (List Int)) (r36 : (List Int)) (i27 : Int) (n110 : Int) (l112 : List Int) : Option (((List Int) × (List Int) × (List Int) × Int) ⊕ (Unit ⊕ Bool)) :=
  (X.mount_Line_Serve e33.Label l21).bind fun r115 =>
  if (r115.1 != n110) then
    some (.inr (.inr false))
  else
    X.cartridgelaw23_MountPlays_j39 e33 r36 i27 r115.2 l112

def cartridgelaw23_MountPlays_j121 (k104 : Int) (n128 : Int) (l130 : List Int) : Option ((Int × (List Int) × Int) ⊕ (Int × List Int)) :=
  some (.inl (n128, l130, (wr (k104 + (1 : Int)))))

def cartridgelaw23_MountPlays_s94 (now26 : (List Int)) (e33 : Act_law23) (s : (Int × (List Int) × Int)) : Option ((Int × (List Int) × Int) ⊕ (Int × List Int)) :=
  match s with
  | (n101, left103, k104) =>
    if (decide (k104 < (now26.length : Int))) then
      (getI now26 k104).bind fun e132 =>
      if (e132 == e33.Label) then
        X.cartridgelaw23_MountPlays_j121 k104 (wr (n101 + (1 : Int))) left103
      else
        (getI now26 k104).bind fun e133 =>
        (need ((left103.length + ([e133] : List Int).length) * 8 ≤ 140737488355328)).bind fun u134 =>
        X.cartridgelaw23_MountPlays_j121 k104 n101 (left103 ++ ([e133] : List Int))
    else
      some (.inr (n101, left103))

def cartridgelaw23_MountPlays_s18 (l1 : (List Act_law23)) (s : ((List Int) × (List Int) × (List Int) × Int)) : Option (((List Int) × (List Int) × (List Int) × Int) ⊕ (Unit ⊕ Bool)) :=
  match s with
  | (l21, l24, now26, i27) =>
    if (decide (i27 < (l1.length : Int))) then
      (getI l1 i27).bind fun e33 =>
      (X.mount_Line_Add i27 l24).bind fun r36 =>
      if (e33.Way == (0 : Int)) then
        (X.mount_Line_Add e33.Label l21).bind fun r84 =>
        (need ((now26.length + ([e33.Label] : List Int).length) * 8 ≤ 140737488355328)).bind fun u87 =>
        X.cartridgelaw23_MountPlays_j39 e33 r36 i27 r84 (now26 ++ ([e33.Label] : List Int))
      else
        if (e33.Way == (1 : Int)) then
          (run (X.cartridgelaw23_MountPlays_s94 now26 e33) ((0 : Int), ([] : List Int), (0 : Int))).bind fun o94 => match o94 with
          | (n110, l112) => X.cartridgelaw23_MountPlays_e94 e33 l21 r36 i27 n110 l112
        else
          X.cartridgelaw23_MountPlays_j39 e33 r36 i27 l21 now26
    else
      some (.inr (.inl ()))

def cartridgelaw23_MountPlays (l1 : (List Act_law23)) : Option Bool :=
  (X.cartridgelaw23_alive).bind fun r4 =>
  if ((!r4) || (decide ((l1.length : Int) > (200 : Int)))) then
    some r4
  else
    (run (X.cartridgelaw23_MountPlays_s18 l1) (([] : List Int), ([] : List Int), ([] : List Int), (0 : Int))).bind fun o18 => match o18 with
    | .inl _ => X.cartridgelaw23_MountPlays_e18
    | .inr rv18 => some rv18

end X
end Go.AX
