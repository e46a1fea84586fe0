import Derived.Test.YtgkbjnhpmlfgdaaXT
/- What the Go functions compute. -/
set_option linter.unusedVariables false
namespace Go.AX
open Go.AM
namespace X

/-! slices.Index[[]int,int] -/
def slices_Index_Lint_int_e6  : Option Int :=
  some ((-1) : Int)

def slices_Index_Lint_int_s6 (s1 : (List Int)) (v2 : Int) (s : Int) : Option (Int ⊕ (Unit ⊕ Int)) :=
  match s with
  | x7 =>
    if (decide (x7 < (s1.length : Int))) then
      (getI s1 x7).bind fun e14 =>
      if (v2 == e14) then
        some (.inr (.inr x7))
      else
        some (.inl (wr (x7 + (1 : Int))))
    else
      some (.inr (.inl ()))

def slices_Index_Lint_int (s1 : (List Int)) (v2 : Int) : Option Int :=
  (run (X.slices_Index_Lint_int_s6 s1 v2) (0 : Int)).bind fun o6 => match o6 with
  | .inl _ => X.slices_Index_Lint_int_e6
  | .inr rv6 => some rv6

/-! slices.Contains[[]int,int] -/
def slices_Contains_Lint_int (s1 : (List Int)) (v2 : Int) : Option Bool :=
  (X.slices_Index_Lint_int s1 v2).bind fun r5 =>
  some (decide (r5 ≥ (0 : Int)))

/-! slices.Clone[[]int,int] -/
def slices_Clone_Lint_int (s1 : (List Int)) : Option (List Int) :=
  nilU s1 fun z5 =>
  if z5 then
    some ([] : (List Int))
  else
    (need (s1.length * 8 ≤ 140737488355328)).bind fun u8 =>
    some s1

/-! cartridge/shelf.New -/
def shelf_New_e9 (labels1 : (List Int)) (drives2 : Int) : Option ((Option ((List Int) × (List Int))) × Int) :=
  (X.slices_Clone_Lint_int labels1).bind fun r12 =>
  (need (0 ≤ drives2 ∧ drives2 * 8 ≤ 281474976710656)).bind fun u13 =>
  some ((some (r12, (List.replicate drives2.toNat (0 : Int)))), (0 : Int))

def shelf_New_s9 (labels1 : (List Int)) (s : Int) : Option (Int ⊕ (Unit ⊕ ((Option ((List Int) × (List Int))) × Int))) :=
  match s with
  | x10 =>
    if (decide (x10 < (labels1.length : Int))) then
      (getI labels1 x10).bind fun e20 =>
      ((optG (!((decide (e20 < (1 : Int))))) (need (0 ≤ (0 : Int) ∧ (0 : Int) ≤ x10 ∧ x10 ≤ labels1.length)))).bind fun u22 =>
      ((optG (!((decide (e20 < (1 : Int))))) (X.slices_Contains_Lint_int (slc labels1 (0 : Int) x10) e20))).bind fun r23 =>
      if ((decide (e20 < (1 : Int))) || r23) then
        some (.inr (.inr (none, (1 : Int))))
      else
        some (.inl (wr (x10 + (1 : Int))))
    else
      some (.inr (.inl ()))

def shelf_New (labels1 : (List Int)) (drives2 : Int) : Option ((Option ((List Int) × (List Int))) × Int) :=
  if (((decide ((labels1.length : Int) > (30 : Int))) || (decide (drives2 < (1 : Int)))) || (decide (drives2 > (4 : Int)))) then
    some (none, (1 : Int))
  else
    (run (X.shelf_New_s9 labels1) (0 : Int)).bind fun o9 => match o9 with
    | .inl _ => X.shelf_New_e9 labels1 drives2
    | .inr rv9 => some rv9

/-! cartridge/robot.New -/
def robot_New (labels1 : (List Int)) (drives2 : Int) : Option ((Option ((List Int) × (List Int) × Int × (List Int) × (List Int) × (List Int))) × Int) :=
  (X.shelf_New labels1 drives2).bind fun r5 =>
  match r5.1 with
  | none =>
    if (r5.2 != (0 : Int)) then
      some (none, r5.2)
    else
      (X.slices_Clone_Lint_int labels1).bind fun r10 =>
      none
  | some o14 =>
    if (r5.2 != (0 : Int)) then
      some (none, r5.2)
    else
      (X.slices_Clone_Lint_int labels1).bind fun r21 =>
      some ((some (o14.1, o14.2, drives2, r21, ([] : List Int), ([] : List Int))), (0 : Int))

/-! cartridge/cartridgelaw24.num -/
def cartridgelaw24_num (e1 : Int) : Option Int :=
  some e1

/-! slices.IndexFunc[[]int,int] -/
def slices_IndexFunc_Lint_int_e6  : Option Int :=
  some ((-1) : Int)

def slices_IndexFunc_Lint_int_s6 (s1 : (List Int)) (g2 : Int → Option Bool) (s : Int) : Option (Int ⊕ (Unit ⊕ Int)) :=
  match s with
  | x7 =>
    if (decide (x7 < (s1.length : Int))) then
      (getI s1 x7).bind fun e14 =>
      (g2 e14).bind fun r15 =>
      if r15 then
        some (.inr (.inr x7))
      else
        some (.inl (wr (x7 + (1 : Int))))
    else
      some (.inr (.inl ()))

def slices_IndexFunc_Lint_int (s1 : (List Int)) (g2 : Int → Option Bool) : Option Int :=
  (run (X.slices_IndexFunc_Lint_int_s6 s1 g2) (0 : Int)).bind fun o6 => match o6 with
  | .inl _ => X.slices_IndexFunc_Lint_int_e6
  | .inr rv6 => some rv6

/-! slices.ContainsFunc[[]int,int] -/
def slices_ContainsFunc_Lint_int (s1 : (List Int)) (g2 : Int → Option Bool) : Option Bool :=
  (X.slices_IndexFunc_Lint_int s1 g2).bind fun r5 =>
  some (decide (r5 ≥ (0 : Int)))

/-! (*cartridge/robot.Robot).is -/
def robot_Robot_is (labels1 : (List Int)) (drives2 : (List Int)) (drives3 : Int) (labels4 : (List Int)) (l5 : (List Int)) (order6 : (List Int)) (label7 : Int) : Option Bool :=
  (X.slices_Contains_Lint_int labels4 label7).bind fun r10 =>
  some r10

/-! (*cartridge/robot.Robot).Serve$1 -/
def robot_Robot_Serve_c1 (n1 : Int) (labels2 : (List Int)) (drives3 : (List Int)) (drives4 : Int) (labels5 : (List Int)) (l6 : (List Int)) (order7 : (List Int)) : Option Bool :=
  (X.robot_Robot_is labels2 drives3 drives4 labels5 l6 order7 n1).bind fun r10 =>
  some (!r10)

/-! (*cartridge/mount.Line).Add -/
def mount_Line_Add_in_Robot_robot (label13 : Int) (labels1 : (List Int)) (drives2 : (List Int)) (drives3 : Int) (labels4 : (List Int)) (l5 : (List Int)) (order6 : (List Int)) : Option ((List Int) × (List Int) × Int × (List Int) × (List Int) × (List Int)) :=
  (need ((l5.length + ([label13] : List Int).length) * 8 ≤ 140737488355328)).bind fun u15 =>
  some (labels1, drives2, drives3, labels4, (l5 ++ ([label13] : List Int)), order6)

/-! (*cartridge/mount.Line).Len -/
def mount_Line_Len_in_Robot_robot (labels1 : (List Int)) (drives2 : (List Int)) (drives3 : Int) (labels4 : (List Int)) (l5 : (List Int)) (order6 : (List Int)) : Option Int :=
  some (l5.length : Int)

/-! (*cartridge/robot.Robot).Waiting -/
def robot_Robot_Waiting (labels1 : (List Int)) (drives2 : (List Int)) (drives3 : Int) (labels4 : (List Int)) (l5 : (List Int)) (order6 : (List Int)) : Option Int :=
  (X.mount_Line_Len_in_Robot_robot labels1 drives2 drives3 labels4 l5 order6).bind fun r11 =>
  some r11

/-! (*cartridge/shelf.Shelf).drive -/
def shelf_Shelf_drive (labels1 : (List Int)) (drives2 : (List Int)) (i3 : Int) : Option Bool :=
  some ((decide (i3 ≥ (0 : Int))) && (decide (i3 < (drives2.length : Int))))

/-! (*cartridge/shelf.Shelf).Mounted -/
def shelf_Shelf_Mounted (labels1 : (List Int)) (drives2 : (List Int)) (drive3 : Int) : Option Int :=
  (X.shelf_Shelf_drive labels1 drives2 drive3).bind fun r7 =>
  if (!r7) then
    some (0 : Int)
  else
    (getI drives2 drive3).bind fun e10 =>
    some e10

/-! (*cartridge/mount.Line).Wants -/
def mount_Line_Wants_in_Robot_robot (labels1 : (List Int)) (drives2 : (List Int)) (drives3 : Int) (labels4 : (List Int)) (l5 : (List Int)) (order6 : (List Int)) (label7 : Int) : Option Bool :=
  (X.slices_Contains_Lint_int l5 label7).bind fun r10 =>
  some r10

/-! (*cartridge/robot.Robot).ready -/
def robot_Robot_ready_e10  : Option (Int × Bool) :=
  some ((0 : Int), false)

def robot_Robot_ready_s10 (drives3 : Int) (labels1 : (List Int)) (drives2 : (List Int)) (labels4 : (List Int)) (l5 : (List Int)) (order6 : (List Int)) (s : Int) : Option (Int ⊕ (Unit ⊕ (Int × Bool))) :=
  match s with
  | x11 =>
    if (decide (x11 < drives3)) then
      (X.shelf_Shelf_Mounted labels1 drives2 x11).bind fun r18 =>
      ((optG ((r18 != (0 : Int))) (X.mount_Line_Wants_in_Robot_robot labels1 drives2 drives3 labels4 l5 order6 r18))).bind fun r20 =>
      if ((r18 != (0 : Int)) && r20) then
        some (.inr (.inr (r18, true)))
      else
        some (.inl (wr (x11 + (1 : Int))))
    else
      some (.inr (.inl ()))

def robot_Robot_ready (labels1 : (List Int)) (drives2 : (List Int)) (drives3 : Int) (labels4 : (List Int)) (l5 : (List Int)) (order6 : (List Int)) : Option (Int × Bool) :=
  (run (X.robot_Robot_ready_s10 drives3 labels1 drives2 labels4 l5 order6) (0 : Int)).bind fun o10 => match o10 with
  | .inl _ => X.robot_Robot_ready_e10
  | .inr rv10 => some rv10

/-! slices.DeleteFunc[[]int,int] -/
def slices_DeleteFunc_Lint_int_e12 (l18 : List Int) (i19 : Int) : Option (List Int) :=
  (need ((0 ≤ i19 ∧ i19 ≤ (l18.length : Int) ∧ (l18.length : Int) ≤ l18.length) ∧ (i19 = 0 ∨ i19 < l18.length))).bind fun u21 =>
  (need ((0 ≤ (0 : Int) ∧ (0 : Int) ≤ i19 ∧ i19 ≤ (clr l18 i19 (l18.length : Int) (0 : Int)).length) ∧ ((0 : Int) = 0 ∨ (0 : Int) < (clr l18 i19 (l18.length : Int) (0 : Int)).length))).bind fun u23 =>
  some (slc (clr l18 i19 (l18.length : Int) (0 : Int)) (0 : Int) i19)

def slices_DeleteFunc_Lint_int_j27 (j16 : Int) (l29 : List Int) (i30 : Int) : Option (((List Int) × Int × Int) ⊕ (List Int × Int)) :=
  some (.inl (l29, i30, (wr (j16 + (1 : Int)))))

def slices_DeleteFunc_Lint_int_s12 (g3 : Int → Option Bool) (s : ((List Int) × Int × Int)) : Option (((List Int) × Int × Int) ⊕ (List Int × Int)) :=
  match s with
  | (s14, i15, j16) =>
    if (decide (j16 < (s14.length : Int))) then
      (getI s14 j16).bind fun e32 =>
      (g3 e32).bind fun r34 =>
      if (!r34) then
        (getI s14 i15).bind fun e36 =>
        X.slices_DeleteFunc_Lint_int_j27 j16 (s14.set i15.toNat e32) (wr (i15 + (1 : Int)))
      else
        X.slices_DeleteFunc_Lint_int_j27 j16 s14 i15
    else
      some (.inr (s14, i15))

def slices_DeleteFunc_Lint_int (g3 : Int → Option Bool) (s1 : (List Int)) : Option (List Int) :=
  (X.slices_IndexFunc_Lint_int s1 g3).bind fun r6 =>
  if (r6 == ((-1) : Int)) then
    some s1
  else
    (run (X.slices_DeleteFunc_Lint_int_s12 g3) (s1, r6, (wr (r6 + (1 : Int))))).bind fun o12 => match o12 with
    | (l18, i19) => X.slices_DeleteFunc_Lint_int_e12 l18 i19

/-! (*cartridge/mount.Line).Serve$1 -/
def mount_Line_Serve_c1 (x1 : Int) (c2 : Int) : Option Bool :=
  some (x1 == c2)

/-! (*cartridge/mount.Line).Serve -/
def mount_Line_Serve_in_Robot_robot_j17 (labels1 : (List Int)) (drives2 : (List Int)) (drives3 : Int) (labels4 : (List Int)) (order6 : (List Int)) (r16 : Int) (l22 : List Int) : Option (Int × ((List Int) × (List Int) × Int × (List Int) × (List Int) × (List Int))) :=
  (X.mount_Line_Len_in_Robot_robot labels1 drives2 drives3 labels4 l22 order6).bind fun r25 =>
  some ((wr (r16 - r25)), (labels1, drives2, drives3, labels4, l22, order6))

def mount_Line_Serve_in_Robot_robot (label13 : Int) (labels1 : (List Int)) (drives2 : (List Int)) (drives3 : Int) (labels4 : (List Int)) (l5 : (List Int)) (order6 : (List Int)) : Option (Int × ((List Int) × (List Int) × Int × (List Int) × (List Int) × (List Int))) :=
  (X.mount_Line_Len_in_Robot_robot labels1 drives2 drives3 labels4 l5 order6).bind fun r16 =>
  if (decide (r16 > (0 : Int))) then
    (X.slices_DeleteFunc_Lint_int (fun a1 => X.mount_Line_Serve_c1 a1 label13) l5).bind fun r27 =>
    X.mount_Line_Serve_in_Robot_robot_j17 labels1 drives2 drives3 labels4 order6 r16 r27
  else
    X.mount_Line_Serve_in_Robot_robot_j17 labels1 drives2 drives3 labels4 order6 r16 l5

/-! (*cartridge/mount.Line).First -/
def mount_Line_First_in_Robot_robot (labels1 : (List Int)) (drives2 : (List Int)) (drives3 : Int) (labels4 : (List Int)) (l5 : (List Int)) (order6 : (List Int)) : Option (Int × Bool) :=
  (X.mount_Line_Len_in_Robot_robot labels1 drives2 drives3 labels4 l5 order6).bind fun r10 =>
  if (r10 == (0 : Int)) then
    some ((0 : Int), false)
  else
    (getI l5 (0 : Int)).bind fun e13 =>
    some (e13, true)

/-! (*cartridge/robot.Robot).empty -/
def robot_Robot_empty_e10  : Option (Int × Bool) :=
  some ((0 : Int), false)

def robot_Robot_empty_s10 (drives3 : Int) (labels1 : (List Int)) (drives2 : (List Int)) (s : Int) : Option (Int ⊕ (Unit ⊕ (Int × Bool))) :=
  match s with
  | x11 =>
    if (decide (x11 < drives3)) then
      (X.shelf_Shelf_Mounted labels1 drives2 x11).bind fun r18 =>
      if (r18 == (0 : Int)) then
        some (.inr (.inr (x11, true)))
      else
        some (.inl (wr (x11 + (1 : Int))))
    else
      some (.inr (.inl ()))

def robot_Robot_empty (labels1 : (List Int)) (drives2 : (List Int)) (drives3 : Int) (labels4 : (List Int)) (l5 : (List Int)) (order6 : (List Int)) : Option (Int × Bool) :=
  (run (X.robot_Robot_empty_s10 drives3 labels1 drives2) (0 : Int)).bind fun o10 => match o10 with
  | .inl _ => X.robot_Robot_empty_e10
  | .inr rv10 => some rv10

/-! (*cartridge/shelf.Shelf).is -/
def shelf_Shelf_is (labels1 : (List Int)) (drives2 : (List Int)) (label3 : Int) : Option Bool :=
  (X.slices_Contains_Lint_int labels1 label3).bind fun r6 =>
  some r6

/-! (*cartridge/shelf.Shelf).Drive -/
def shelf_Shelf_Drive (labels1 : (List Int)) (drives2 : (List Int)) (label3 : Int) : Option Int :=
  (X.shelf_Shelf_is labels1 drives2 label3).bind fun r7 =>
  if (!r7) then
    some ((-1) : Int)
  else
    (X.slices_Index_Lint_int drives2 label3).bind fun r10 =>
    some r10

/-! (*cartridge/shelf.Shelf).Move -/
def shelf_Shelf_Move (label5 : Int) (drive6 : Int) (labels1 : (List Int)) (drives2 : (List Int)) : Option (Int × ((List Int) × (List Int))) :=
  (X.shelf_Shelf_is labels1 drives2 label5).bind fun r10 =>
  ((optG (!((!r10))) (X.shelf_Shelf_drive labels1 drives2 drive6))).bind fun r11 =>
  if ((!r10) || (!r11)) then
    some ((1 : Int), (labels1, drives2))
  else
    (X.shelf_Shelf_Drive labels1 drives2 label5).bind fun r14 =>
    ((optG (!((r14 != ((-1) : Int)))) (getI drives2 drive6))).bind fun e15 =>
    if ((r14 != ((-1) : Int)) || (e15 != (0 : Int))) then
      some ((11 : Int), (labels1, drives2))
    else
      (getI drives2 drive6).bind fun e18 =>
      some ((0 : Int), (labels1, (drives2.set drive6.toNat label5)))

/-! (*cartridge/shelf.Shelf).Back -/
def shelf_Shelf_Back (drive5 : Int) (labels1 : (List Int)) (drives2 : (List Int)) : Option (Int × ((List Int) × (List Int))) :=
  (X.shelf_Shelf_drive labels1 drives2 drive5).bind fun r9 =>
  if (!r9) then
    some ((1 : Int), (labels1, drives2))
  else
    (getI drives2 drive5).bind fun e12 =>
    if (e12 == (0 : Int)) then
      some ((11 : Int), (labels1, drives2))
    else
      (getI drives2 drive5).bind fun e15 =>
      some ((0 : Int), (labels1, (drives2.set drive5.toNat (0 : Int))))

/-! (*cartridge/robot.Robot).pick -/
def robot_Robot_pick (labels1 : (List Int)) (drives2 : (List Int)) (drives3 : Int) (labels4 : (List Int)) (l5 : (List Int)) (order6 : (List Int)) : Option ((List Int) × (List Int) × Int × (List Int) × (List Int) × (List Int)) :=
  (X.mount_Line_First_in_Robot_robot labels1 drives2 drives3 labels4 l5 order6).bind fun r14 =>
  (X.robot_Robot_empty labels1 drives2 drives3 labels4 l5 order6).bind fun r17 =>
  if r17.2 then
    (X.shelf_Shelf_Move r14.1 r17.1 labels1 drives2).bind fun r20 =>
    (need ((order6.length + ([r17.1] : List Int).length) * 8 ≤ 140737488355328)).bind fun u24 =>
    some (r20.2.1, r20.2.2, drives3, labels4, l5, (order6 ++ ([r17.1] : List Int)))
  else
    (getI order6 (0 : Int)).bind fun e28 =>
    (X.shelf_Shelf_Back e28 labels1 drives2).bind fun r29 =>
    (need (0 ≤ (1 : Int) ∧ (1 : Int) ≤ (order6.length : Int) ∧ (order6.length : Int) ≤ order6.length)).bind fun u32 =>
    some (r29.2.1, r29.2.2, drives3, labels4, l5, (slc order6 (1 : Int) (order6.length : Int)))

/-! (*cartridge/robot.Robot).Step -/
def robot_Robot_Step_j32 (c35 : (List Int)) (l37 : List Int) (c38 : Int) (c39 : (List Int)) (l41 : List Int) (l44 : List Int) : Option (Bool × ((List Int) × (List Int) × Int × (List Int) × (List Int) × (List Int))) :=
  some (true, (c35, l37, c38, c39, l41, l44))

def robot_Robot_Step (fail13 : Bool) (labels1 : (List Int)) (drives2 : (List Int)) (drives3 : Int) (labels4 : (List Int)) (l5 : (List Int)) (order6 : (List Int)) : Option (Bool × ((List Int) × (List Int) × Int × (List Int) × (List Int) × (List Int))) :=
  (X.robot_Robot_Waiting labels1 drives2 drives3 labels4 l5 order6).bind fun r17 =>
  if (r17 == (0 : Int)) then
    some (false, (labels1, drives2, drives3, labels4, l5, order6))
  else
    (X.robot_Robot_ready labels1 drives2 drives3 labels4 l5 order6).bind fun r21 =>
    if r21.2 then
      (X.mount_Line_Serve_in_Robot_robot r21.1 labels1 drives2 drives3 labels4 l5 order6).bind fun r24 =>
      some (true, (r24.2.1, r24.2.2.1, r24.2.2.2.1, r24.2.2.2.2.1, r24.2.2.2.2.2.1, r24.2.2.2.2.2.2))
    else
      if (!fail13) then
        (X.robot_Robot_pick labels1 drives2 drives3 labels4 l5 order6).bind fun r47 =>
        X.robot_Robot_Step_j32 r47.1 r47.2.1 r47.2.2.1 r47.2.2.2.1 r47.2.2.2.2.1 r47.2.2.2.2.2
      else
        X.robot_Robot_Step_j32 labels1 drives2 drives3 labels4 l5 order6

/-! (*cartridge/robot.Robot).Serve -/
def robot_Robot_Serve_e54 (c72 : (List Int)) (l74 : List Int) (c75 : Int) (c76 : (List Int)) (l78 : List Int) (l81 : List Int) (steps82 : Int) : Option (Int × Int × ((List Int) × (List Int) × Int × (List Int) × (List Int) × (List Int))) :=
  some (steps82, (0 : Int), (c72, l74, c75, c76, l78, l81))

def robot_Robot_Serve_j87 (c57 : (List Int)) (l59 : (List Int)) (c60 : Int) (c61 : (List Int)) (l63 : (List Int)) (l66 : (List Int)) (fails94 : Int) (steps96 : Int) : Option (((List Int) × (List Int) × Int × (List Int) × (List Int) × (List Int) × Int × Int) ⊕ ((List Int) × List Int × Int × (List Int) × List Int × List Int × Int)) :=
  (X.robot_Robot_Step false c57 l59 c60 c61 l63 l66).bind fun r98 =>
  some (.inl (r98.2.1, r98.2.2.1, r98.2.2.2.1, r98.2.2.2.2.1, r98.2.2.2.2.2.1, r98.2.2.2.2.2.2, fails94, (wr (steps96 + (1 : Int)))))

def robot_Robot_Serve_s54 (s : ((List Int) × (List Int) × Int × (List Int) × (List Int) × (List Int) × Int × Int)) : Option (((List Int) × (List Int) × Int × (List Int) × (List Int) × (List Int) × Int × Int) ⊕ ((List Int) × List Int × Int × (List Int) × List Int × List Int × Int)) :=
  match s with
  | (c57, l59, c60, c61, l63, l66, fails67, steps69) =>
    (X.robot_Robot_Waiting c57 l59 c60 c61 l63 l66).bind fun r86 =>
    if (decide (r86 > (0 : Int))) then
      (X.robot_Robot_ready c57 l59 c60 c61 l63 l66).bind fun r106 =>
      if (!r106.2) then
        X.robot_Robot_Serve_j87 c57 l59 c60 c61 l63 l66 (0 : Int) (wr (steps69 + fails67))
      else
        X.robot_Robot_Serve_j87 c57 l59 c60 c61 l63 l66 fails67 steps69
    else
      some (.inr (c57, l59, c60, c61, l63, l66, steps69))

def robot_Robot_Serve_e23 (fails14 : Int) (c40 : (List Int)) (l42 : List Int) (c43 : Int) (c44 : (List Int)) (l46 : List Int) (l49 : List Int) : Option (Int × Int × ((List Int) × (List Int) × Int × (List Int) × (List Int) × (List Int))) :=
  (run (X.robot_Robot_Serve_s54) (c40, l42, c43, c44, l46, l49, (max (0 : Int) (min fails14 (1000 : Int))), (0 : Int))).bind fun o54 => match o54 with
  | (c72, l74, c75, c76, l78, l81, steps82) => X.robot_Robot_Serve_e54 c72 l74 c75 c76 l78 l81 steps82

def robot_Robot_Serve_s23 (labels13 : (List Int)) (s : ((List Int) × (List Int) × Int × (List Int) × (List Int) × (List Int) × Int)) : Option (((List Int) × (List Int) × Int × (List Int) × (List Int) × (List Int) × Int) ⊕ ((List Int) × List Int × Int × (List Int) × List Int × List Int)) :=
  match s with
  | (c26, l28, c29, c30, l32, l35, x37) =>
    if (decide (x37 < (labels13.length : Int))) then
      (getI labels13 x37).bind fun e113 =>
      (X.mount_Line_Add_in_Robot_robot e113 c26 l28 c29 c30 l32 l35).bind fun r114 =>
      some (.inl (r114.1, r114.2.1, r114.2.2.1, r114.2.2.2.1, r114.2.2.2.2.1, r114.2.2.2.2.2, (wr (x37 + (1 : Int)))))
    else
      some (.inr (c26, l28, c29, c30, l32, l35))

def robot_Robot_Serve (labels13 : (List Int)) (fails14 : Int) (labels1 : (List Int)) (drives2 : (List Int)) (drives3 : Int) (labels4 : (List Int)) (l5 : (List Int)) (order6 : (List Int)) : Option (Int × Int × ((List Int) × (List Int) × Int × (List Int) × (List Int) × (List Int))) :=
  (X.slices_ContainsFunc_Lint_int labels13 (fun a1 => X.robot_Robot_Serve_c1 a1 labels1 drives2 drives3 labels4 l5 order6)).bind fun r19 =>
  if r19 then
    some ((0 : Int), (1 : Int), (labels1, drives2, drives3, labels4, l5, order6))
  else
    (run (X.robot_Robot_Serve_s23 labels13) (labels1, drives2, drives3, labels4, l5, order6, (0 : Int))).bind fun o23 => match o23 with
    | (c40, l42, c43, c44, l46, l49) => X.robot_Robot_Serve_e23 fails14 c40 l42 c43 c44 l46 l49

/-! (*cartridge/robot.Robot).Mounted -/
def robot_Robot_Mounted (labels1 : (List Int)) (drives2 : (List Int)) (drives3 : Int) (labels4 : (List Int)) (l5 : (List Int)) (order6 : (List Int)) (drive7 : Int) : Option Int :=
  (X.shelf_Shelf_Mounted labels1 drives2 drive7).bind fun r12 =>
  some r12

/-! cartridge/cartridgelaw24.alive -/
def cartridgelaw24_alive  : Option Bool :=
  (X.robot_New ([(1 : Int), (2 : Int)] : List Int) (1 : Int)).bind fun r3 =>
  match r3.1 with
  | none =>
    (X.cartridgelaw24_num r3.2).bind fun r6 =>
    some false
  | some o8 =>
    (X.cartridgelaw24_num r3.2).bind fun r17 =>
    if ((r17 != (0 : Int)) || false) then
      some false
    else
      (X.robot_Robot_Serve ([] : List Int) (0 : Int) o8.1 o8.2.1 o8.2.2.1 o8.2.2.2.1 o8.2.2.2.2.1 o8.2.2.2.2.2).bind fun r20 =>
      (X.robot_Robot_Serve ([(2 : Int)] : List Int) (0 : Int) r20.2.2.1 r20.2.2.2.1 r20.2.2.2.2.1 r20.2.2.2.2.2.1 r20.2.2.2.2.2.2.1 r20.2.2.2.2.2.2.2).bind fun r28 =>
      ((optG ((r20.1 == (0 : Int))) (X.cartridgelaw24_num r20.2.1))).bind fun r36 =>
      ((optG ((((r20.1 == (0 : Int)) && (r36 == (0 : Int))) && (r28.1 == (2 : Int)))) (X.cartridgelaw24_num r28.2.1))).bind fun r37 =>
      ((optG (((((r20.1 == (0 : Int)) && (r36 == (0 : Int))) && (r28.1 == (2 : Int))) && (r37 == (0 : Int)))) (X.robot_Robot_Mounted r28.2.2.1 r28.2.2.2.1 r28.2.2.2.2.1 r28.2.2.2.2.2.1 r28.2.2.2.2.2.2.1 r28.2.2.2.2.2.2.2 (0 : Int)))).bind fun r38 =>
      some (((((r20.1 == (0 : Int)) && (r36 == (0 : Int))) && (r28.1 == (2 : Int))) && (r37 == (0 : Int))) && (r38 == (2 : Int)))

/-! cartridge/cartridgelaw24.RobotBound -/
def cartridgelaw24_RobotBound_e40  : Option Bool :=
  some true

def cartridgelaw24_RobotBound_e66 (fails3 : Int) (c43 : (List Int)) (l45 : (List Int)) (c46 : Int) (c47 : (List Int)) (l49 : (List Int)) (l52 : (List Int)) (i53 : Int) (l83 : List Int) : Option (((List Int) × (List Int) × Int × (List Int) × (List Int) × (List Int) × Int) ⊕ (Unit ⊕ Bool)) :=
  (X.robot_Robot_Serve l83 fails3 c43 l45 c46 c47 l49 l52).bind fun r85 =>
  (X.cartridgelaw24_num r85.2.1).bind fun r93 =>
  ((optG (!((((r93 != (0 : Int)) || (decide (r85.1 > (wr ((wr ((3 : Int) * (l83.length : Int))) + fails3))))) || (decide (r85.1 < (0 : Int)))))) (X.robot_Robot_Waiting r85.2.2.1 r85.2.2.2.1 r85.2.2.2.2.1 r85.2.2.2.2.2.1 r85.2.2.2.2.2.2.1 r85.2.2.2.2.2.2.2))).bind fun r94 =>
  if (((((r93 != (0 : Int)) || (decide (r85.1 > (wr ((wr ((3 : Int) * (l83.length : Int))) + fails3))))) || (decide (r85.1 < (0 : Int)))) || (r94 != (0 : Int))) || ((decide ((l83.length : Int) > (0 : Int))) && (r85.1 == (0 : Int)))) then
    some (.inr (.inr false))
  else
    some (.inl (r85.2.2.1, r85.2.2.2.1, r85.2.2.2.2.1, r85.2.2.2.2.2.1, r85.2.2.2.2.2.2.1, r85.2.2.2.2.2.2.2, (wr (i53 + (1 : Int)))))

def cartridgelaw24_RobotBound_s66 (rows4 : (List (List Int))) (i53 : Int) (n1 : Int) (s : ((List Int) × Int)) : Option (((List Int) × Int) ⊕ List Int) :=
  match s with
  | (ask74, k75) =>
    (getI rows4 i53).bind fun e98 =>
    if (decide (k75 < (e98.length : Int))) then
      (getI rows4 i53).bind fun e100 =>
      (getI e100 k75).bind fun e101 =>
      (need (n1 ≠ 0)).bind fun u102 =>
      (need ((ask74.length + ([(wr ((1 : Int) + ((and64 e101 (1023 : Int)).tmod n1)))] : List Int).length) * 8 ≤ 140737488355328)).bind fun u103 =>
      some (.inl ((ask74 ++ ([(wr ((1 : Int) + ((and64 e101 (1023 : Int)).tmod n1)))] : List Int)), (wr (k75 + (1 : Int)))))
    else
      some (.inr ask74)

def cartridgelaw24_RobotBound_s40 (rows4 : (List (List Int))) (n1 : Int) (fails3 : Int) (s : ((List Int) × (List Int) × Int × (List Int) × (List Int) × (List Int) × Int)) : Option (((List Int) × (List Int) × Int × (List Int) × (List Int) × (List Int) × Int) ⊕ (Unit ⊕ Bool)) :=
  match s with
  | (c43, l45, c46, c47, l49, l52, i53) =>
    if (decide (i53 < (rows4.length : Int))) then
      (getI rows4 i53).bind fun e60 =>
      if (decide ((e60.length : Int) > (40 : Int))) then
        some (.inr (.inr true))
      else
        (run (X.cartridgelaw24_RobotBound_s66 rows4 i53 n1) (([] : List Int), (0 : Int))).bind fun o66 => match o66 with
        | l83 => X.cartridgelaw24_RobotBound_e66 fails3 c43 l45 c46 c47 l49 l52 i53 l83
    else
      some (.inr (.inl ()))

def cartridgelaw24_RobotBound_e15 (drives2 : Int) (rows4 : (List (List Int))) (n1 : Int) (fails3 : Int) (l20 : List Int) : Option Bool :=
  (X.robot_New l20 drives2).bind fun r22 =>
  match r22.1 with
  | none =>
    (X.cartridgelaw24_num r22.2).bind fun r25 =>
    some false
  | some o27 =>
    (X.cartridgelaw24_num r22.2).bind fun r36 =>
    if ((r36 != (0 : Int)) || false) then
      some false
    else
      (run (X.cartridgelaw24_RobotBound_s40 rows4 n1 fails3) (o27.1, o27.2.1, o27.2.2.1, o27.2.2.2.1, o27.2.2.2.2.1, o27.2.2.2.2.2, (0 : Int))).bind fun o40 => match o40 with
      | .inl _ => X.cartridgelaw24_RobotBound_e40
      | .inr rv40 => some rv40

def cartridgelaw24_RobotBound_s15 (n1 : Int) (s : ((List Int) × Int)) : Option (((List Int) × Int) ⊕ List Int) :=
  match s with
  | (labels17, i18) =>
    if (decide (i18 < n1)) then
      (need ((labels17.length + ([(wr (i18 + (1 : Int)))] : List Int).length) * 8 ≤ 140737488355328)).bind fun u107 =>
      some (.inl ((labels17 ++ ([(wr (i18 + (1 : Int)))] : List Int)), (wr (i18 + (1 : Int)))))
    else
      some (.inr labels17)

def cartridgelaw24_RobotBound (n1 : Int) (drives2 : Int) (fails3 : Int) (rows4 : (List (List Int))) : Option Bool :=
  (X.cartridgelaw24_alive).bind fun r7 =>
  if ((((((((!r7) || (decide (n1 < (1 : Int)))) || (decide (n1 > (20 : Int)))) || (decide (drives2 < (1 : Int)))) || (decide (drives2 > (4 : Int)))) || (decide (fails3 < (0 : Int)))) || (decide (fails3 > (100 : Int)))) || (decide ((rows4.length : Int) > (20 : Int)))) then
    some r7
  else
    (run (X.cartridgelaw24_RobotBound_s15 n1) (([] : List Int), (0 : Int))).bind fun o15 => match o15 with
    | l20 => X.cartridgelaw24_RobotBound_e15 drives2 rows4 n1 fails3 l20

end X
end Go.AX
