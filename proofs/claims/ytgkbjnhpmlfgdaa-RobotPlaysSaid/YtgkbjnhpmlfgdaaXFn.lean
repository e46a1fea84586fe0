import Derived.Test.YtgkbjnhpmlfgdaaXT
/- What the Go functions compute. -/
set_option linter.unusedVariables false
namespace Go.AX
open Go.AM
namespace X

/-! slices.Index[[]int,int] -/
def slices_Index_Lint_int_e6  : Option Int :=
  some ((-1) : Int)

def slices_Index_Lint_int_s6 (s1 : (List Int)) (v2 : Int) (s : Int) : Option (Int ⊕ (Unit ⊕ Int)) :=
  match s with
  | x7 =>
    if (decide (x7 < (s1.length : Int))) then
      (getI s1 x7).bind fun e14 =>
      if (v2 == e14) then
        some (.inr (.inr x7))
      else
        some (.inl (wr (x7 + (1 : Int))))
    else
      some (.inr (.inl ()))

def slices_Index_Lint_int (s1 : (List Int)) (v2 : Int) : Option Int :=
  (run (X.slices_Index_Lint_int_s6 s1 v2) (0 : Int)).bind fun o6 => match o6 with
  | .inl _ => X.slices_Index_Lint_int_e6
  | .inr rv6 => some rv6

/-! slices.Contains[[]int,int] -/
def slices_Contains_Lint_int (s1 : (List Int)) (v2 : Int) : Option Bool :=
  (X.slices_Index_Lint_int s1 v2).bind fun r5 =>
  some (decide (r5 ≥ (0 : Int)))

/-! slices.Clone[[]int,int] -/
def slices_Clone_Lint_int (s1 : (List Int)) : Option (List Int) :=
  nilU s1 fun z5 =>
  if z5 then
    some ([] : (List Int))
  else
    (need (s1.length * 8 ≤ 140737488355328)).bind fun u8 =>
    some s1

/-! cartridge/shelf.New -/
def shelf_New_e9 (labels1 : (List Int)) (drives2 : Int) : Option ((Option ((List Int) × (List Int))) × Int) :=
  (X.slices_Clone_Lint_int labels1).bind fun r12 =>
  (need (0 ≤ drives2 ∧ drives2 * 8 ≤ 281474976710656)).bind fun u13 =>
  some ((some (r12, (List.replicate drives2.toNat (0 : Int)))), (0 : Int))

def shelf_New_s9 (labels1 : (List Int)) (s : Int) : Option (Int ⊕ (Unit ⊕ ((Option ((List Int) × (List Int))) × Int))) :=
  match s with
  | x10 =>
    if (decide (x10 < (labels1.length : Int))) then
      (getI labels1 x10).bind fun e20 =>
      ((optG (!((decide (e20 < (1 : Int))))) (need (0 ≤ (0 : Int) ∧ (0 : Int) ≤ x10 ∧ x10 ≤ labels1.length)))).bind fun u22 =>
      ((optG (!((decide (e20 < (1 : Int))))) (X.slices_Contains_Lint_int (slc labels1 (0 : Int) x10) e20))).bind fun r23 =>
      if ((decide (e20 < (1 : Int))) || r23) then
        some (.inr (.inr (none, (1 : Int))))
      else
        some (.inl (wr (x10 + (1 : Int))))
    else
      some (.inr (.inl ()))

def shelf_New (labels1 : (List Int)) (drives2 : Int) : Option ((Option ((List Int) × (List Int))) × Int) :=
  if (((decide ((labels1.length : Int) > (30 : Int))) || (decide (drives2 < (1 : Int)))) || (decide (drives2 > (4 : Int)))) then
    some (none, (1 : Int))
  else
    (run (X.shelf_New_s9 labels1) (0 : Int)).bind fun o9 => match o9 with
    | .inl _ => X.shelf_New_e9 labels1 drives2
    | .inr rv9 => some rv9

/-! cartridge/robot.New -/
def robot_New (labels1 : (List Int)) (drives2 : Int) : Option ((Option ((List Int) × (List Int) × Int × (List Int) × (List Int) × (List Int))) × Int) :=
  (X.shelf_New labels1 drives2).bind fun r5 =>
  match r5.1 with
  | none =>
    if (r5.2 != (0 : Int)) then
      some (none, r5.2)
    else
      (X.slices_Clone_Lint_int labels1).bind fun r10 =>
      none
  | some o14 =>
    if (r5.2 != (0 : Int)) then
      some (none, r5.2)
    else
      (X.slices_Clone_Lint_int labels1).bind fun r21 =>
      some ((some (o14.1, o14.2, drives2, r21, ([] : List Int), ([] : List Int))), (0 : Int))

/-! cartridge/cartridgelaw24.num -/
def cartridgelaw24_num (e1 : Int) : Option Int :=
  some e1

/-! slices.IndexFunc[[]int,int] -/
def slices_IndexFunc_Lint_int_e6  : Option Int :=
  some ((-1) : Int)

def slices_IndexFunc_Lint_int_s6 (s1 : (List Int)) (g2 : Int → Option Bool) (s : Int) : Option (Int ⊕ (Unit ⊕ Int)) :=
  match s with
  | x7 =>
    if (decide (x7 < (s1.length : Int))) then
      (getI s1 x7).bind fun e14 =>
      (g2 e14).bind fun r15 =>
      if r15 then
        some (.inr (.inr x7))
      else
        some (.inl (wr (x7 + (1 : Int))))
    else
      some (.inr (.inl ()))

def slices_IndexFunc_Lint_int (s1 : (List Int)) (g2 : Int → Option Bool) : Option Int :=
  (run (X.slices_IndexFunc_Lint_int_s6 s1 g2) (0 : Int)).bind fun o6 => match o6 with
  | .inl _ => X.slices_IndexFunc_Lint_int_e6
  | .inr rv6 => some rv6

/-! slices.ContainsFunc[[]int,int] -/
def slices_ContainsFunc_Lint_int (s1 : (List Int)) (g2 : Int → Option Bool) : Option Bool :=
  (X.slices_IndexFunc_Lint_int s1 g2).bind fun r5 =>
  some (decide (r5 ≥ (0 : Int)))

/-! (*cartridge/robot.Robot).is -/
def robot_Robot_is (labels1 : (List Int)) (drives2 : (List Int)) (drives3 : Int) (labels4 : (List Int)) (l5 : (List Int)) (order6 : (List Int)) (label7 : Int) : Option Bool :=
  (X.slices_Contains_Lint_int labels4 label7).bind fun r10 =>
  some r10

/-! (*cartridge/robot.Robot).Serve$1 -/
def robot_Robot_Serve_c1 (n1 : Int) (labels2 : (List Int)) (drives3 : (List Int)) (drives4 : Int) (labels5 : (List Int)) (l6 : (List Int)) (order7 : (List Int)) : Option Bool :=
  (X.robot_Robot_is labels2 drives3 drives4 labels5 l6 order7 n1).bind fun r10 =>
  some (!r10)

/-! (*cartridge/mount.Line).Add -/
def mount_Line_Add_in_Robot_robot (label13 : Int) (labels1 : (List Int)) (drives2 : (List Int)) (drives3 : Int) (labels4 : (List Int)) (l5 : (List Int)) (order6 : (List Int)) : Option ((List Int) × (List Int) × Int × (List Int) × (List Int) × (List Int)) :=
  (need ((l5.length + ([label13] : List Int).length) * 8 ≤ 140737488355328)).bind fun u15 =>
  some (labels1, drives2, drives3, labels4, (l5 ++ ([label13] : List Int)), order6)

/-! (*cartridge/mount.Line).Len -/
def mount_Line_Len_in_Robot_robot (labels1 : (List Int)) (drives2 : (List Int)) (drives3 : Int) (labels4 : (List Int)) (l5 : (List Int)) (order6 : (List Int)) : Option Int :=
  some (l5.length : Int)

/-! (*cartridge/robot.Robot).Waiting -/
def robot_Robot_Waiting (labels1 : (List Int)) (drives2 : (List Int)) (drives3 : Int) (labels4 : (List Int)) (l5 : (List Int)) (order6 : (List Int)) : Option Int :=
  (X.mount_Line_Len_in_Robot_robot labels1 drives2 drives3 labels4 l5 order6).bind fun r11 =>
  some r11

/-! (*cartridge/shelf.Shelf).drive -/
def shelf_Shelf_drive (labels1 : (List Int)) (drives2 : (List Int)) (i3 : Int) : Option Bool :=
  some ((decide (i3 ≥ (0 : Int))) && (decide (i3 < (drives2.length : Int))))

/-! (*cartridge/shelf.Shelf).Mounted -/
def shelf_Shelf_Mounted (labels1 : (List Int)) (drives2 : (List Int)) (drive3 : Int) : Option Int :=
  (X.shelf_Shelf_drive labels1 drives2 drive3).bind fun r7 =>
  if (!r7) then
    some (0 : Int)
  else
    (getI drives2 drive3).bind fun e10 =>
    some e10

/-! (*cartridge/mount.Line).Wants -/
def mount_Line_Wants_in_Robot_robot (labels1 : (List Int)) (drives2 : (List Int)) (drives3 : Int) (labels4 : (List Int)) (l5 : (List Int)) (order6 : (List Int)) (label7 : Int) : Option Bool :=
  (X.slices_Contains_Lint_int l5 label7).bind fun r10 =>
  some r10

/-! (*cartridge/robot.Robot).ready -/
def robot_Robot_ready_e10  : Option (Int × Bool) :=
  some ((0 : Int), false)

def robot_Robot_ready_s10 (drives3 : Int) (labels1 : (List Int)) (drives2 : (List Int)) (labels4 : (List Int)) (l5 : (List Int)) (order6 : (List Int)) (s : Int) : Option (Int ⊕ (Unit ⊕ (Int × Bool))) :=
  match s with
  | x11 =>
    if (decide (x11 < drives3)) then
      (X.shelf_Shelf_Mounted labels1 drives2 x11).bind fun r18 =>
      ((optG ((r18 != (0 : Int))) (X.mount_Line_Wants_in_Robot_robot labels1 drives2 drives3 labels4 l5 order6 r18))).bind fun r20 =>
      if ((r18 != (0 : Int)) && r20) then
        some (.inr (.inr (r18, true)))
      else
        some (.inl (wr (x11 + (1 : Int))))
    else
      some (.inr (.inl ()))

def robot_Robot_ready (labels1 : (List Int)) (drives2 : (List Int)) (drives3 : Int) (labels4 : (List Int)) (l5 : (List Int)) (order6 : (List Int)) : Option (Int × Bool) :=
  (run (X.robot_Robot_ready_s10 drives3 labels1 drives2 labels4 l5 order6) (0 : Int)).bind fun o10 => match o10 with
  | .inl _ => X.robot_Robot_ready_e10
  | .inr rv10 => some rv10

/-! slices.DeleteFunc[[]int,int] -/
def slices_DeleteFunc_Lint_int_e12 (l18 : List Int) (i19 : Int) : Option (List Int) :=
  (need ((0 ≤ i19 ∧ i19 ≤ (l18.length : Int) ∧ (l18.length : Int) ≤ l18.length) ∧ (i19 = 0 ∨ i19 < l18.length))).bind fun u21 =>
  (need ((0 ≤ (0 : Int) ∧ (0 : Int) ≤ i19 ∧ i19 ≤ (clr l18 i19 (l18.length : Int) (0 : Int)).length) ∧ ((0 : Int) = 0 ∨ (0 : Int) < (clr l18 i19 (l18.length : Int) (0 : Int)).length))).bind fun u23 =>
  some (slc (clr l18 i19 (l18.length : Int) (0 : Int)) (0 : Int) i19)

def slices_DeleteFunc_Lint_int_j27 (j16 : Int) (l29 : List Int) (i30 : Int) : Option (((List Int) × Int × Int) ⊕ (List Int × Int)) :=
  some (.inl (l29, i30, (wr (j16 + (1 : Int)))))

def slices_DeleteFunc_Lint_int_s12 (g3 : Int → Option Bool) (s : ((List Int) × Int × Int)) : Option (((List Int) × Int × Int) ⊕ (List Int × Int)) :=
  match s with
  | (s14, i15, j16) =>
    if (decide (j16 < (s14.length : Int))) then
      (getI s14 j16).bind fun e32 =>
      (g3 e32).bind fun r34 =>
      if (!r34) then
        (getI s14 i15).bind fun e36 =>
        X.slices_DeleteFunc_Lint_int_j27 j16 (s14.set i15.toNat e32) (wr (i15 + (1 : Int)))
      else
        X.slices_DeleteFunc_Lint_int_j27 j16 s14 i15
    else
      some (.inr (s14, i15))

def slices_DeleteFunc_Lint_int (g3 : Int → Option Bool) (s1 : (List Int)) : Option (List Int) :=
  (X.slices_IndexFunc_Lint_int s1 g3).bind fun r6 =>
  if (r6 == ((-1) : Int)) then
    some s1
  else
    (run (X.slices_DeleteFunc_Lint_int_s12 g3) (s1, r6, (wr (r6 + (1 : Int))))).bind fun o12 => match o12 with
    | (l18, i19) => X.slices_DeleteFunc_Lint_int_e12 l18 i19

/-! (*cartridge/mount.Line).Serve$1 -/
def mount_Line_Serve_c1 (x1 : Int) (c2 : Int) : Option Bool :=
  some (x1 == c2)

/-! (*cartridge/mount.Line).Serve -/
def mount_Line_Serve_in_Robot_robot_j17 (labels1 : (List Int)) (drives2 : (List Int)) (drives3 : Int) (labels4 : (List Int)) (order6 : (List Int)) (r16 : Int) (l22 : List Int) : Option (Int × ((List Int) × (List Int) × Int × (List Int) × (List Int) × (List Int))) :=
  (X.mount_Line_Len_in_Robot_robot labels1 drives2 drives3 labels4 l22 order6).bind fun r25 =>
  some ((wr (r16 - r25)), (labels1, drives2, drives3, labels4, l22, order6))

def mount_Line_Serve_in_Robot_robot (label13 : Int) (labels1 : (List Int)) (drives2 : (List Int)) (drives3 : Int) (labels4 : (List Int)) (l5 : (List Int)) (order6 : (List Int)) : Option (Int × ((List Int) × (List Int) × Int × (List Int) × (List Int) × (List Int))) :=
  (X.mount_Line_Len_in_Robot_robot labels1 drives2 drives3 labels4 l5 order6).bind fun r16 =>
  if (decide (r16 > (0 : Int))) then
    (X.slices_DeleteFunc_Lint_int (fun a1 => X.mount_Line_Serve_c1 a1 label13) l5).bind fun r27 =>
    X.mount_Line_Serve_in_Robot_robot_j17 labels1 drives2 drives3 labels4 order6 r16 r27
  else
    X.mount_Line_Serve_in_Robot_robot_j17 labels1 drives2 drives3 labels4 order6 r16 l5

/-! (*cartridge/mount.Line).First -/
def mount_Line_First_in_Robot_robot (labels1 : (List Int)) (drives2 : (List Int)) (drives3 : Int) (labels4 : (List Int)) (l5 : (List Int)) (order6 : (List Int)) : Option (Int × Bool) :=
  (X.mount_Line_Len_in_Robot_robot labels1 drives2 drives3 labels4 l5 order6).bind fun r10 =>
  if (r10 == (0 : Int)) then
    some ((0 : Int), false)
  else
    (getI l5 (0 : Int)).bind fun e13 =>
    some (e13, true)

/-! (*cartridge/robot.Robot).empty -/
def robot_Robot_empty_e10  : Option (Int × Bool) :=
  some ((0 : Int), false)

def robot_Robot_empty_s10 (drives3 : Int) (labels1 : (List Int)) (drives2 : (List Int)) (s : Int) : Option (Int ⊕ (Unit ⊕ (Int × Bool))) :=
  match s with
  | x11 =>
    if (decide (x11 < drives3)) then
      (X.shelf_Shelf_Mounted labels1 drives2 x11).bind fun r18 =>
      if (r18 == (0 : Int)) then
        some (.inr (.inr (x11, true)))
      else
        some (.inl (wr (x11 + (1 : Int))))
    else
      some (.inr (.inl ()))

def robot_Robot_empty (labels1 : (List Int)) (drives2 : (List Int)) (drives3 : Int) (labels4 : (List Int)) (l5 : (List Int)) (order6 : (List Int)) : Option (Int × Bool) :=
  (run (X.robot_Robot_empty_s10 drives3 labels1 drives2) (0 : Int)).bind fun o10 => match o10 with
  | .inl _ => X.robot_Robot_empty_e10
  | .inr rv10 => some rv10

/-! (*cartridge/shelf.Shelf).is -/
def shelf_Shelf_is (labels1 : (List Int)) (drives2 : (List Int)) (label3 : Int) : Option Bool :=
  (X.slices_Contains_Lint_int labels1 label3).bind fun r6 =>
  some r6

/-! (*cartridge/shelf.Shelf).Drive -/
def shelf_Shelf_Drive (labels1 : (List Int)) (drives2 : (List Int)) (label3 : Int) : Option Int :=
  (X.shelf_Shelf_is labels1 drives2 label3).bind fun r7 =>
  if (!r7) then
    some ((-1) : Int)
  else
    (X.slices_Index_Lint_int drives2 label3).bind fun r10 =>
    some r10

/-! (*cartridge/shelf.Shelf).Move -/
def shelf_Shelf_Move (label5 : Int) (drive6 : Int) (labels1 : (List Int)) (drives2 : (List Int)) : Option (Int × ((List Int) × (List Int))) :=
  (X.shelf_Shelf_is labels1 drives2 label5).bind fun r10 =>
  ((optG (!((!r10))) (X.shelf_Shelf_drive labels1 drives2 drive6))).bind fun r11 =>
  if ((!r10) || (!r11)) then
    some ((1 : Int), (labels1, drives2))
  else
    (X.shelf_Shelf_Drive labels1 drives2 label5).bind fun r14 =>
    ((optG (!((r14 != ((-1) : Int)))) (getI drives2 drive6))).bind fun e15 =>
    if ((r14 != ((-1) : Int)) || (e15 != (0 : Int))) then
      some ((11 : Int), (labels1, drives2))
    else
      (getI drives2 drive6).bind fun e18 =>
      some ((0 : Int), (labels1, (drives2.set drive6.toNat label5)))

/-! (*cartridge/shelf.Shelf).Back -/
def shelf_Shelf_Back (drive5 : Int) (labels1 : (List Int)) (drives2 : (List Int)) : Option (Int × ((List Int) × (List Int))) :=
  (X.shelf_Shelf_drive labels1 drives2 drive5).bind fun r9 =>
  if (!r9) then
    some ((1 : Int), (labels1, drives2))
  else
    (getI drives2 drive5).bind fun e12 =>
    if (e12 == (0 : Int)) then
      some ((11 : Int), (labels1, drives2))
    else
      (getI drives2 drive5).bind fun e15 =>
      some ((0 : Int), (labels1, (drives2.set drive5.toNat (0 : Int))))

/-! (*cartridge/robot.Robot).pick -/
def robot_Robot_pick (labels1 : (List Int)) (drives2 : (List Int)) (drives3 : Int) (labels4 : (List Int)) (l5 : (List Int)) (order6 : (List Int)) : Option ((List Int) × (List Int) × Int × (List Int) × (List Int) × (List Int)) :=
  (X.mount_Line_First_in_Robot_robot labels1 drives2 drives3 labels4 l5 order6).bind fun r14 =>
  (X.robot_Robot_empty labels1 drives2 drives3 labels4 l5 order6).bind fun r17 =>
  if r17.2 then
    (X.shelf_Shelf_Move r14.1 r17.1 labels1 drives2).bind fun r20 =>
    (need ((order6.length + ([r17.1] : List Int).length) * 8 ≤ 140737488355328)).bind fun u24 =>
    some (r20.2.1, r20.2.2, drives3, labels4, l5, (order6 ++ ([r17.1] : List Int)))
  else
    (getI order6 (0 : Int)).bind fun e28 =>
    (X.shelf_Shelf_Back e28 labels1 drives2).bind fun r29 =>
    (need (0 ≤ (1 : Int) ∧ (1 : Int) ≤ (order6.length : Int) ∧ (order6.length : Int) ≤ order6.length)).bind fun u32 =>
    some (r29.2.1, r29.2.2, drives3, labels4, l5, (slc order6 (1 : Int) (order6.length : Int)))

/-! (*cartridge/robot.Robot).Step -/
def robot_Robot_Step_j32 (c35 : (List Int)) (l37 : List Int) (c38 : Int) (c39 : (List Int)) (l41 : List Int) (l44 : List Int) : Option (Bool × ((List Int) × (List Int) × Int × (List Int) × (List Int) × (List Int))) :=
  some (true, (c35, l37, c38, c39, l41, l44))

def robot_Robot_Step (fail13 : Bool) (labels1 : (List Int)) (drives2 : (List Int)) (drives3 : Int) (labels4 : (List Int)) (l5 : (List Int)) (order6 : (List Int)) : Option (Bool × ((List Int) × (List Int) × Int × (List Int) × (List Int) × (List Int))) :=
  (X.robot_Robot_Waiting labels1 drives2 drives3 labels4 l5 order6).bind fun r17 =>
  if (r17 == (0 : Int)) then
    some (false, (labels1, drives2, drives3, labels4, l5, order6))
  else
    (X.robot_Robot_ready labels1 drives2 drives3 labels4 l5 order6).bind fun r21 =>
    if r21.2 then
      (X.mount_Line_Serve_in_Robot_robot r21.1 labels1 drives2 drives3 labels4 l5 order6).bind fun r24 =>
      some (true, (r24.2.1, r24.2.2.1, r24.2.2.2.1, r24.2.2.2.2.1, r24.2.2.2.2.2.1, r24.2.2.2.2.2.2))
    else
      if (!fail13) then
        (X.robot_Robot_pick labels1 drives2 drives3 labels4 l5 order6).bind fun r47 =>
        X.robot_Robot_Step_j32 r47.1 r47.2.1 r47.2.2.1 r47.2.2.2.1 r47.2.2.2.2.1 r47.2.2.2.2.2
      else
        X.robot_Robot_Step_j32 labels1 drives2 drives3 labels4 l5 order6

/-! (*cartridge/robot.Robot).Serve -/
def robot_Robot_Serve_e54 (c72 : (List Int)) (l74 : List Int) (c75 : Int) (c76 : (List Int)) (l78 : List Int) (l81 : List Int) (steps82 : Int) : Option (Int × Int × ((List Int) × (List Int) × Int × (List Int) × (List Int) × (List Int))) :=
  some (steps82, (0 : Int), (c72, l74, c75, c76, l78, l81))

def robot_Robot_Serve_j87 (c57 : (List Int)) (l59 : (List Int)) (c60 : Int) (c61 : (List Int)) (l63 : (List Int)) (l66 : (List Int)) (fails94 : Int) (steps96 : Int) : Option (((List Int) × (List Int) × Int × (List Int) × (List Int) × (List Int) × Int × Int) ⊕ ((List Int) × List Int × Int × (List Int) × List Int × List Int × Int)) :=
  (X.robot_Robot_Step false c57 l59 c60 c61 l63 l66).bind fun r98 =>
  some (.inl (r98.2.1, r98.2.2.1, r98.2.2.2.1, r98.2.2.2.2.1, r98.2.2.2.2.2.1, r98.2.2.2.2.2.2, fails94, (wr (steps96 + (1 : Int)))))

def robot_Robot_Serve_s54 (s : ((List Int) × (List Int) × Int × (List Int) × (List Int) × (List Int) × Int × Int)) : Option (((List Int) × (List Int) × Int × (List Int) × (List Int) × (List Int) × Int × Int) ⊕ ((List Int) × List Int × Int × (List Int) × List Int × List Int × Int)) :=
  match s with
  | (c57, l59, c60, c61, l63, l66, fails67, steps69) =>
    (X.robot_Robot_Waiting c57 l59 c60 c61 l63 l66).bind fun r86 =>
    if (decide (r86 > (0 : Int))) then
      (X.robot_Robot_ready c57 l59 c60 c61 l63 l66).bind fun r106 =>
      if (!r106.2) then
        X.robot_Robot_Serve_j87 c57 l59 c60 c61 l63 l66 (0 : Int) (wr (steps69 + fails67))
      else
        X.robot_Robot_Serve_j87 c57 l59 c60 c61 l63 l66 fails67 steps69
    else
      some (.inr (c57, l59, c60, c61, l63, l66, steps69))

def robot_Robot_Serve_e23 (fails14 : Int) (c40 : (List Int)) (l42 : List Int) (c43 : Int) (c44 : (List Int)) (l46 : List Int) (l49 : List Int) : Option (Int × Int × ((List Int) × (List Int) × Int × (List Int) × (List Int) × (List Int))) :=
  (run (X.robot_Robot_Serve_s54) (c40, l42, c43, c44, l46, l49, (max (0 : Int) (min fails14 (1000 : Int))), (0 : Int))).bind fun o54 => match o54 with
  | (c72, l74, c75, c76, l78, l81, steps82) => X.robot_Robot_Serve_e54 c72 l74 c75 c76 l78 l81 steps82

def robot_Robot_Serve_s23 (labels13 : (List Int)) (s : ((List Int) × (List Int) × Int × (List Int) × (List Int) × (List Int) × Int)) : Option (((List Int) × (List Int) × Int × (List Int) × (List Int) × (List Int) × Int) ⊕ ((List Int) × List Int × Int × (List Int) × List Int × List Int)) :=
  match s with
  | (c26, l28, c29, c30, l32, l35, x37) =>
    if (decide (x37 < (labels13.length : Int))) then
      (getI labels13 x37).bind fun e113 =>
      (X.mount_Line_Add_in_Robot_robot e113 c26 l28 c29 c30 l32 l35).bind fun r114 =>
      some (.inl (r114.1, r114.2.1, r114.2.2.1, r114.2.2.2.1, r114.2.2.2.2.1, r114.2.2.2.2.2, (wr (x37 + (1 : Int)))))
    else
      some (.inr (c26, l28, c29, c30, l32, l35))

def robot_Robot_Serve (labels13 : (List Int)) (fails14 : Int) (labels1 : (List Int)) (drives2 : (List Int)) (drives3 : Int) (labels4 : (List Int)) (l5 : (List Int)) (order6 : (List Int)) : Option (Int × Int × ((List Int) × (List Int) × Int × (List Int) × (List Int) × (List Int))) :=
  (X.slices_ContainsFunc_Lint_int labels13 (fun a1 => X.robot_Robot_Serve_c1 a1 labels1 drives2 drives3 labels4 l5 order6)).bind fun r19 =>
  if r19 then
    some ((0 : Int), (1 : Int), (labels1, drives2, drives3, labels4, l5, order6))
  else
    (run (X.robot_Robot_Serve_s23 labels13) (labels1, drives2, drives3, labels4, l5, order6, (0 : Int))).bind fun o23 => match o23 with
    | (c40, l42, c43, c44, l46, l49) => X.robot_Robot_Serve_e23 fails14 c40 l42 c43 c44 l46 l49

/-! (*cartridge/robot.Robot).Mounted -/
def robot_Robot_Mounted (labels1 : (List Int)) (drives2 : (List Int)) (drives3 : Int) (labels4 : (List Int)) (l5 : (List Int)) (order6 : (List Int)) (drive7 : Int) : Option Int :=
  (X.shelf_Shelf_Mounted labels1 drives2 drive7).bind fun r12 =>
  some r12

/-! cartridge/cartridgelaw24.alive -/
def cartridgelaw24_alive  : Option Bool :=
  (X.robot_New ([(1 : Int), (2 : Int)] : List Int) (1 : Int)).bind fun r3 =>
  match r3.1 with
  | none =>
    (X.cartridgelaw24_num r3.2).bind fun r6 =>
    some false
  | some o8 =>
    (X.cartridgelaw24_num r3.2).bind fun r17 =>
    if ((r17 != (0 : Int)) || false) then
      some false
    else
      (X.robot_Robot_Serve ([] : List Int) (0 : Int) o8.1 o8.2.1 o8.2.2.1 o8.2.2.2.1 o8.2.2.2.2.1 o8.2.2.2.2.2).bind fun r20 =>
      (X.robot_Robot_Serve ([(2 : Int)] : List Int) (0 : Int) r20.2.2.1 r20.2.2.2.1 r20.2.2.2.2.1 r20.2.2.2.2.2.1 r20.2.2.2.2.2.2.1 r20.2.2.2.2.2.2.2).bind fun r28 =>
      ((optG ((r20.1 == (0 : Int))) (X.cartridgelaw24_num r20.2.1))).bind fun r36 =>
      ((optG ((((r20.1 == (0 : Int)) && (r36 == (0 : Int))) && (r28.1 == (2 : Int)))) (X.cartridgelaw24_num r28.2.1))).bind fun r37 =>
      ((optG (((((r20.1 == (0 : Int)) && (r36 == (0 : Int))) && (r28.1 == (2 : Int))) && (r37 == (0 : Int)))) (X.robot_Robot_Mounted r28.2.2.1 r28.2.2.2.1 r28.2.2.2.2.1 r28.2.2.2.2.2.1 r28.2.2.2.2.2.2.1 r28.2.2.2.2.2.2.2 (0 : Int)))).bind fun r38 =>
      some (((((r20.1 == (0 : Int)) && (r36 == (0 : Int))) && (r28.1 == (2 : Int))) && (r37 == (0 : Int))) && (r38 == (2 : Int)))

/-! (*cartridge/cartridgeref22.Shelf).find -/
def cartridgeref22_Shelf_find_e8  : Option Int :=
  some ((-1) : Int)

def cartridgeref22_Shelf_find_s8 (labels1 : (List Int)) (label4 : Int) (s : Int) : Option (Int ⊕ (Unit ⊕ Int)) :=
  match s with
  | i9 =>
    if (decide (i9 < (labels1.length : Int))) then
      (getI labels1 i9).bind fun e15 =>
      if (e15 == label4) then
        some (.inr (.inr i9))
      else
        some (.inl (wr (i9 + (1 : Int))))
    else
      some (.inr (.inl ()))

def cartridgeref22_Shelf_find (labels1 : (List Int)) (in2 : (List Int)) (drives3 : (List Int)) (label4 : Int) : Option Int :=
  (run (X.cartridgeref22_Shelf_find_s8 labels1 label4) (0 : Int)).bind fun o8 => match o8 with
  | .inl _ => X.cartridgeref22_Shelf_find_e8
  | .inr rv8 => some rv8

/-! cartridge/cartridgeref22.NewShelf -/
def cartridgeref22_NewShelf_e15 (drives2 : Int) (l25 : List Int) (l27 : List Int) : Option ((Option ((List Int) × (List Int) × (List Int))) × Int) :=
  some ((some (l25, l27, (List.replicate drives2.toNat (0 : Int)))), (0 : Int))

def cartridgeref22_NewShelf_s15 (labels1 : (List Int)) (drives2 : Int) (s : ((List Int) × (List Int) × Int)) : Option (((List Int) × (List Int) × Int) ⊕ ((List Int × List Int) ⊕ ((Option ((List Int) × (List Int) × (List Int))) × Int))) :=
  match s with
  | (l18, l20, i22) =>
    if (decide (i22 < (labels1.length : Int))) then
      (getI labels1 i22).bind fun e35 =>
      ((optG (!((decide (e35 < (1 : Int))))) (getI labels1 i22))).bind fun e36 =>
      ((optG (!((decide (e35 < (1 : Int))))) (X.cartridgeref22_Shelf_find l18 l20 (List.replicate drives2.toNat (0 : Int)) e36))).bind fun r37 =>
      if ((decide (e35 < (1 : Int))) || (decide (r37 ≥ (0 : Int)))) then
        some (.inr (.inr (none, (1 : Int))))
      else
        (getI labels1 i22).bind fun e40 =>
        (need ((l18.length + ([e40] : List Int).length) * 8 ≤ 140737488355328)).bind fun u41 =>
        (need ((l20.length + ([((-1) : Int)] : List Int).length) * 8 ≤ 140737488355328)).bind fun u42 =>
        some (.inl ((l18 ++ ([e40] : List Int)), (l20 ++ ([((-1) : Int)] : List Int)), (wr (i22 + (1 : Int)))))
    else
      some (.inr (.inl (l18, l20)))

def cartridgeref22_NewShelf (labels1 : (List Int)) (drives2 : Int) : Option ((Option ((List Int) × (List Int) × (List Int))) × Int) :=
  if (((decide ((labels1.length : Int) > (30 : Int))) || (decide (drives2 < (1 : Int)))) || (decide (drives2 > (4 : Int)))) then
    some (none, (1 : Int))
  else
    (need (0 ≤ drives2 ∧ drives2 * 8 ≤ 281474976710656)).bind fun u8 =>
    (run (X.cartridgeref22_NewShelf_s15 labels1 drives2) (([] : List Int), ([] : List Int), (0 : Int))).bind fun o15 => match o15 with
    | .inl (l25, l27) => X.cartridgeref22_NewShelf_e15 drives2 l25 l27
    | .inr rv15 => some rv15

/-! cartridge/cartridgeref22.NewRobot -/
def cartridgeref22_NewRobot (labels1 : (List Int)) (drives2 : Int) : Option ((Option ((List Int) × (List Int) × (List Int) × (List Int) × (List Int))) × Int) :=
  (X.cartridgeref22_NewShelf labels1 drives2).bind fun r5 =>
  match r5.1 with
  | none =>
    if (r5.2 != (0 : Int)) then
      some (none, r5.2)
    else
      none
  | some o13 =>
    if (r5.2 != (0 : Int)) then
      some (none, r5.2)
    else
      some ((some (o13.1, o13.2.1, o13.2.2, ([] : List Int), ([] : List Int))), (0 : Int))

/-! (*cartridge/robot.Robot).is -/
def robot_Robot_is_nil (label1 : Int) : Option Bool :=
  some false

/-! (*cartridge/robot.Robot).Ask -/
def robot_Robot_Ask_nil (label1 : Int) : Option Int :=
  (X.robot_Robot_is_nil label1).bind fun r5 =>
  if (!r5) then
    some (1 : Int)
  else
    none

/-! (*cartridge/cartridgeref22.Robot).Ask -/
def cartridgeref22_Robot_Ask_nil (label1 : Int) : Option Int :=
  none

/-! (*cartridge/robot.Robot).Waiting -/
def robot_Robot_Waiting_nil  : Option Int :=
  some (0 : Int)

/-! (*cartridge/robot.Robot).ready -/
def robot_Robot_ready_nil  : Option (Int × Bool) :=
  none

/-! (*cartridge/robot.Robot).pick -/
def robot_Robot_pick_nil  : Option Unit :=
  none

/-! (*cartridge/robot.Robot).Step -/
def robot_Robot_Step_nil_j12  : Option Bool :=
  some true

def robot_Robot_Step_nil (fail1 : Bool) : Option Bool :=
  (X.robot_Robot_Waiting_nil).bind fun r5 =>
  if (r5 == (0 : Int)) then
    some false
  else
    (X.robot_Robot_ready_nil).bind fun r9 =>
    if r9.2 then
      none
    else
      if (!fail1) then
        (X.robot_Robot_pick_nil).bind fun r15 =>
        X.robot_Robot_Step_nil_j12
      else
        X.robot_Robot_Step_nil_j12

/-! (*cartridge/cartridgeref22.Robot).Step -/
def cartridgeref22_Robot_Step_nil (fail1 : Bool) : Option Bool :=
  none

/-! (*cartridge/robot.Robot).Serve -/
def robot_Robot_Serve_nil (labels1 : (List Int)) (fails2 : Int) : Option (Int × Int) :=
  some ((0 : Int), (1 : Int))

/-! (*cartridge/cartridgeref22.Robot).Serve -/
def cartridgeref22_Robot_Serve_nil_e6  : Option (Int × Int) :=
  none

def cartridgeref22_Robot_Serve_nil_s6 (labels1 : (List Int)) (s : Unit) : Option (Unit ⊕ (Unit ⊕ (Int × Int))) :=
  match s with
  | () =>
    if (decide ((0 : Int) < (labels1.length : Int))) then
      none
    else
      some (.inr (.inl ()))

def cartridgeref22_Robot_Serve_nil (labels1 : (List Int)) (fails2 : Int) : Option (Int × Int) :=
  (run (X.cartridgeref22_Robot_Serve_nil_s6 labels1) ()).bind fun o6 => match o6 with
  | .inl _ => X.cartridgeref22_Robot_Serve_nil_e6
  | .inr rv6 => some rv6

/-! (*cartridge/cartridgeref22.Robot).Waiting -/
def cartridgeref22_Robot_Waiting_nil  : Option Int :=
  none

/-! (*cartridge/robot.Robot).Mounted -/
def robot_Robot_Mounted_nil (drive1 : Int) : Option Int :=
  some (0 : Int)

/-! (*cartridge/cartridgeref22.Robot).Ask -/
def cartridgeref22_Robot_Ask (label14 : Int) (labels1 : (List Int)) (in2 : (List Int)) (drives3 : (List Int)) (line4 : (List Int)) (order5 : (List Int)) : Option (Int × ((List Int) × (List Int) × (List Int) × (List Int) × (List Int))) :=
  (X.cartridgeref22_Shelf_find labels1 in2 drives3 label14).bind fun r18 =>
  if (decide (r18 < (0 : Int))) then
    some ((1 : Int), (labels1, in2, drives3, line4, order5))
  else
    (need ((line4.length + ([label14] : List Int).length) * 8 ≤ 140737488355328)).bind fun u21 =>
    some ((0 : Int), (labels1, in2, drives3, (line4 ++ ([label14] : List Int)), order5))

/-! (*cartridge/cartridgeref22.Robot).wants -/
def cartridgeref22_Robot_wants_e10  : Option Bool :=
  some false

def cartridgeref22_Robot_wants_s10 (line4 : (List Int)) (label6 : Int) (s : Int) : Option (Int ⊕ (Unit ⊕ Bool)) :=
  match s with
  | i11 =>
    if (decide (i11 < (line4.length : Int))) then
      (getI line4 i11).bind fun e17 =>
      if (e17 == label6) then
        some (.inr (.inr true))
      else
        some (.inl (wr (i11 + (1 : Int))))
    else
      some (.inr (.inl ()))

def cartridgeref22_Robot_wants (labels1 : (List Int)) (in2 : (List Int)) (drives3 : (List Int)) (line4 : (List Int)) (order5 : (List Int)) (label6 : Int) : Option Bool :=
  (run (X.cartridgeref22_Robot_wants_s10 line4 label6) (0 : Int)).bind fun o10 => match o10 with
  | .inl _ => X.cartridgeref22_Robot_wants_e10
  | .inr rv10 => some rv10

/-! (*cartridge/cartridgeref22.Shelf).Move -/
def cartridgeref22_Shelf_Move (label8 : Int) (d9 : Int) (labels1 : (List Int)) (in2 : (List Int)) (drives3 : (List Int)) : Option (Int × ((List Int) × (List Int) × (List Int))) :=
  (X.cartridgeref22_Shelf_find labels1 in2 drives3 label8).bind fun r12 =>
  if (((decide (r12 < (0 : Int))) || (decide (d9 < (0 : Int)))) || (decide (d9 ≥ (drives3.length : Int)))) then
    some ((1 : Int), (labels1, in2, drives3))
  else
    (getI in2 r12).bind fun e18 =>
    ((optG (!((decide (e18 ≥ (0 : Int))))) (getI drives3 d9))).bind fun e19 =>
    if ((decide (e18 ≥ (0 : Int))) || (e19 != (0 : Int))) then
      some ((11 : Int), (labels1, in2, drives3))
    else
      (getI in2 r12).bind fun e22 =>
      (getI drives3 d9).bind fun e24 =>
      some ((0 : Int), (labels1, (in2.set r12.toNat d9), (drives3.set d9.toNat label8)))

/-! (*cartridge/cartridgeref22.Shelf).Back -/
def cartridgeref22_Shelf_Back (d8 : Int) (labels1 : (List Int)) (in2 : (List Int)) (drives3 : (List Int)) : Option (Int × ((List Int) × (List Int) × (List Int))) :=
  if ((decide (d8 < (0 : Int))) || (decide (d8 ≥ (drives3.length : Int)))) then
    some ((1 : Int), (labels1, in2, drives3))
  else
    (getI drives3 d8).bind fun e15 =>
    if (e15 == (0 : Int)) then
      some ((11 : Int), (labels1, in2, drives3))
    else
      (getI drives3 d8).bind fun e18 =>
      (X.cartridgeref22_Shelf_find labels1 in2 drives3 e18).bind fun r19 =>
      (getI in2 r19).bind fun e20 =>
      (getI drives3 d8).bind fun e22 =>
      some ((0 : Int), (labels1, (in2.set r19.toNat ((-1) : Int)), (drives3.set d8.toNat (0 : Int))))

/-! (*cartridge/cartridgeref22.Robot).Step -/
def cartridgeref22_Robot_Step_e42 (order5 : (List Int)) (labels1 : (List Int)) (in2 : (List Int)) (drives3 : (List Int)) (line4 : (List Int)) : Option (Bool × ((List Int) × (List Int) × (List Int) × (List Int) × (List Int))) :=
  (getI order5 (0 : Int)).bind fun e59 =>
  (X.cartridgeref22_Shelf_Back e59 labels1 in2 drives3).bind fun r60 =>
  (need (0 ≤ (1 : Int) ∧ (1 : Int) ≤ (order5.length : Int) ∧ (order5.length : Int) ≤ order5.length)).bind fun u66 =>
  (need ((slc order5 (1 : Int) (order5.length : Int)).length * 8 ≤ 140737488355328)).bind fun u69 =>
  some (true, (r60.2.1, r60.2.2.1, r60.2.2.2, line4, (slc order5 (1 : Int) (order5.length : Int))))

def cartridgeref22_Robot_Step_s42 (drives3 : (List Int)) (line4 : (List Int)) (labels1 : (List Int)) (in2 : (List Int)) (order5 : (List Int)) (s : Int) : Option (Int ⊕ (Unit ⊕ (Bool × ((List Int) × (List Int) × (List Int) × (List Int) × (List Int))))) :=
  match s with
  | d50 =>
    if (decide (d50 < (drives3.length : Int))) then
      (getI drives3 d50).bind fun e76 =>
      if (e76 == (0 : Int)) then
        (getI line4 (0 : Int)).bind fun e78 =>
        (X.cartridgeref22_Shelf_Move e78 d50 labels1 in2 drives3).bind fun r79 =>
        (need ((order5.length + ([d50] : List Int).length) * 8 ≤ 140737488355328)).bind fun u85 =>
        some (.inr (.inr (true, (r79.2.1, r79.2.2.1, r79.2.2.2, line4, (order5 ++ ([d50] : List Int))))))
      else
        some (.inl (wr (d50 + (1 : Int))))
    else
      some (.inr (.inl ()))

def cartridgeref22_Robot_Step_e21 (fail14 : Bool) (labels1 : (List Int)) (in2 : (List Int)) (drives3 : (List Int)) (line4 : (List Int)) (order5 : (List Int)) : Option (Bool × ((List Int) × (List Int) × (List Int) × (List Int) × (List Int))) :=
  if fail14 then
    some (true, (labels1, in2, drives3, line4, order5))
  else
    (run (X.cartridgeref22_Robot_Step_s42 drives3 line4 labels1 in2 order5) (0 : Int)).bind fun o42 => match o42 with
    | .inl _ => X.cartridgeref22_Robot_Step_e42 order5 labels1 in2 drives3 line4
    | .inr rv42 => some rv42

def cartridgeref22_Robot_Step_e101 (labels1 : (List Int)) (in2 : (List Int)) (drives3 : (List Int)) (order5 : (List Int)) (l120 : List Int) : Option (Int ⊕ (Unit ⊕ (Bool × ((List Int) × (List Int) × (List Int) × (List Int) × (List Int))))) :=
  some (.inr (.inr (true, (labels1, in2, drives3, l120, order5))))

def cartridgeref22_Robot_Step_j125 (i111 : Int) (l134 : List Int) : Option (((List Int) × Int) ⊕ List Int) :=
  some (.inl (l134, (wr (i111 + (1 : Int)))))

def cartridgeref22_Robot_Step_s101 (line4 : (List Int)) (drives3 : (List Int)) (d29 : Int) (s : ((List Int) × Int)) : Option (((List Int) × Int) ⊕ List Int) :=
  match s with
  | (left110, i111) =>
    if (decide (i111 < (line4.length : Int))) then
      (getI line4 i111).bind fun e136 =>
      (getI drives3 d29).bind fun e137 =>
      if (e136 != e137) then
        (getI line4 i111).bind fun e138 =>
        (need ((left110.length + ([e138] : List Int).length) * 8 ≤ 140737488355328)).bind fun u139 =>
        X.cartridgeref22_Robot_Step_j125 i111 (left110 ++ ([e138] : List Int))
      else
        X.cartridgeref22_Robot_Step_j125 i111 left110
    else
      some (.inr left110)

def cartridgeref22_Robot_Step_s21 (drives3 : (List Int)) (labels1 : (List Int)) (in2 : (List Int)) (line4 : (List Int)) (order5 : (List Int)) (s : Int) : Option (Int ⊕ (Unit ⊕ (Bool × ((List Int) × (List Int) × (List Int) × (List Int) × (List Int))))) :=
  match s with
  | d29 =>
    if (decide (d29 < (drives3.length : Int))) then
      (getI drives3 d29).bind fun e94 =>
      ((optG (!((e94 == (0 : Int)))) (getI drives3 d29))).bind fun e95 =>
      ((optG (!((e94 == (0 : Int)))) (X.cartridgeref22_Robot_wants labels1 in2 drives3 line4 order5 e95))).bind fun r96 =>
      if ((e94 == (0 : Int)) || (!r96)) then
        some (.inl (wr (d29 + (1 : Int))))
      else
        (run (X.cartridgeref22_Robot_Step_s101 line4 drives3 d29) (([] : List Int), (0 : Int))).bind fun o101 => match o101 with
        | l120 => X.cartridgeref22_Robot_Step_e101 labels1 in2 drives3 order5 l120
    else
      some (.inr (.inl ()))

def cartridgeref22_Robot_Step (fail14 : Bool) (labels1 : (List Int)) (in2 : (List Int)) (drives3 : (List Int)) (line4 : (List Int)) (order5 : (List Int)) : Option (Bool × ((List Int) × (List Int) × (List Int) × (List Int) × (List Int))) :=
  if ((line4.length : Int) == (0 : Int)) then
    some (false, (labels1, in2, drives3, line4, order5))
  else
    (run (X.cartridgeref22_Robot_Step_s21 drives3 labels1 in2 line4 order5) (0 : Int)).bind fun o21 => match o21 with
    | .inl _ => X.cartridgeref22_Robot_Step_e21 fail14 labels1 in2 drives3 line4 order5
    | .inr rv21 => some rv21

/-! cartridge/cartridgeref1.Cut -/
def cartridgeref1_Cut (n1 : Int) (low2 : Int) (high3 : Int) : Option Int :=
  if (decide (n1 < low2)) then
    some low2
  else
    if (decide (n1 > high3)) then
      some high3
    else
      some n1

/-! (*cartridge/cartridgeref22.Robot).pick -/
def cartridgeref22_Robot_pick_e9 (line4 : (List Int)) : Option Bool :=
  some (decide ((line4.length : Int) > (0 : Int)))

def cartridgeref22_Robot_pick_s9 (drives3 : (List Int)) (labels1 : (List Int)) (in2 : (List Int)) (line4 : (List Int)) (order5 : (List Int)) (s : Int) : Option (Int ⊕ (Unit ⊕ Bool)) :=
  match s with
  | d10 =>
    if (decide (d10 < (drives3.length : Int))) then
      (getI drives3 d10).bind fun e16 =>
      ((optG ((e16 != (0 : Int))) (getI drives3 d10))).bind fun e17 =>
      ((optG ((e16 != (0 : Int))) (X.cartridgeref22_Robot_wants labels1 in2 drives3 line4 order5 e17))).bind fun r18 =>
      if ((e16 != (0 : Int)) && r18) then
        some (.inr (.inr false))
      else
        some (.inl (wr (d10 + (1 : Int))))
    else
      some (.inr (.inl ()))

def cartridgeref22_Robot_pick (labels1 : (List Int)) (in2 : (List Int)) (drives3 : (List Int)) (line4 : (List Int)) (order5 : (List Int)) : Option Bool :=
  (run (X.cartridgeref22_Robot_pick_s9 drives3 labels1 in2 line4 order5) (0 : Int)).bind fun o9 => match o9 with
  | .inl _ => X.cartridgeref22_Robot_pick_e9 line4
  | .inr rv9 => some rv9

/-! (*cartridge/cartridgeref22.Robot).Serve -/
def cartridgeref22_Robot_Serve_e41 (l60 : List Int) (l62 : List Int) (l64 : List Int) (l66 : List Int) (l69 : List Int) (n70 : Int) : Option (Int × Int × ((List Int) × (List Int) × (List Int) × (List Int) × (List Int))) :=
  some (n70, (0 : Int), (l60, l62, l64, l66, l69))

def cartridgeref22_Robot_Serve_j75 (l45 : (List Int)) (l47 : (List Int)) (l49 : (List Int)) (l51 : (List Int)) (l54 : (List Int)) (n56 : Int) (fails84 : Int) (fail85 : Bool) : Option (((List Int) × (List Int) × (List Int) × (List Int) × (List Int) × Int × Int) ⊕ (List Int × List Int × List Int × List Int × List Int × Int)) :=
  (X.cartridgeref22_Robot_Step fail85 l45 l47 l49 l51 l54).bind fun r87 =>
  some (.inl (r87.2.1, r87.2.2.1, r87.2.2.2.1, r87.2.2.2.2.1, r87.2.2.2.2.2, fails84, (wr (n56 + (1 : Int)))))

def cartridgeref22_Robot_Serve_s41 (s : ((List Int) × (List Int) × (List Int) × (List Int) × (List Int) × Int × Int)) : Option (((List Int) × (List Int) × (List Int) × (List Int) × (List Int) × Int × Int) ⊕ (List Int × List Int × List Int × List Int × List Int × Int)) :=
  match s with
  | (l45, l47, l49, l51, l54, fails55, n56) =>
    if (decide ((l51.length : Int) > (0 : Int))) then
      (X.cartridgeref22_Robot_pick l45 l47 l49 l51 l54).bind fun r97 =>
      if (r97 && (decide (fails55 > (0 : Int)))) then
        X.cartridgeref22_Robot_Serve_j75 l45 l47 l49 l51 l54 n56 (wr (fails55 - (1 : Int))) true
      else
        X.cartridgeref22_Robot_Serve_j75 l45 l47 l49 l51 l54 n56 fails55 false
    else
      some (.inr (l45, l47, l49, l51, l54, n56))

def cartridgeref22_Robot_Serve_e19 (line4 : (List Int)) (labels14 : (List Int)) (fails15 : Int) (labels1 : (List Int)) (in2 : (List Int)) (drives3 : (List Int)) (order5 : (List Int)) : Option (Int × Int × ((List Int) × (List Int) × (List Int) × (List Int) × (List Int))) :=
  (need ((line4.length + labels14.length) * 8 ≤ 140737488355328)).bind fun u36 =>
  (X.cartridgeref1_Cut fails15 (0 : Int) (1000 : Int)).bind fun r38 =>
  (run (X.cartridgeref22_Robot_Serve_s41) (labels1, in2, drives3, (line4 ++ labels14), order5, r38, (0 : Int))).bind fun o41 => match o41 with
  | (l60, l62, l64, l66, l69, n70) => X.cartridgeref22_Robot_Serve_e41 l60 l62 l64 l66 l69 n70

def cartridgeref22_Robot_Serve_s19 (labels14 : (List Int)) (labels1 : (List Int)) (in2 : (List Int)) (drives3 : (List Int)) (line4 : (List Int)) (order5 : (List Int)) (s : Int) : Option (Int ⊕ (Unit ⊕ (Int × Int × ((List Int) × (List Int) × (List Int) × (List Int) × (List Int))))) :=
  match s with
  | i27 =>
    if (decide (i27 < (labels14.length : Int))) then
      (getI labels14 i27).bind fun e103 =>
      (X.cartridgeref22_Shelf_find labels1 in2 drives3 e103).bind fun r104 =>
      if (decide (r104 < (0 : Int))) then
        some (.inr (.inr ((0 : Int), (1 : Int), (labels1, in2, drives3, line4, order5))))
      else
        some (.inl (wr (i27 + (1 : Int))))
    else
      some (.inr (.inl ()))

def cartridgeref22_Robot_Serve (labels14 : (List Int)) (fails15 : Int) (labels1 : (List Int)) (in2 : (List Int)) (drives3 : (List Int)) (line4 : (List Int)) (order5 : (List Int)) : Option (Int × Int × ((List Int) × (List Int) × (List Int) × (List Int) × (List Int))) :=
  (run (X.cartridgeref22_Robot_Serve_s19 labels14 labels1 in2 drives3 line4 order5) (0 : Int)).bind fun o19 => match o19 with
  | .inl _ => X.cartridgeref22_Robot_Serve_e19 line4 labels14 fails15 labels1 in2 drives3 order5
  | .inr rv19 => some rv19

/-! (*cartridge/cartridgeref22.Robot).Waiting -/
def cartridgeref22_Robot_Waiting (labels1 : (List Int)) (in2 : (List Int)) (drives3 : (List Int)) (line4 : (List Int)) (order5 : (List Int)) : Option Int :=
  some (line4.length : Int)

/-! (*cartridge/cartridgeref22.Shelf).Mounted -/
def cartridgeref22_Shelf_Mounted (labels1 : (List Int)) (in2 : (List Int)) (drives3 : (List Int)) (d4 : Int) : Option Int :=
  if ((decide (d4 < (0 : Int))) || (decide (d4 ≥ (drives3.length : Int)))) then
    some (0 : Int)
  else
    (getI drives3 d4).bind fun e10 =>
    some e10

/-! (*cartridge/robot.Robot).Ask -/
def robot_Robot_Ask (label13 : Int) (labels1 : (List Int)) (drives2 : (List Int)) (drives3 : Int) (labels4 : (List Int)) (l5 : (List Int)) (order6 : (List Int)) : Option (Int × ((List Int) × (List Int) × Int × (List Int) × (List Int) × (List Int))) :=
  (X.robot_Robot_is labels1 drives2 drives3 labels4 l5 order6 label13).bind fun r17 =>
  if (!r17) then
    some ((1 : Int), (labels1, drives2, drives3, labels4, l5, order6))
  else
    (X.mount_Line_Add_in_Robot_robot label13 labels1 drives2 drives3 labels4 l5 order6).bind fun r20 =>
    some ((0 : Int), (r20.1, r20.2.1, r20.2.2.1, r20.2.2.2.1, r20.2.2.2.2.1, r20.2.2.2.2.2))

/-! cartridge/cartridgelaw24.RobotPlays -/
def cartridgelaw24_RobotPlays_e25  : Option Bool :=
  some true

def cartridgelaw24_RobotPlays_e44 (i26 : Int) : Option (Int ⊕ (Unit ⊕ Bool)) :=
  some (.inl (wr (i26 + (1 : Int))))

def cartridgelaw24_RobotPlays_s44 (drives2 : Int) (s : Unit) : Option (Unit ⊕ (Unit ⊕ Bool)) :=
  match s with
  | () =>
    if (decide (((-1) : Int) ≤ drives2)) then
      none
    else
      some (.inr (.inl ()))

def cartridgelaw24_RobotPlays_j37 (drives2 : Int) (i26 : Int) : Option (Int ⊕ (Unit ⊕ Bool)) :=
  (X.robot_Robot_Waiting_nil).bind fun r40 =>
  (X.cartridgeref22_Robot_Waiting_nil).bind fun r41 =>
  if (r40 != r41) then
    some (.inr (.inr false))
  else
    (run (X.cartridgelaw24_RobotPlays_s44 drives2) ()).bind fun o44 => match o44 with
    | .inl _ => X.cartridgelaw24_RobotPlays_e44 i26
    | .inr rv44 => some (.inr (.inr rv44))

def cartridgelaw24_RobotPlays_s25 (l3 : (List Act_law24)) (drives2 : Int) (s : Int) : Option (Int ⊕ (Unit ⊕ Bool)) :=
  match s with
  | i26 =>
    if (decide (i26 < (l3.length : Int))) then
      (getI l3 i26).bind fun e32 =>
      if (decide ((e32.Labels.length : Int) > (40 : Int))) then
        some (.inr (.inr true))
      else
        if (e32.Way == (0 : Int)) then
          (X.robot_Robot_Ask_nil e32.N).bind fun r52 =>
          (X.cartridgelaw24_num r52).bind fun r53 =>
          (X.cartridgeref22_Robot_Ask_nil e32.N).bind fun r54 =>
          if (r53 != r54) then
            some (.inr (.inr false))
          else
            X.cartridgelaw24_RobotPlays_j37 drives2 i26
        else
          if (e32.Way == (1 : Int)) then
            (X.robot_Robot_Step_nil e32.Fail).bind fun r58 =>
            (X.cartridgeref22_Robot_Step_nil e32.Fail).bind fun r59 =>
            if (r58 != r59) then
              some (.inr (.inr false))
            else
              X.cartridgelaw24_RobotPlays_j37 drives2 i26
          else
            if (e32.Way == (2 : Int)) then
              (need (e32.Labels.length * 8 ≤ 140737488355328)).bind fun u63 =>
              (X.robot_Robot_Serve_nil e32.Labels e32.N).bind fun r64 =>
              (X.cartridgeref22_Robot_Serve_nil e32.Labels e32.N).bind fun r66 =>
              ((optG (!((r64.1 != r66.1))) (X.cartridgelaw24_num r64.2))).bind fun r68 =>
              if ((r64.1 != r66.1) || (r68 != r66.2)) then
                some (.inr (.inr false))
              else
                X.cartridgelaw24_RobotPlays_j37 drives2 i26
            else
              X.cartridgelaw24_RobotPlays_j37 drives2 i26
    else
      some (.inr (.inl ()))

def cartridgelaw24_RobotPlays_e88  : Option Bool :=
  some true

def cartridgelaw24_RobotPlays_e133 (l117 : List Int) (l119 : List Int) (l121 : List Int) (l123 : List Int) (l126 : List Int) (i102 : Int) : Option (((List Int) × (List Int) × (List Int) × (List Int) × (List Int) × Int) ⊕ (Unit ⊕ Bool)) :=
  some (.inl (l117, l119, l121, l123, l126, (wr (i102 + (1 : Int)))))

def cartridgelaw24_RobotPlays_s133 (drives2 : Int) (l117 : List Int) (l119 : List Int) (l121 : List Int) (s : Int) : Option (Int ⊕ (Unit ⊕ Bool)) :=
  match s with
  | d142 =>
    if (decide (d142 ≤ drives2)) then
      (X.robot_Robot_Mounted_nil d142).bind fun r155 =>
      (X.cartridgeref22_Shelf_Mounted l117 l119 l121 d142).bind fun r156 =>
      if (r155 != r156) then
        some (.inr (.inr false))
      else
        some (.inl (wr (d142 + (1 : Int))))
    else
      some (.inr (.inl ()))

def cartridgelaw24_RobotPlays_j113 (drives2 : Int) (i102 : Int) (l117 : List Int) (l119 : List Int) (l121 : List Int) (l123 : List Int) (l126 : List Int) : Option (((List Int) × (List Int) × (List Int) × (List Int) × (List Int) × Int) ⊕ (Unit ⊕ Bool)) :=
  (X.robot_Robot_Waiting_nil).bind fun r129 =>
  (X.cartridgeref22_Robot_Waiting l117 l119 l121 l123 l126).bind fun r130 =>
  if (r129 != r130) then
    some (.inr (.inr false))
  else
    (run (X.cartridgelaw24_RobotPlays_s133 drives2 l117 l119 l121) ((-1) : Int)).bind fun o133 => match o133 with
    | .inl _ => X.cartridgelaw24_RobotPlays_e133 l117 l119 l121 l123 l126 i102
    | .inr rv133 => some (.inr (.inr rv133))

def cartridgelaw24_RobotPlays_s88 (l3 : (List Act_law24)) (drives2 : Int) (s : ((List Int) × (List Int) × (List Int) × (List Int) × (List Int) × Int)) : Option (((List Int) × (List Int) × (List Int) × (List Int) × (List Int) × Int) ⊕ (Unit ⊕ Bool)) :=
  match s with
  | (l92, l94, l96, l98, l101, i102) =>
    if (decide (i102 < (l3.length : Int))) then
      (getI l3 i102).bind fun e108 =>
      if (decide ((e108.Labels.length : Int) > (40 : Int))) then
        some (.inr (.inr true))
      else
        if (e108.Way == (0 : Int)) then
          (X.robot_Robot_Ask_nil e108.N).bind fun r161 =>
          (X.cartridgelaw24_num r161).bind fun r162 =>
          (X.cartridgeref22_Robot_Ask e108.N l92 l94 l96 l98 l101).bind fun r163 =>
          if (r162 != r163.1) then
            some (.inr (.inr false))
          else
            X.cartridgelaw24_RobotPlays_j113 drives2 i102 r163.2.1 r163.2.2.1 r163.2.2.2.1 r163.2.2.2.2.1 r163.2.2.2.2.2
        else
          if (e108.Way == (1 : Int)) then
            (X.robot_Robot_Step_nil e108.Fail).bind fun r175 =>
            (X.cartridgeref22_Robot_Step e108.Fail l92 l94 l96 l98 l101).bind fun r176 =>
            if (r175 != r176.1) then
              some (.inr (.inr false))
            else
              X.cartridgelaw24_RobotPlays_j113 drives2 i102 r176.2.1 r176.2.2.1 r176.2.2.2.1 r176.2.2.2.2.1 r176.2.2.2.2.2
          else
            if (e108.Way == (2 : Int)) then
              (need (e108.Labels.length * 8 ≤ 140737488355328)).bind fun u188 =>
              (X.robot_Robot_Serve_nil e108.Labels e108.N).bind fun r189 =>
              (X.cartridgeref22_Robot_Serve e108.Labels e108.N l92 l94 l96 l98 l101).bind fun r191 =>
              ((optG (!((r189.1 != r191.1))) (X.cartridgelaw24_num r189.2))).bind fun r201 =>
              if ((r189.1 != r191.1) || (r201 != r191.2.1)) then
                some (.inr (.inr false))
              else
                X.cartridgelaw24_RobotPlays_j113 drives2 i102 r191.2.2.1 r191.2.2.2.1 r191.2.2.2.2.1 r191.2.2.2.2.2.1 r191.2.2.2.2.2.2
            else
              X.cartridgelaw24_RobotPlays_j113 drives2 i102 l92 l94 l96 l98 l101
    else
      some (.inr (.inl ()))

def cartridgelaw24_RobotPlays_e221  : Option Bool :=
  some true

def cartridgelaw24_RobotPlays_e264 (c248 : (List Int)) (l250 : List Int) (c251 : Int) (c252 : (List Int)) (l254 : List Int) (l257 : List Int) (i234 : Int) : Option (((List Int) × (List Int) × Int × (List Int) × (List Int) × (List Int) × Int) ⊕ (Unit ⊕ Bool)) :=
  some (.inl (c248, l250, c251, c252, l254, l257, (wr (i234 + (1 : Int)))))

def cartridgelaw24_RobotPlays_s264 (drives2 : Int) (s : Unit) : Option (Unit ⊕ (Unit ⊕ Bool)) :=
  match s with
  | () =>
    if (decide (((-1) : Int) ≤ drives2)) then
      none
    else
      some (.inr (.inl ()))

def cartridgelaw24_RobotPlays_j245 (drives2 : Int) (i234 : Int) (c248 : (List Int)) (l250 : List Int) (c251 : Int) (c252 : (List Int)) (l254 : List Int) (l257 : List Int) : Option (((List Int) × (List Int) × Int × (List Int) × (List Int) × (List Int) × Int) ⊕ (Unit ⊕ Bool)) :=
  (X.robot_Robot_Waiting c248 l250 c251 c252 l254 l257).bind fun r260 =>
  (X.cartridgeref22_Robot_Waiting_nil).bind fun r261 =>
  if (r260 != r261) then
    some (.inr (.inr false))
  else
    (run (X.cartridgelaw24_RobotPlays_s264 drives2) ()).bind fun o264 => match o264 with
    | .inl _ => X.cartridgelaw24_RobotPlays_e264 c248 l250 c251 c252 l254 l257 i234
    | .inr rv264 => some (.inr (.inr rv264))

def cartridgelaw24_RobotPlays_s221 (l3 : (List Act_law24)) (drives2 : Int) (s : ((List Int) × (List Int) × Int × (List Int) × (List Int) × (List Int) × Int)) : Option (((List Int) × (List Int) × Int × (List Int) × (List Int) × (List Int) × Int) ⊕ (Unit ⊕ Bool)) :=
  match s with
  | (c224, l226, c227, c228, l230, l233, i234) =>
    if (decide (i234 < (l3.length : Int))) then
      (getI l3 i234).bind fun e240 =>
      if (decide ((e240.Labels.length : Int) > (40 : Int))) then
        some (.inr (.inr true))
      else
        if (e240.Way == (0 : Int)) then
          (X.robot_Robot_Ask e240.N c224 l226 c227 c228 l230 l233).bind fun r284 =>
          (X.cartridgelaw24_num r284.1).bind fun r291 =>
          (X.cartridgeref22_Robot_Ask_nil e240.N).bind fun r292 =>
          if (r291 != r292) then
            some (.inr (.inr false))
          else
            X.cartridgelaw24_RobotPlays_j245 drives2 i234 r284.2.1 r284.2.2.1 r284.2.2.2.1 r284.2.2.2.2.1 r284.2.2.2.2.2.1 r284.2.2.2.2.2.2
        else
          if (e240.Way == (1 : Int)) then
            (X.robot_Robot_Step e240.Fail c224 l226 c227 c228 l230 l233).bind fun r296 =>
            (X.cartridgeref22_Robot_Step_nil e240.Fail).bind fun r303 =>
            if (r296.1 != r303) then
              some (.inr (.inr false))
            else
              X.cartridgelaw24_RobotPlays_j245 drives2 i234 r296.2.1 r296.2.2.1 r296.2.2.2.1 r296.2.2.2.2.1 r296.2.2.2.2.2.1 r296.2.2.2.2.2.2
          else
            if (e240.Way == (2 : Int)) then
              (need (e240.Labels.length * 8 ≤ 140737488355328)).bind fun u307 =>
              (X.robot_Robot_Serve e240.Labels e240.N c224 l226 c227 c228 l230 l233).bind fun r308 =>
              (X.cartridgeref22_Robot_Serve_nil e240.Labels e240.N).bind fun r316 =>
              ((optG (!((r308.1 != r316.1))) (X.cartridgelaw24_num r308.2.1))).bind fun r318 =>
              if ((r308.1 != r316.1) || (r318 != r316.2)) then
                some (.inr (.inr false))
              else
                X.cartridgelaw24_RobotPlays_j245 drives2 i234 r308.2.2.1 r308.2.2.2.1 r308.2.2.2.2.1 r308.2.2.2.2.2.1 r308.2.2.2.2.2.2.1 r308.2.2.2.2.2.2.2
            else
              X.cartridgelaw24_RobotPlays_j245 drives2 i234 c224 l226 c227 c228 l230 l233
    else
      some (.inr (.inl ()))

def cartridgelaw24_RobotPlays_e338  : Option Bool :=
  some true

def cartridgelaw24_RobotPlays_e407 (c378 : (List Int)) (l380 : List Int) (c381 : Int) (c382 : (List Int)) (l384 : List Int) (l387 : List Int) (l391 : List Int) (l393 : List Int) (l395 : List Int) (l397 : List Int) (l400 : List Int) (i364 : Int) : Option (((List Int) × (List Int) × Int × (List Int) × (List Int) × (List Int) × (List Int) × (List Int) × (List Int) × (List Int) × (List Int) × Int) ⊕ (Unit ⊕ Bool)) :=
  some (.inl (c378, l380, c381, c382, l384, l387, l391, l393, l395, l397, l400, (wr (i364 + (1 : Int)))))

def cartridgelaw24_RobotPlays_s407 (drives2 : Int) (c378 : (List Int)) (l380 : List Int) (c381 : Int) (c382 : (List Int)) (l384 : List Int) (l387 : List Int) (l391 : List Int) (l393 : List Int) (l395 : List Int) (s : Int) : Option (Int ⊕ (Unit ⊕ Bool)) :=
  match s with
  | d422 =>
    if (decide (d422 ≤ drives2)) then
      (X.robot_Robot_Mounted c378 l380 c381 c382 l384 l387 d422).bind fun r441 =>
      (X.cartridgeref22_Shelf_Mounted l391 l393 l395 d422).bind fun r442 =>
      if (r441 != r442) then
        some (.inr (.inr false))
      else
        some (.inl (wr (d422 + (1 : Int))))
    else
      some (.inr (.inl ()))

def cartridgelaw24_RobotPlays_j375 (drives2 : Int) (i364 : Int) (c378 : (List Int)) (l380 : List Int) (c381 : Int) (c382 : (List Int)) (l384 : List Int) (l387 : List Int) (l391 : List Int) (l393 : List Int) (l395 : List Int) (l397 : List Int) (l400 : List Int) : Option (((List Int) × (List Int) × Int × (List Int) × (List Int) × (List Int) × (List Int) × (List Int) × (List Int) × (List Int) × (List Int) × Int) ⊕ (Unit ⊕ Bool)) :=
  (X.robot_Robot_Waiting c378 l380 c381 c382 l384 l387).bind fun r403 =>
  (X.cartridgeref22_Robot_Waiting l391 l393 l395 l397 l400).bind fun r404 =>
  if (r403 != r404) then
    some (.inr (.inr false))
  else
    (run (X.cartridgelaw24_RobotPlays_s407 drives2 c378 l380 c381 c382 l384 l387 l391 l393 l395) ((-1) : Int)).bind fun o407 => match o407 with
    | .inl _ => X.cartridgelaw24_RobotPlays_e407 c378 l380 c381 c382 l384 l387 l391 l393 l395 l397 l400 i364
    | .inr rv407 => some (.inr (.inr rv407))

def cartridgelaw24_RobotPlays_s338 (l3 : (List Act_law24)) (drives2 : Int) (s : ((List Int) × (List Int) × Int × (List Int) × (List Int) × (List Int) × (List Int) × (List Int) × (List Int) × (List Int) × (List Int) × Int)) : Option (((List Int) × (List Int) × Int × (List Int) × (List Int) × (List Int) × (List Int) × (List Int) × (List Int) × (List Int) × (List Int) × Int) ⊕ (Unit ⊕ Bool)) :=
  match s with
  | (c341, l343, c344, c345, l347, l350, l354, l356, l358, l360, l363, i364) =>
    if (decide (i364 < (l3.length : Int))) then
      (getI l3 i364).bind fun e370 =>
      if (decide ((e370.Labels.length : Int) > (40 : Int))) then
        some (.inr (.inr true))
      else
        if (e370.Way == (0 : Int)) then
          (X.robot_Robot_Ask e370.N c341 l343 c344 c345 l347 l350).bind fun r447 =>
          (X.cartridgelaw24_num r447.1).bind fun r454 =>
          (X.cartridgeref22_Robot_Ask e370.N l354 l356 l358 l360 l363).bind fun r455 =>
          if (r454 != r455.1) then
            some (.inr (.inr false))
          else
            X.cartridgelaw24_RobotPlays_j375 drives2 i364 r447.2.1 r447.2.2.1 r447.2.2.2.1 r447.2.2.2.2.1 r447.2.2.2.2.2.1 r447.2.2.2.2.2.2 r455.2.1 r455.2.2.1 r455.2.2.2.1 r455.2.2.2.2.1 r455.2.2.2.2.2
        else
          if (e370.Way == (1 : Int)) then
            (X.robot_Robot_Step e370.Fail c341 l343 c344 c345 l347 l350).bind fun r467 =>
            (X.cartridgeref22_Robot_Step e370.Fail l354 l356 l358 l360 l363).bind fun r474 =>
            if (r467.1 != r474.1) then
              some (.inr (.inr false))
            else
              X.cartridgelaw24_RobotPlays_j375 drives2 i364 r467.2.1 r467.2.2.1 r467.2.2.2.1 r467.2.2.2.2.1 r467.2.2.2.2.2.1 r467.2.2.2.2.2.2 r474.2.1 r474.2.2.1 r474.2.2.2.1 r474.2.2.2.2.1 r474.2.2.2.2.2
          else
            if (e370.Way == (2 : Int)) then
              (need (e370.Labels.length * 8 ≤ 140737488355328)).bind fun u486 =>
              (X.robot_Robot_Serve e370.Labels e370.N c341 l343 c344 c345 l347 l350).bind fun r487 =>
              (X.cartridgeref22_Robot_Serve e370.Labels e370.N l354 l356 l358 l360 l363).bind fun r495 =>
              ((optG (!((r487.1 != r495.1))) (X.cartridgelaw24_num r487.2.1))).bind fun r505 =>
              if ((r487.1 != r495.1) || (r505 != r495.2.1)) then
                some (.inr (.inr false))
              else
                X.cartridgelaw24_RobotPlays_j375 drives2 i364 r487.2.2.1 r487.2.2.2.1 r487.2.2.2.2.1 r487.2.2.2.2.2.1 r487.2.2.2.2.2.2.1 r487.2.2.2.2.2.2.2 r495.2.2.1 r495.2.2.2.1 r495.2.2.2.2.1 r495.2.2.2.2.2.1 r495.2.2.2.2.2.2
            else
              X.cartridgelaw24_RobotPlays_j375 drives2 i364 c341 l343 c344 c345 l347 l350 l354 l356 l358 l360 l363
    else
      some (.inr (.inl ()))

def cartridgelaw24_RobotPlays (labels1 : (List Int)) (drives2 : Int) (l3 : (List Act_law24)) : Option Bool :=
  (X.cartridgelaw24_alive).bind fun r6 =>
  if (((!r6) || (decide ((labels1.length : Int) > (40 : Int)))) || (decide ((l3.length : Int) > (60 : Int)))) then
    some r6
  else
    (need (labels1.length * 8 ≤ 140737488355328)).bind fun u11 =>
    (X.robot_New labels1 drives2).bind fun r13 =>
    match r13.1 with
    | none =>
      (X.cartridgeref22_NewRobot labels1 drives2).bind fun r15 =>
      match r15.1 with
      | none =>
        (X.cartridgelaw24_num r13.2).bind fun r18 =>
        if ((r18 != r15.2) || (true != (r15.2 != (0 : Int)))) then
          some false
        else
          if (r15.2 != (0 : Int)) then
            some true
          else
            (run (X.cartridgelaw24_RobotPlays_s25 l3 drives2) (0 : Int)).bind fun o25 => match o25 with
            | .inl _ => X.cartridgelaw24_RobotPlays_e25
            | .inr rv25 => some rv25
      | some o70 =>
        (X.cartridgelaw24_num r13.2).bind fun r81 =>
        if ((r81 != r15.2) || (true != (r15.2 != (0 : Int)))) then
          some false
        else
          if (r15.2 != (0 : Int)) then
            some true
          else
            (run (X.cartridgelaw24_RobotPlays_s88 l3 drives2) (o70.1, o70.2.1, o70.2.2.1, o70.2.2.2.1, o70.2.2.2.2, (0 : Int))).bind fun o88 => match o88 with
            | .inl _ => X.cartridgelaw24_RobotPlays_e88
            | .inr rv88 => some rv88
    | some o203 =>
      (X.cartridgeref22_NewRobot labels1 drives2).bind fun r211 =>
      match r211.1 with
      | none =>
        (X.cartridgelaw24_num r13.2).bind fun r214 =>
        if ((r214 != r211.2) || (false != (r211.2 != (0 : Int)))) then
          some false
        else
          if (r211.2 != (0 : Int)) then
            some true
          else
            (run (X.cartridgelaw24_RobotPlays_s221 l3 drives2) (o203.1, o203.2.1, o203.2.2.1, o203.2.2.2.1, o203.2.2.2.2.1, o203.2.2.2.2.2, (0 : Int))).bind fun o221 => match o221 with
            | .inl _ => X.cartridgelaw24_RobotPlays_e221
            | .inr rv221 => some rv221
      | some o320 =>
        (X.cartridgelaw24_num r13.2).bind fun r331 =>
        if ((r331 != r211.2) || (false != (r211.2 != (0 : Int)))) then
          some false
        else
          if (r211.2 != (0 : Int)) then
            some true
          else
            (run (X.cartridgelaw24_RobotPlays_s338 l3 drives2) (o203.1, o203.2.1, o203.2.2.1, o203.2.2.2.1, o203.2.2.2.2.1, o203.2.2.2.2.2, o320.1, o320.2.1, o320.2.2.1, o320.2.2.2.1, o320.2.2.2.2, (0 : Int))).bind fun o338 => match o338 with
            | .inl _ => X.cartridgelaw24_RobotPlays_e338
            | .inr rv338 => some rv338

end X
end Go.AX
