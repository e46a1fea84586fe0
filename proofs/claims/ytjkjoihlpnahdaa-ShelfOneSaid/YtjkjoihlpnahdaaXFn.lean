import Derived.Test.YtjkjoihlpnahdaaXT
/- What the Go functions compute. -/
set_option linter.unusedVariables false
namespace Go.AX
open Go.AM
namespace X

/-! slices.Index[[]int,int] -/
def slices_Index_Lint_int_e6  : Option Int :=
  some ((-1) : Int)

def slices_Index_Lint_int_s6 (s1 : (List Int)) (v2 : Int) (s : Int) : Option (Int ⊕ (Unit ⊕ Int)) :=
  match s with
  | x7 =>
    if (decide (x7 < (s1.length : Int))) then
      (getI s1 x7).bind fun e14 =>
      if (v2 == e14) then
        some (.inr (.inr x7))
      else
        some (.inl (wr (x7 + (1 : Int))))
    else
      some (.inr (.inl ()))

def slices_Index_Lint_int (s1 : (List Int)) (v2 : Int) : Option Int :=
  (run (X.slices_Index_Lint_int_s6 s1 v2) (0 : Int)).bind fun o6 => match o6 with
  | .inl _ => X.slices_Index_Lint_int_e6
  | .inr rv6 => some rv6

/-! slices.Contains[[]int,int] -/
def slices_Contains_Lint_int (s1 : (List Int)) (v2 : Int) : Option Bool :=
  (X.slices_Index_Lint_int s1 v2).bind fun r5 =>
  some (decide (r5 ≥ (0 : Int)))

/-! slices.Clone[[]int,int] -/
def slices_Clone_Lint_int (s1 : (List Int)) : Option (List Int) :=
  nilU s1 fun z5 =>
  if z5 then
    some ([] : (List Int))
  else
    (need (s1.length * 8 ≤ 140737488355328)).bind fun u8 =>
    some s1

/-! cartridge/shelf.New -/
def shelf_New_e9 (labels1 : (List Int)) (drives2 : Int) : Option ((Option ((List Int) × (List Int))) × Int) :=
  (X.slices_Clone_Lint_int labels1).bind fun r12 =>
  (need (0 ≤ drives2 ∧ drives2 * 8 ≤ 281474976710656)).bind fun u13 =>
  some ((some (r12, (List.replicate drives2.toNat (0 : Int)))), (0 : Int))

def shelf_New_s9 (labels1 : (List Int)) (s : Int) : Option (Int ⊕ (Unit ⊕ ((Option ((List Int) × (List Int))) × Int))) :=
  match s with
  | x10 =>
    if (decide (x10 < (labels1.length : Int))) then
      (getI labels1 x10).bind fun e20 =>
      ((optG (!((decide (e20 < (1 : Int))))) (need (0 ≤ (0 : Int) ∧ (0 : Int) ≤ x10 ∧ x10 ≤ labels1.length)))).bind fun u22 =>
      ((optG (!((decide (e20 < (1 : Int))))) (X.slices_Contains_Lint_int (slc labels1 (0 : Int) x10) e20))).bind fun r23 =>
      if ((decide (e20 < (1 : Int))) || r23) then
        some (.inr (.inr (none, (1 : Int))))
      else
        some (.inl (wr (x10 + (1 : Int))))
    else
      some (.inr (.inl ()))

def shelf_New (labels1 : (List Int)) (drives2 : Int) : Option ((Option ((List Int) × (List Int))) × Int) :=
  if (((decide ((labels1.length : Int) > (30 : Int))) || (decide (drives2 < (1 : Int)))) || (decide (drives2 > (4 : Int)))) then
    some (none, (1 : Int))
  else
    (run (X.shelf_New_s9 labels1) (0 : Int)).bind fun o9 => match o9 with
    | .inl _ => X.shelf_New_e9 labels1 drives2
    | .inr rv9 => some rv9

/-! cartridge/cartridgelaw22.num -/
def cartridgelaw22_num (e1 : Int) : Option Int :=
  some e1

/-! (*cartridge/shelf.Shelf).is -/
def shelf_Shelf_is (labels1 : (List Int)) (drives2 : (List Int)) (label3 : Int) : Option Bool :=
  (X.slices_Contains_Lint_int labels1 label3).bind fun r6 =>
  some r6

/-! (*cartridge/shelf.Shelf).Drive -/
def shelf_Shelf_Drive (labels1 : (List Int)) (drives2 : (List Int)) (label3 : Int) : Option Int :=
  (X.shelf_Shelf_is labels1 drives2 label3).bind fun r7 =>
  if (!r7) then
    some ((-1) : Int)
  else
    (X.slices_Index_Lint_int drives2 label3).bind fun r10 =>
    some r10

/-! (*cartridge/shelf.Shelf).Slot -/
def shelf_Shelf_Slot (labels1 : (List Int)) (drives2 : (List Int)) (label3 : Int) : Option Int :=
  (X.shelf_Shelf_is labels1 drives2 label3).bind fun r7 =>
  ((optG (!((!r7))) (X.shelf_Shelf_Drive labels1 drives2 label3))).bind fun r8 =>
  if ((!r7) || (r8 != ((-1) : Int))) then
    some ((-1) : Int)
  else
    (X.slices_Index_Lint_int labels1 label3).bind fun r11 =>
    some r11

/-! (*cartridge/shelf.Shelf).drive -/
def shelf_Shelf_drive (labels1 : (List Int)) (drives2 : (List Int)) (i3 : Int) : Option Bool :=
  some ((decide (i3 ≥ (0 : Int))) && (decide (i3 < (drives2.length : Int))))

/-! (*cartridge/shelf.Shelf).Move -/
def shelf_Shelf_Move (label5 : Int) (drive6 : Int) (labels1 : (List Int)) (drives2 : (List Int)) : Option (Int × ((List Int) × (List Int))) :=
  (X.shelf_Shelf_is labels1 drives2 label5).bind fun r10 =>
  ((optG (!((!r10))) (X.shelf_Shelf_drive labels1 drives2 drive6))).bind fun r11 =>
  if ((!r10) || (!r11)) then
    some ((1 : Int), (labels1, drives2))
  else
    (X.shelf_Shelf_Drive labels1 drives2 label5).bind fun r14 =>
    ((optG (!((r14 != ((-1) : Int)))) (getI drives2 drive6))).bind fun e15 =>
    if ((r14 != ((-1) : Int)) || (e15 != (0 : Int))) then
      some ((11 : Int), (labels1, drives2))
    else
      (getI drives2 drive6).bind fun e18 =>
      some ((0 : Int), (labels1, (drives2.set drive6.toNat label5)))

/-! (*cartridge/shelf.Shelf).Mounted -/
def shelf_Shelf_Mounted (labels1 : (List Int)) (drives2 : (List Int)) (drive3 : Int) : Option Int :=
  (X.shelf_Shelf_drive labels1 drives2 drive3).bind fun r7 =>
  if (!r7) then
    some (0 : Int)
  else
    (getI drives2 drive3).bind fun e10 =>
    some e10

/-! cartridge/cartridgelaw22.alive -/
def cartridgelaw22_alive  : Option Bool :=
  (X.shelf_New ([(5 : Int)] : List Int) (1 : Int)).bind fun r3 =>
  match r3.1 with
  | none =>
    (X.cartridgelaw22_num r3.2).bind fun r6 =>
    some false
  | some o8 =>
    (X.cartridgelaw22_num r3.2).bind fun r13 =>
    if ((r13 != (0 : Int)) || false) then
      some false
    else
      (X.shelf_Shelf_Slot o8.1 o8.2 (5 : Int)).bind fun r16 =>
      (X.shelf_Shelf_Move (5 : Int) (0 : Int) o8.1 o8.2).bind fun r18 =>
      ((optG ((r16 == (0 : Int))) (X.cartridgelaw22_num r18.1))).bind fun r22 =>
      ((optG (((r16 == (0 : Int)) && (r22 == (0 : Int)))) (X.shelf_Shelf_Mounted r18.2.1 r18.2.2 (0 : Int)))).bind fun r23 =>
      ((optG ((((r16 == (0 : Int)) && (r22 == (0 : Int))) && (r23 == (5 : Int)))) (X.shelf_Shelf_Slot r18.2.1 r18.2.2 (5 : Int)))).bind fun r24 =>
      some ((((r16 == (0 : Int)) && (r22 == (0 : Int))) && (r23 == (5 : Int))) && (r24 == ((-1) : Int)))

/-! cartridge/cartridgeref1.Cut -/
def cartridgeref1_Cut (n1 : Int) (low2 : Int) (high3 : Int) : Option Int :=
  if (decide (n1 < low2)) then
    some low2
  else
    if (decide (n1 > high3)) then
      some high3
    else
      some n1

/-! (*cartridge/shelf.Shelf).Back -/
def shelf_Shelf_Back (drive5 : Int) (labels1 : (List Int)) (drives2 : (List Int)) : Option (Int × ((List Int) × (List Int))) :=
  (X.shelf_Shelf_drive labels1 drives2 drive5).bind fun r9 =>
  if (!r9) then
    some ((1 : Int), (labels1, drives2))
  else
    (getI drives2 drive5).bind fun e12 =>
    if (e12 == (0 : Int)) then
      some ((11 : Int), (labels1, drives2))
    else
      (getI drives2 drive5).bind fun e15 =>
      some ((0 : Int), (labels1, (drives2.set drive5.toNat (0 : Int))))

/-! cartridge/cartridgelaw22.ShelfOne -/
def cartridgelaw22_ShelfOne_e35  : Option Bool :=
  some true

def cartridgelaw22_ShelfOne_e59 (c47 : (List Int)) (l49 : List Int) (i40 : Int) : Option (((List Int) × (List Int) × Int) ⊕ (Unit ⊕ Bool)) :=
  some (.inl (c47, l49, (wr (i40 + (1 : Int)))))

def cartridgelaw22_ShelfOne_s59 (drives2 : Int) (c47 : (List Int)) (l49 : List Int) (s : Int) : Option (Int ⊕ (Unit ⊕ Bool)) :=
  match s with
  | d62 =>
    if (decide (d62 < drives2)) then
      (X.shelf_Shelf_Mounted c47 l49 d62).bind fun r69 =>
      ((optG ((r69 != (0 : Int))) (X.shelf_Shelf_Drive c47 l49 r69))).bind fun r71 =>
      if ((r69 != (0 : Int)) && (r71 != d62)) then
        some (.inr (.inr false))
      else
        some (.inl (wr (d62 + (1 : Int))))
    else
      some (.inr (.inl ()))

def cartridgelaw22_ShelfOne_e52 (drives2 : Int) (c47 : (List Int)) (l49 : List Int) (i40 : Int) : Option (((List Int) × (List Int) × Int) ⊕ (Unit ⊕ Bool)) :=
  (run (X.cartridgelaw22_ShelfOne_s59 drives2 c47 l49) (0 : Int)).bind fun o59 => match o59 with
  | .inl _ => X.cartridgelaw22_ShelfOne_e59 c47 l49 i40
  | .inr rv59 => some (.inr (.inr rv59))

def cartridgelaw22_ShelfOne_s52 (n1 : Int) (l19 : List Int) (c47 : (List Int)) (l49 : List Int) (s : Int) : Option (Int ⊕ (Unit ⊕ Bool)) :=
  match s with
  | k55 =>
    if (decide (k55 < n1)) then
      (getI l19 k55).bind fun e77 =>
      (X.shelf_Shelf_Drive c47 l49 e77).bind fun r78 =>
      (getI l19 k55).bind fun e80 =>
      (X.shelf_Shelf_Slot c47 l49 e80).bind fun r81 =>
      ((optG ((!(((r81 == k55) != (r78 == ((-1) : Int))))) && ((decide (r78 ≥ (0 : Int))))) (X.shelf_Shelf_Mounted c47 l49 r78))).bind fun r82 =>
      ((optG ((!(((r81 == k55) != (r78 == ((-1) : Int))))) && ((decide (r78 ≥ (0 : Int))))) (getI l19 k55))).bind fun e83 =>
      ((optG (!((((r81 == k55) != (r78 == ((-1) : Int))) || ((decide (r78 ≥ (0 : Int))) && (r82 != e83))))) (getI l19 k55))).bind fun e84 =>
      ((optG (!((((r81 == k55) != (r78 == ((-1) : Int))) || ((decide (r78 ≥ (0 : Int))) && (r82 != e83))))) (X.shelf_Shelf_Slot c47 l49 e84))).bind fun r85 =>
      if ((((r81 == k55) != (r78 == ((-1) : Int))) || ((decide (r78 ≥ (0 : Int))) && (r82 != e83))) || ((decide (r85 ≥ (0 : Int))) && (decide (r78 ≥ (0 : Int))))) then
        some (.inr (.inr false))
      else
        some (.inl (wr (k55 + (1 : Int))))
    else
      some (.inr (.inl ()))

def cartridgelaw22_ShelfOne_j45 (n1 : Int) (l19 : List Int) (drives2 : Int) (i40 : Int) (c47 : (List Int)) (l49 : List Int) : Option (((List Int) × (List Int) × Int) ⊕ (Unit ⊕ Bool)) :=
  (run (X.cartridgelaw22_ShelfOne_s52 n1 l19 c47 l49) (0 : Int)).bind fun o52 => match o52 with
  | .inl _ => X.cartridgelaw22_ShelfOne_e52 drives2 c47 l49 i40
  | .inr rv52 => some (.inr (.inr rv52))

def cartridgelaw22_ShelfOne_s35 (l3 : (List Act_law22)) (n1 : Int) (l19 : List Int) (drives2 : Int) (s : ((List Int) × (List Int) × Int)) : Option (((List Int) × (List Int) × Int) ⊕ (Unit ⊕ Bool)) :=
  match s with
  | (c37, l39, i40) =>
    if (decide (i40 < (l3.length : Int))) then
      (getI l3 i40).bind fun e88 =>
      if (e88.Way == (0 : Int)) then
        (getI l3 i40).bind fun e89 =>
        (X.cartridgeref1_Cut e89.Label (0 : Int) (40 : Int)).bind fun r90 =>
        (getI l3 i40).bind fun e91 =>
        (X.shelf_Shelf_Move (wr ((10 : Int) + r90)) e91.Drive c37 l39).bind fun r92 =>
        X.cartridgelaw22_ShelfOne_j45 n1 l19 drives2 i40 r92.2.1 r92.2.2
      else
        (getI l3 i40).bind fun e95 =>
        (X.shelf_Shelf_Back e95.Drive c37 l39).bind fun r96 =>
        X.cartridgelaw22_ShelfOne_j45 n1 l19 drives2 i40 r96.2.1 r96.2.2
    else
      some (.inr (.inl ()))

def cartridgelaw22_ShelfOne_e14 (drives2 : Int) (l3 : (List Act_law22)) (n1 : Int) (l19 : List Int) : Option Bool :=
  (X.shelf_New l19 drives2).bind fun r21 =>
  match r21.1 with
  | none =>
    (X.cartridgelaw22_num r21.2).bind fun r24 =>
    some false
  | some o26 =>
    (X.cartridgelaw22_num r21.2).bind fun r31 =>
    if ((r31 != (0 : Int)) || false) then
      some false
    else
      (run (X.cartridgelaw22_ShelfOne_s35 l3 n1 l19 drives2) (o26.1, o26.2, (0 : Int))).bind fun o35 => match o35 with
      | .inl _ => X.cartridgelaw22_ShelfOne_e35
      | .inr rv35 => some rv35

def cartridgelaw22_ShelfOne_s14 (n1 : Int) (s : ((List Int) × Int)) : Option (((List Int) × Int) ⊕ List Int) :=
  match s with
  | (labels16, i17) =>
    if (decide (i17 < n1)) then
      (need ((labels16.length + ([(wr ((10 : Int) + i17))] : List Int).length) * 8 ≤ 140737488355328)).bind fun u102 =>
      some (.inl ((labels16 ++ ([(wr ((10 : Int) + i17))] : List Int)), (wr (i17 + (1 : Int)))))
    else
      some (.inr labels16)

def cartridgelaw22_ShelfOne (n1 : Int) (drives2 : Int) (l3 : (List Act_law22)) : Option Bool :=
  (X.cartridgelaw22_alive).bind fun r6 =>
  if ((((((!r6) || (decide (n1 < (0 : Int)))) || (decide (n1 > (30 : Int)))) || (decide (drives2 < (1 : Int)))) || (decide (drives2 > (4 : Int)))) || (decide ((l3.length : Int) > (100 : Int)))) then
    some r6
  else
    (run (X.cartridgelaw22_ShelfOne_s14 n1) (([] : List Int), (0 : Int))).bind fun o14 => match o14 with
    | l19 => X.cartridgelaw22_ShelfOne_e14 drives2 l3 n1 l19

/-! (*cartridge/cartridgeref22.Shelf).find -/
def cartridgeref22_Shelf_find_e8  : Option Int :=
  some ((-1) : Int)

def cartridgeref22_Shelf_find_s8 (labels1 : (List Int)) (label4 : Int) (s : Int) : Option (Int ⊕ (Unit ⊕ Int)) :=
  match s with
  | i9 =>
    if (decide (i9 < (labels1.length : Int))) then
      (getI labels1 i9).bind fun e15 =>
      if (e15 == label4) then
        some (.inr (.inr i9))
      else
        some (.inl (wr (i9 + (1 : Int))))
    else
      some (.inr (.inl ()))

def cartridgeref22_Shelf_find (labels1 : (List Int)) (in2 : (List Int)) (drives3 : (List Int)) (label4 : Int) : Option Int :=
  (run (X.cartridgeref22_Shelf_find_s8 labels1 label4) (0 : Int)).bind fun o8 => match o8 with
  | .inl _ => X.cartridgeref22_Shelf_find_e8
  | .inr rv8 => some rv8

/-! cartridge/cartridgeref22.NewShelf -/
def cartridgeref22_NewShelf_e15 (drives2 : Int) (l25 : List Int) (l27 : List Int) : Option ((Option ((List Int) × (List Int) × (List Int))) × Int) :=
  some ((some (l25, l27, (List.replicate drives2.toNat (0 : Int)))), (0 : Int))

def cartridgeref22_NewShelf_s15 (labels1 : (List Int)) (drives2 : Int) (s : ((List Int) × (List Int) × Int)) : Option (((List Int) × (List Int) × Int) ⊕ ((List Int × List Int) ⊕ ((Option ((List Int) × (List Int) × (List Int))) × Int))) :=
  match s with
  | (l18, l20, i22) =>
    if (decide (i22 < (labels1.length : Int))) then
      (getI labels1 i22).bind fun e35 =>
      ((optG (!((decide (e35 < (1 : Int))))) (getI labels1 i22))).bind fun e36 =>
      ((optG (!((decide (e35 < (1 : Int))))) (X.cartridgeref22_Shelf_find l18 l20 (List.replicate drives2.toNat (0 : Int)) e36))).bind fun r37 =>
      if ((decide (e35 < (1 : Int))) || (decide (r37 ≥ (0 : Int)))) then
        some (.inr (.inr (none, (1 : Int))))
      else
        (getI labels1 i22).bind fun e40 =>
        (need ((l18.length + ([e40] : List Int).length) * 8 ≤ 140737488355328)).bind fun u41 =>
        (need ((l20.length + ([((-1) : Int)] : List Int).length) * 8 ≤ 140737488355328)).bind fun u42 =>
        some (.inl ((l18 ++ ([e40] : List Int)), (l20 ++ ([((-1) : Int)] : List Int)), (wr (i22 + (1 : Int)))))
    else
      some (.inr (.inl (l18, l20)))

def cartridgeref22_NewShelf (labels1 : (List Int)) (drives2 : Int) : Option ((Option ((List Int) × (List Int) × (List Int))) × Int) :=
  if (((decide ((labels1.length : Int) > (30 : Int))) || (decide (drives2 < (1 : Int)))) || (decide (drives2 > (4 : Int)))) then
    some (none, (1 : Int))
  else
    (need (0 ≤ drives2 ∧ drives2 * 8 ≤ 281474976710656)).bind fun u8 =>
    (run (X.cartridgeref22_NewShelf_s15 labels1 drives2) (([] : List Int), ([] : List Int), (0 : Int))).bind fun o15 => match o15 with
    | .inl (l25, l27) => X.cartridgeref22_NewShelf_e15 drives2 l25 l27
    | .inr rv15 => some rv15

/-! (*cartridge/shelf.Shelf).is -/
def shelf_Shelf_is_nil (label1 : Int) : Option Bool :=
  some false

/-! (*cartridge/shelf.Shelf).drive -/
def shelf_Shelf_drive_nil (i1 : Int) : Option Bool :=
  some false

/-! (*cartridge/shelf.Shelf).Drive -/
def shelf_Shelf_Drive_nil (label1 : Int) : Option Int :=
  (X.shelf_Shelf_is_nil label1).bind fun r5 =>
  if (!r5) then
    some ((-1) : Int)
  else
    none

/-! (*cartridge/shelf.Shelf).Move -/
def shelf_Shelf_Move_nil (label1 : Int) (drive2 : Int) : Option Int :=
  (X.shelf_Shelf_is_nil label1).bind fun r6 =>
  ((optG (!((!r6))) (X.shelf_Shelf_drive_nil drive2))).bind fun r7 =>
  if ((!r6) || (!r7)) then
    some (1 : Int)
  else
    (X.shelf_Shelf_Drive_nil label1).bind fun r10 =>
    none

/-! (*cartridge/cartridgeref22.Shelf).find -/
def cartridgeref22_Shelf_find_nil_s5 (s : Unit) : Option (Unit ⊕ Int) :=
  match s with
  | () =>
    none

def cartridgeref22_Shelf_find_nil (label1 : Int) : Option Int :=
  (run (X.cartridgeref22_Shelf_find_nil_s5) ()).bind fun o5 => some o5

/-! (*cartridge/cartridgeref22.Shelf).Move -/
def cartridgeref22_Shelf_Move_nil (label1 : Int) (d2 : Int) : Option Int :=
  (X.cartridgeref22_Shelf_find_nil label1).bind fun r5 =>
  none

/-! (*cartridge/shelf.Shelf).Back -/
def shelf_Shelf_Back_nil (drive1 : Int) : Option Int :=
  (X.shelf_Shelf_drive_nil drive1).bind fun r5 =>
  if (!r5) then
    some (1 : Int)
  else
    none

/-! (*cartridge/cartridgeref22.Shelf).Back -/
def cartridgeref22_Shelf_Back_nil (d1 : Int) : Option Int :=
  none

/-! (*cartridge/shelf.Shelf).Slot -/
def shelf_Shelf_Slot_nil (label1 : Int) : Option Int :=
  (X.shelf_Shelf_is_nil label1).bind fun r5 =>
  ((optG (!((!r5))) (X.shelf_Shelf_Drive_nil label1))).bind fun r6 =>
  if ((!r5) || (r6 != ((-1) : Int))) then
    some ((-1) : Int)
  else
    none

/-! (*cartridge/cartridgeref22.Shelf).Slot -/
def cartridgeref22_Shelf_Slot_nil (label1 : Int) : Option Int :=
  (X.cartridgeref22_Shelf_find_nil label1).bind fun r4 =>
  none

/-! (*cartridge/cartridgeref22.Shelf).Drive -/
def cartridgeref22_Shelf_Drive_nil (label1 : Int) : Option Int :=
  (X.cartridgeref22_Shelf_find_nil label1).bind fun r4 =>
  if (decide (r4 < (0 : Int))) then
    some ((-1) : Int)
  else
    none

/-! (*cartridge/shelf.Shelf).Mounted -/
def shelf_Shelf_Mounted_nil (drive1 : Int) : Option Int :=
  (X.shelf_Shelf_drive_nil drive1).bind fun r5 =>
  if (!r5) then
    some (0 : Int)
  else
    none

/-! (*cartridge/cartridgeref22.Shelf).Mounted -/
def cartridgeref22_Shelf_Mounted_nil (d1 : Int) : Option Int :=
  none

/-! (*cartridge/cartridgeref22.Shelf).Move -/
def cartridgeref22_Shelf_Move (label8 : Int) (d9 : Int) (labels1 : (List Int)) (in2 : (List Int)) (drives3 : (List Int)) : Option (Int × ((List Int) × (List Int) × (List Int))) :=
  (X.cartridgeref22_Shelf_find labels1 in2 drives3 label8).bind fun r12 =>
  if (((decide (r12 < (0 : Int))) || (decide (d9 < (0 : Int)))) || (decide (d9 ≥ (drives3.length : Int)))) then
    some ((1 : Int), (labels1, in2, drives3))
  else
    (getI in2 r12).bind fun e18 =>
    ((optG (!((decide (e18 ≥ (0 : Int))))) (getI drives3 d9))).bind fun e19 =>
    if ((decide (e18 ≥ (0 : Int))) || (e19 != (0 : Int))) then
      some ((11 : Int), (labels1, in2, drives3))
    else
      (getI in2 r12).bind fun e22 =>
      (getI drives3 d9).bind fun e24 =>
      some ((0 : Int), (labels1, (in2.set r12.toNat d9), (drives3.set d9.toNat label8)))

/-! (*cartridge/cartridgeref22.Shelf).Back -/
def cartridgeref22_Shelf_Back (d8 : Int) (labels1 : (List Int)) (in2 : (List Int)) (drives3 : (List Int)) : Option (Int × ((List Int) × (List Int) × (List Int))) :=
  if ((decide (d8 < (0 : Int))) || (decide (d8 ≥ (drives3.length : Int)))) then
    some ((1 : Int), (labels1, in2, drives3))
  else
    (getI drives3 d8).bind fun e15 =>
    if (e15 == (0 : Int)) then
      some ((11 : Int), (labels1, in2, drives3))
    else
      (getI drives3 d8).bind fun e18 =>
      (X.cartridgeref22_Shelf_find labels1 in2 drives3 e18).bind fun r19 =>
      (getI in2 r19).bind fun e20 =>
      (getI drives3 d8).bind fun e22 =>
      some ((0 : Int), (labels1, (in2.set r19.toNat ((-1) : Int)), (drives3.set d8.toNat (0 : Int))))

/-! (*cartridge/cartridgeref22.Shelf).Slot -/
def cartridgeref22_Shelf_Slot (labels1 : (List Int)) (in2 : (List Int)) (drives3 : (List Int)) (label4 : Int) : Option Int :=
  (X.cartridgeref22_Shelf_find labels1 in2 drives3 label4).bind fun r7 =>
  ((optG (!((decide (r7 < (0 : Int))))) (getI in2 r7))).bind fun e10 =>
  if ((decide (r7 < (0 : Int))) || (decide (e10 ≥ (0 : Int)))) then
    some ((-1) : Int)
  else
    some r7

/-! (*cartridge/cartridgeref22.Shelf).Drive -/
def cartridgeref22_Shelf_Drive (labels1 : (List Int)) (in2 : (List Int)) (drives3 : (List Int)) (label4 : Int) : Option Int :=
  (X.cartridgeref22_Shelf_find labels1 in2 drives3 label4).bind fun r7 =>
  if (decide (r7 < (0 : Int))) then
    some ((-1) : Int)
  else
    (getI in2 r7).bind fun e12 =>
    some e12

/-! (*cartridge/cartridgeref22.Shelf).Mounted -/
def cartridgeref22_Shelf_Mounted (labels1 : (List Int)) (in2 : (List Int)) (drives3 : (List Int)) (d4 : Int) : Option Int :=
  if ((decide (d4 < (0 : Int))) || (decide (d4 ≥ (drives3.length : Int)))) then
    some (0 : Int)
  else
    (getI drives3 d4).bind fun e10 =>
    some e10

/-! cartridge/cartridgelaw22.ShelfPlays -/
def cartridgelaw22_ShelfPlays_e25  : Option Bool :=
  some true

def cartridgelaw22_ShelfPlays_j34 (e32 : Act_law22) (i26 : Int) : Option (Int ⊕ (Unit ⊕ Bool)) :=
  (X.shelf_Shelf_Slot_nil e32.Label).bind fun r37 =>
  (X.cartridgeref22_Shelf_Slot_nil e32.Label).bind fun r38 =>
  ((optG (!((r37 != r38))) (X.shelf_Shelf_Drive_nil e32.Label))).bind fun r39 =>
  ((optG (!((r37 != r38))) (X.cartridgeref22_Shelf_Drive_nil e32.Label))).bind fun r40 =>
  ((optG (!(((r37 != r38) || (r39 != r40)))) (X.shelf_Shelf_Mounted_nil e32.Drive))).bind fun r41 =>
  ((optG (!(((r37 != r38) || (r39 != r40)))) (X.cartridgeref22_Shelf_Mounted_nil e32.Drive))).bind fun r42 =>
  if (((r37 != r38) || (r39 != r40)) || (r41 != r42)) then
    some (.inr (.inr false))
  else
    some (.inl (wr (i26 + (1 : Int))))

def cartridgelaw22_ShelfPlays_s25 (l3 : (List Act_law22)) (s : Int) : Option (Int ⊕ (Unit ⊕ Bool)) :=
  match s with
  | i26 =>
    if (decide (i26 < (l3.length : Int))) then
      (getI l3 i26).bind fun e32 =>
      if (e32.Way == (0 : Int)) then
        (X.shelf_Shelf_Move_nil e32.Label e32.Drive).bind fun r47 =>
        (X.cartridgelaw22_num r47).bind fun r48 =>
        (X.cartridgeref22_Shelf_Move_nil e32.Label e32.Drive).bind fun r49 =>
        if (r48 != r49) then
          some (.inr (.inr false))
        else
          X.cartridgelaw22_ShelfPlays_j34 e32 i26
      else
        if (e32.Way == (1 : Int)) then
          (X.shelf_Shelf_Back_nil e32.Drive).bind fun r53 =>
          (X.cartridgelaw22_num r53).bind fun r54 =>
          (X.cartridgeref22_Shelf_Back_nil e32.Drive).bind fun r55 =>
          if (r54 != r55) then
            some (.inr (.inr false))
          else
            X.cartridgelaw22_ShelfPlays_j34 e32 i26
        else
          X.cartridgelaw22_ShelfPlays_j34 e32 i26
    else
      some (.inr (.inl ()))

def cartridgelaw22_ShelfPlays_e71  : Option Bool :=
  some true

def cartridgelaw22_ShelfPlays_j87 (e85 : Act_law22) (i79 : Int) (l90 : List Int) (l92 : List Int) (l94 : List Int) : Option (((List Int) × (List Int) × (List Int) × Int) ⊕ (Unit ⊕ Bool)) :=
  (X.shelf_Shelf_Slot_nil e85.Label).bind fun r97 =>
  (X.cartridgeref22_Shelf_Slot l90 l92 l94 e85.Label).bind fun r98 =>
  ((optG (!((r97 != r98))) (X.shelf_Shelf_Drive_nil e85.Label))).bind fun r99 =>
  ((optG (!((r97 != r98))) (X.cartridgeref22_Shelf_Drive l90 l92 l94 e85.Label))).bind fun r100 =>
  ((optG (!(((r97 != r98) || (r99 != r100)))) (X.shelf_Shelf_Mounted_nil e85.Drive))).bind fun r101 =>
  ((optG (!(((r97 != r98) || (r99 != r100)))) (X.cartridgeref22_Shelf_Mounted l90 l92 l94 e85.Drive))).bind fun r102 =>
  if (((r97 != r98) || (r99 != r100)) || (r101 != r102)) then
    some (.inr (.inr false))
  else
    some (.inl (l90, l92, l94, (wr (i79 + (1 : Int)))))

def cartridgelaw22_ShelfPlays_s71 (l3 : (List Act_law22)) (s : ((List Int) × (List Int) × (List Int) × Int)) : Option (((List Int) × (List Int) × (List Int) × Int) ⊕ (Unit ⊕ Bool)) :=
  match s with
  | (l74, l76, l78, i79) =>
    if (decide (i79 < (l3.length : Int))) then
      (getI l3 i79).bind fun e85 =>
      if (e85.Way == (0 : Int)) then
        (X.shelf_Shelf_Move_nil e85.Label e85.Drive).bind fun r107 =>
        (X.cartridgelaw22_num r107).bind fun r108 =>
        (X.cartridgeref22_Shelf_Move e85.Label e85.Drive l74 l76 l78).bind fun r109 =>
        if (r108 != r109.1) then
          some (.inr (.inr false))
        else
          X.cartridgelaw22_ShelfPlays_j87 e85 i79 r109.2.1 r109.2.2.1 r109.2.2.2
      else
        if (e85.Way == (1 : Int)) then
          (X.shelf_Shelf_Back_nil e85.Drive).bind fun r117 =>
          (X.cartridgelaw22_num r117).bind fun r118 =>
          (X.cartridgeref22_Shelf_Back e85.Drive l74 l76 l78).bind fun r119 =>
          if (r118 != r119.1) then
            some (.inr (.inr false))
          else
            X.cartridgelaw22_ShelfPlays_j87 e85 i79 r119.2.1 r119.2.2.1 r119.2.2.2
        else
          X.cartridgelaw22_ShelfPlays_j87 e85 i79 l74 l76 l78
    else
      some (.inr (.inl ()))

def cartridgelaw22_ShelfPlays_e139  : Option Bool :=
  some true

def cartridgelaw22_ShelfPlays_j152 (e150 : Act_law22) (i144 : Int) (c154 : (List Int)) (l156 : List Int) : Option (((List Int) × (List Int) × Int) ⊕ (Unit ⊕ Bool)) :=
  (X.shelf_Shelf_Slot c154 l156 e150.Label).bind fun r159 =>
  (X.cartridgeref22_Shelf_Slot_nil e150.Label).bind fun r160 =>
  ((optG (!((r159 != r160))) (X.shelf_Shelf_Drive c154 l156 e150.Label))).bind fun r161 =>
  ((optG (!((r159 != r160))) (X.cartridgeref22_Shelf_Drive_nil e150.Label))).bind fun r162 =>
  ((optG (!(((r159 != r160) || (r161 != r162)))) (X.shelf_Shelf_Mounted c154 l156 e150.Drive))).bind fun r163 =>
  ((optG (!(((r159 != r160) || (r161 != r162)))) (X.cartridgeref22_Shelf_Mounted_nil e150.Drive))).bind fun r164 =>
  if (((r159 != r160) || (r161 != r162)) || (r163 != r164)) then
    some (.inr (.inr false))
  else
    some (.inl (c154, l156, (wr (i144 + (1 : Int)))))

def cartridgelaw22_ShelfPlays_s139 (l3 : (List Act_law22)) (s : ((List Int) × (List Int) × Int)) : Option (((List Int) × (List Int) × Int) ⊕ (Unit ⊕ Bool)) :=
  match s with
  | (c141, l143, i144) =>
    if (decide (i144 < (l3.length : Int))) then
      (getI l3 i144).bind fun e150 =>
      if (e150.Way == (0 : Int)) then
        (X.shelf_Shelf_Move e150.Label e150.Drive c141 l143).bind fun r169 =>
        (X.cartridgelaw22_num r169.1).bind fun r172 =>
        (X.cartridgeref22_Shelf_Move_nil e150.Label e150.Drive).bind fun r173 =>
        if (r172 != r173) then
          some (.inr (.inr false))
        else
          X.cartridgelaw22_ShelfPlays_j152 e150 i144 r169.2.1 r169.2.2
      else
        if (e150.Way == (1 : Int)) then
          (X.shelf_Shelf_Back e150.Drive c141 l143).bind fun r177 =>
          (X.cartridgelaw22_num r177.1).bind fun r180 =>
          (X.cartridgeref22_Shelf_Back_nil e150.Drive).bind fun r181 =>
          if (r180 != r181) then
            some (.inr (.inr false))
          else
            X.cartridgelaw22_ShelfPlays_j152 e150 i144 r177.2.1 r177.2.2
        else
          X.cartridgelaw22_ShelfPlays_j152 e150 i144 c141 l143
    else
      some (.inr (.inl ()))

def cartridgelaw22_ShelfPlays_e197  : Option Bool :=
  some true

def cartridgelaw22_ShelfPlays_j217 (e215 : Act_law22) (i209 : Int) (c219 : (List Int)) (l221 : List Int) (l224 : List Int) (l226 : List Int) (l228 : List Int) : Option (((List Int) × (List Int) × (List Int) × (List Int) × (List Int) × Int) ⊕ (Unit ⊕ Bool)) :=
  (X.shelf_Shelf_Slot c219 l221 e215.Label).bind fun r231 =>
  (X.cartridgeref22_Shelf_Slot l224 l226 l228 e215.Label).bind fun r232 =>
  ((optG (!((r231 != r232))) (X.shelf_Shelf_Drive c219 l221 e215.Label))).bind fun r233 =>
  ((optG (!((r231 != r232))) (X.cartridgeref22_Shelf_Drive l224 l226 l228 e215.Label))).bind fun r234 =>
  ((optG (!(((r231 != r232) || (r233 != r234)))) (X.shelf_Shelf_Mounted c219 l221 e215.Drive))).bind fun r235 =>
  ((optG (!(((r231 != r232) || (r233 != r234)))) (X.cartridgeref22_Shelf_Mounted l224 l226 l228 e215.Drive))).bind fun r236 =>
  if (((r231 != r232) || (r233 != r234)) || (r235 != r236)) then
    some (.inr (.inr false))
  else
    some (.inl (c219, l221, l224, l226, l228, (wr (i209 + (1 : Int)))))

def cartridgelaw22_ShelfPlays_s197 (l3 : (List Act_law22)) (s : ((List Int) × (List Int) × (List Int) × (List Int) × (List Int) × Int)) : Option (((List Int) × (List Int) × (List Int) × (List Int) × (List Int) × Int) ⊕ (Unit ⊕ Bool)) :=
  match s with
  | (c199, l201, l204, l206, l208, i209) =>
    if (decide (i209 < (l3.length : Int))) then
      (getI l3 i209).bind fun e215 =>
      if (e215.Way == (0 : Int)) then
        (X.shelf_Shelf_Move e215.Label e215.Drive c199 l201).bind fun r241 =>
        (X.cartridgelaw22_num r241.1).bind fun r244 =>
        (X.cartridgeref22_Shelf_Move e215.Label e215.Drive l204 l206 l208).bind fun r245 =>
        if (r244 != r245.1) then
          some (.inr (.inr false))
        else
          X.cartridgelaw22_ShelfPlays_j217 e215 i209 r241.2.1 r241.2.2 r245.2.1 r245.2.2.1 r245.2.2.2
      else
        if (e215.Way == (1 : Int)) then
          (X.shelf_Shelf_Back e215.Drive c199 l201).bind fun r253 =>
          (X.cartridgelaw22_num r253.1).bind fun r256 =>
          (X.cartridgeref22_Shelf_Back e215.Drive l204 l206 l208).bind fun r257 =>
          if (r256 != r257.1) then
            some (.inr (.inr false))
          else
            X.cartridgelaw22_ShelfPlays_j217 e215 i209 r253.2.1 r253.2.2 r257.2.1 r257.2.2.1 r257.2.2.2
        else
          X.cartridgelaw22_ShelfPlays_j217 e215 i209 c199 l201 l204 l206 l208
    else
      some (.inr (.inl ()))

def cartridgelaw22_ShelfPlays (labels1 : (List Int)) (drives2 : Int) (l3 : (List Act_law22)) : Option Bool :=
  (X.cartridgelaw22_alive).bind fun r6 =>
  if (((!r6) || (decide ((labels1.length : Int) > (40 : Int)))) || (decide ((l3.length : Int) > (100 : Int)))) then
    some r6
  else
    (need (labels1.length * 8 ≤ 140737488355328)).bind fun u11 =>
    (X.shelf_New labels1 drives2).bind fun r13 =>
    match r13.1 with
    | none =>
      (X.cartridgeref22_NewShelf labels1 drives2).bind fun r15 =>
      match r15.1 with
      | none =>
        (X.cartridgelaw22_num r13.2).bind fun r18 =>
        if ((r18 != r15.2) || (true != (r15.2 != (0 : Int)))) then
          some false
        else
          if (r15.2 != (0 : Int)) then
            some true
          else
            (run (X.cartridgelaw22_ShelfPlays_s25 l3) (0 : Int)).bind fun o25 => match o25 with
            | .inl _ => X.cartridgelaw22_ShelfPlays_e25
            | .inr rv25 => some rv25
      | some o57 =>
        (X.cartridgelaw22_num r13.2).bind fun r64 =>
        if ((r64 != r15.2) || (true != (r15.2 != (0 : Int)))) then
          some false
        else
          if (r15.2 != (0 : Int)) then
            some true
          else
            (run (X.cartridgelaw22_ShelfPlays_s71 l3) (o57.1, o57.2.1, o57.2.2, (0 : Int))).bind fun o71 => match o71 with
            | .inl _ => X.cartridgelaw22_ShelfPlays_e71
            | .inr rv71 => some rv71
    | some o125 =>
      (X.cartridgeref22_NewShelf labels1 drives2).bind fun r129 =>
      match r129.1 with
      | none =>
        (X.cartridgelaw22_num r13.2).bind fun r132 =>
        if ((r132 != r129.2) || (false != (r129.2 != (0 : Int)))) then
          some false
        else
          if (r129.2 != (0 : Int)) then
            some true
          else
            (run (X.cartridgelaw22_ShelfPlays_s139 l3) (o125.1, o125.2, (0 : Int))).bind fun o139 => match o139 with
            | .inl _ => X.cartridgelaw22_ShelfPlays_e139
            | .inr rv139 => some rv139
      | some o183 =>
        (X.cartridgelaw22_num r13.2).bind fun r190 =>
        if ((r190 != r129.2) || (false != (r129.2 != (0 : Int)))) then
          some false
        else
          if (r129.2 != (0 : Int)) then
            some true
          else
            (run (X.cartridgelaw22_ShelfPlays_s197 l3) (o125.1, o125.2, o183.1, o183.2.1, o183.2.2, (0 : Int))).bind fun o197 => match o197 with
            | .inl _ => X.cartridgelaw22_ShelfPlays_e197
            | .inr rv197 => some rv197

/-! cartridge/cartridgelaw22.ShelfBack -/
def cartridgelaw22_ShelfBack_e15 (drives3 : Int) (d4 : Int) (at2 : Int) (l20 : List Int) : Option Bool :=
  (X.shelf_New l20 drives3).bind fun r22 =>
  match r22.1 with
  | none =>
    (X.cartridgelaw22_num r22.2).bind fun r25 =>
    some false
  | some o27 =>
    (X.cartridgelaw22_num r22.2).bind fun r32 =>
    if ((r32 != (0 : Int)) || false) then
      some false
    else
      (X.shelf_Shelf_Back d4 o27.1 o27.2).bind fun r35 =>
      (getI l20 at2).bind fun e39 =>
      (X.shelf_Shelf_Move e39 d4 r35.2.1 r35.2.2).bind fun r40 =>
      (getI l20 at2).bind fun e44 =>
      (X.shelf_Shelf_Move e44 d4 r40.2.1 r40.2.2).bind fun r45 =>
      (X.shelf_Shelf_Mounted r45.2.1 r45.2.2 d4).bind fun r49 =>
      (getI l20 at2).bind fun e51 =>
      (X.shelf_Shelf_Slot r45.2.1 r45.2.2 e51).bind fun r52 =>
      (X.shelf_Shelf_Back d4 r45.2.1 r45.2.2).bind fun r54 =>
      (X.cartridgelaw22_num r35.1).bind fun r58 =>
      ((optG ((r58 == (11 : Int))) (X.cartridgelaw22_num r40.1))).bind fun r59 =>
      ((optG (((r58 == (11 : Int)) && (r59 == (0 : Int)))) (X.cartridgelaw22_num r45.1))).bind fun r60 =>
      ((optG ((((r58 == (11 : Int)) && (r59 == (0 : Int))) && (r60 == (11 : Int)))) (getI l20 at2))).bind fun e61 =>
      ((optG ((((((r58 == (11 : Int)) && (r59 == (0 : Int))) && (r60 == (11 : Int))) && (r49 == e61)) && (r52 == ((-1) : Int)))) (X.cartridgelaw22_num r54.1))).bind fun r62 =>
      ((optG (((((((r58 == (11 : Int)) && (r59 == (0 : Int))) && (r60 == (11 : Int))) && (r49 == e61)) && (r52 == ((-1) : Int))) && (r62 == (0 : Int)))) (getI l20 at2))).bind fun e63 =>
      ((optG (((((((r58 == (11 : Int)) && (r59 == (0 : Int))) && (r60 == (11 : Int))) && (r49 == e61)) && (r52 == ((-1) : Int))) && (r62 == (0 : Int)))) (X.shelf_Shelf_Slot r54.2.1 r54.2.2 e63))).bind fun r64 =>
      ((optG ((((((((r58 == (11 : Int)) && (r59 == (0 : Int))) && (r60 == (11 : Int))) && (r49 == e61)) && (r52 == ((-1) : Int))) && (r62 == (0 : Int))) && (r64 == at2))) (X.shelf_Shelf_Mounted r54.2.1 r54.2.2 d4))).bind fun r65 =>
      ((optG (((((((((r58 == (11 : Int)) && (r59 == (0 : Int))) && (r60 == (11 : Int))) && (r49 == e61)) && (r52 == ((-1) : Int))) && (r62 == (0 : Int))) && (r64 == at2)) && (r65 == (0 : Int)))) (getI l20 at2))).bind fun e66 =>
      ((optG (((((((((r58 == (11 : Int)) && (r59 == (0 : Int))) && (r60 == (11 : Int))) && (r49 == e61)) && (r52 == ((-1) : Int))) && (r62 == (0 : Int))) && (r64 == at2)) && (r65 == (0 : Int)))) (X.shelf_Shelf_Drive r54.2.1 r54.2.2 e66))).bind fun r67 =>
      some (((((((((r58 == (11 : Int)) && (r59 == (0 : Int))) && (r60 == (11 : Int))) && (r49 == e61)) && (r52 == ((-1) : Int))) && (r62 == (0 : Int))) && (r64 == at2)) && (r65 == (0 : Int))) && (r67 == ((-1) : Int)))

def cartridgelaw22_ShelfBack_s15 (n1 : Int) (s : ((List Int) × Int)) : Option (((List Int) × Int) ⊕ List Int) :=
  match s with
  | (labels17, i18) =>
    if (decide (i18 < n1)) then
      (need ((labels17.length + ([(wr ((wr ((7 : Int) * i18)) + (3 : Int)))] : List Int).length) * 8 ≤ 140737488355328)).bind fun u71 =>
      some (.inl ((labels17 ++ ([(wr ((wr ((7 : Int) * i18)) + (3 : Int)))] : List Int)), (wr (i18 + (1 : Int)))))
    else
      some (.inr labels17)

def cartridgelaw22_ShelfBack (n1 : Int) (at2 : Int) (drives3 : Int) (d4 : Int) : Option Bool :=
  (X.cartridgelaw22_alive).bind fun r7 =>
  if (((((((((!r7) || (decide (n1 < (1 : Int)))) || (decide (n1 > (30 : Int)))) || (decide (at2 < (0 : Int)))) || (decide (at2 ≥ n1))) || (decide (drives3 < (1 : Int)))) || (decide (drives3 > (4 : Int)))) || (decide (d4 < (0 : Int)))) || (decide (d4 ≥ drives3))) then
    some r7
  else
    (run (X.cartridgelaw22_ShelfBack_s15 n1) (([] : List Int), (0 : Int))).bind fun o15 => match o15 with
    | l20 => X.cartridgelaw22_ShelfBack_e15 drives3 d4 at2 l20

end X
end Go.AX
