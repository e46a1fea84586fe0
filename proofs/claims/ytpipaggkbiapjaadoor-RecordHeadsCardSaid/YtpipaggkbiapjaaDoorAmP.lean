import Derived.Test.YtpipaggkbiapjaaDoorAmO
import Derived.Orders
/- Regions of which Go leaves the order open: each operation yields the same in any of them. -/
namespace Go.AM
open Go.RowKit

def readsX : X → List Nat
  | .t n => [n]
  | _ => []
def readsXs : List X → List Nat
  | [] => []
  | x :: r => readsX x ++ readsXs r
def readsP : List (Nat × X) → List Nat
  | [] => []
  | (_, x) :: r => readsX x ++ readsP r
def readsO : Option X → List Nat
  | none => []
  | some x => readsX x
def readsI : I → List Nat
  | .mv x => readsX x
  | .pk c a b => readsX c ++ (readsX a ++ readsX b)
  | .al _ => []
  | .box _ x => readsX x
  | .bld _ ps => readsP ps
  | .bsl _ _ ps => readsP ps
  | .ld _ x => readsX x
  | .st _ x y => readsX x ++ readsX y
  | .nc x => readsX x
  | .bin _ _ x y => readsX x ++ readsX y
  | .un _ x => readsX x
  | .cvt _ _ x => readsX x
  | .mf _ cs => readsXs cs
  | .mk _ x y => readsX x ++ readsX y
  | .sli _ x lo hi mx => readsX x ++ (readsO lo ++ (readsO hi ++ readsO mx))
  | .fa _ x _ => readsX x
  | .fd _ x _ => readsX x
  | .ia _ x y => readsX x ++ readsX y
  | .ix _ x y => readsX x ++ readsX y
  | .ex x _ => readsX x
  | .call f xs => readsX f ++ readsXs xs
  | .bi _ _ xs => readsXs xs
  | .unk => []
def readsK (k : KO) : List Nat := (match k.g with | some (d, _) => [d] | none => []) ++ readsI k.i

/-- Two slots' tables tell these slots alike. -/
def Same (ts : List Nat) (e e' : Env) : Prop := ∀ t, t ∈ ts → lk e t = lk e' t

theorem Same.left {a b : List Nat} {e e' : Env} (h : Same (a ++ b) e e') : Same a e e' := fun t ht => h t (by simp [ht])
theorem Same.right {a b : List Nat} {e e' : Env} (h : Same (a ++ b) e e') : Same b e e' := fun t ht => h t (by simp [ht])

theorem ev_same {e e' : Env} {x : X} (h : Same (readsX x) e e') : ev e x = ev e' x := by
  cases x <;> try rfl
  case t n => simp only [ev, h n (by simp [readsX])]
theorem evs_same {e e' : Env} : ∀ {xs : List X}, Same (readsXs xs) e e' → evs e xs = evs e' xs
  | [], _ => rfl
  | x :: r, h => by
    simp only [readsXs] at h
    simp only [evs, ev_same h.left, evs_same h.right]
theorem fillA_same {C : Cx} {hp : Hp} {fs : List (TypeId × Nat)} {e e' : Env} : ∀ {ps : List (Nat × X)} (cs : Nat → AV), Same (readsP ps) e e' → fillA C hp fs e cs ps = fillA C hp fs e' cs ps
  | [], _, _ => rfl
  | (n, x) :: r, cs, h => by
    simp only [readsP] at h
    have ih : ∀ cs, fillA C hp fs e cs r = fillA C hp fs e' cs r := fun cs => fillA_same cs h.right
    unfold fillA
    simp only [ev_same h.left, ih]
theorem litA_same {hp : Hp} {sz : Nat} {e e' : Env} : ∀ {ps : List (Nat × X)} (i : Nat), Same (readsP ps) e e' → litA hp e sz i ps = litA hp e' sz i ps
  | [], _, _ => rfl
  | (n, x) :: r, i, h => by
    simp only [readsP] at h
    have ih := litA_same (hp := hp) (sz := sz) (i + 1) h.right
    unfold litA
    simp only [ev_same h.left, ih]
theorem boundA_same {e e' : Env} {x : Option X} {d : Nat} (h : Same (readsO x) e e') : boundA e x d = boundA e' x d := by
  cases x with
  | none => rfl
  | some x => simp only [boundA, ev_same (show Same (readsX x) e e' from h)]
theorem sliA_same {C : Cx} {hp : Hp} {e e' : Env} {t : TypeId} {u : AV} {lo hi : Option X} (h : Same (readsO lo ++ readsO hi) e e') : sliA C hp e t u lo hi = sliA C hp e' t u lo hi := by
  have h1 := fun d => boundA_same (d := d) h.left
  have h2 := fun d => boundA_same (d := d) h.right
  simp only [sliA, sliB, h1, h2]

theorem pv_same {C : Cx} {hp : Hp} {e e' : Env} {i : I} (h : Same (readsI i) e e') : pv C hp e i = pv C hp e' i := by
  cases i
  case mv x => simp only [pv, ev_same (x := x) h]
  case pk c a b => simp only [pv, ev_same (x := c) h.left, ev_same (x := a) h.right.left, ev_same (x := b) h.right.right]
  case bld t ps => simp only [pv, bldA, fillA_same (ps := ps) _ h]
  case ld t x => simp only [pv, ev_same (x := x) h]
  case nc x => simp only [pv, ev_same (x := x) h]
  case bin op t x y => simp only [pv, ev_same (x := x) h.left, ev_same (x := y) h.right]
  case un op x => simp only [pv, ev_same (x := x) h]
  case cvt s t x => simp only [pv, ev_same (x := x) h]
  case mf f cs => simp only [pv, evs_same (xs := cs) h]
  case sli t x lo hi mx =>
    have hx := ev_same (x := x) h.left
    have h1 : Same (readsO lo ++ readsO hi) e e' := fun t ht => h.right t (by simp at ht ⊢; rcases ht with ht | ht <;> simp [ht])
    have h2 := fun u => sliA_same (C := C) (hp := hp) (t := t) (u := u) h1
    cases mx with
    | none => simp only [pv, hx, h2]
    | some m => simp only [pv, hx]
  case fa t x n => simp only [pv, ev_same (x := x) h]
  case fd t x n => simp only [pv, ev_same (x := x) h]
  case ia t x y => simp only [pv, ev_same (x := x) h.left, ev_same (x := y) h.right]
  case ix t x y => simp only [pv, ev_same (x := x) h.left, ev_same (x := y) h.right]
  case ex x n => simp only [pv, ev_same (x := x) h]
  case bi b ts xs =>
    rcases xs with _ | ⟨x, _ | ⟨y, _ | ⟨z, r⟩⟩⟩ <;> rcases ts with _ | ⟨t, _ | ⟨t', r'⟩⟩ <;> cases b <;> first
      | rfl
      | (simp only [pv, ev_same (x := x) h.left]; done)
      | (simp only [pv, ev_same (x := x) h.left, ev_same (x := y) h.right.left]; done)
  all_goals rfl
end Go.AM
