import Derived.Test.YtliahlgkinhjlaaDoorXAB
import Derived.Shelf.Strings.FuncGrows
/- Functions of the library that take functions, by the kit's contracts. -/
namespace Go.AX
open Go.AM
open Go.RowKit

theorem fun_indexFunc {P : Program} {fid : FuncId} (hE : Enters P fid)
    (hC : ∀ (g : Nat) (lb : Array Value) (_ : ∀ args w, (callFunc g args).run P w = .ok (.enter g args) w) (p : Nat → Bool) (truth : Bool) (s : ByteArray) (w : World) (_ : Go.Proofs.PredGrows P g lb p w),
      Calls P fid #[.string s, .func (.func g) #[] lb, .bool truth] w fun e w' => e = .returned (.int .i64 (Lib.idxFunc p truth s)) ∧ Below w.heap.size w w')
    {s : Str} {gx : I32 → Option Bool} {truth : Bool} {gV : AV} (hg : ∃ f m c, gV = .fn f m c ∧ (∀ i, i < m → (c i).val) ∧ ∀ a0 r, gx a0 = some r → Fun P f ([Enc.v a0] ++ (List.range m).map c) (· = Enc.v r))
    (ht : ∀ x : Nat, x ≤ 1114111 → (gx (I32.mk x)).isSome = true) :
    Fun P fid [Enc.v s, gV, Enc.v truth] (· = Enc.v (Lib.idxFunc (fun x => (gx (I32.mk x)).getD false) truth s.ba)) := by
  obtain ⟨f, m, c, rfl, hval, hF⟩ := hg
  refine ⟨hE, fun μ w cargs hm hsz hv => ?_⟩
  have hsz : cargs.size = 3 := hsz
  have v0 : cargs.getD 0 undef = .string s.ba := hv 0 (by simp)
  have v1 : VR μ w (.fn f m c) (cargs.getD 1 undef) := hv 1 (by simp)
  have v2 : cargs.getD 2 undef = .bool truth := hv 2 (by simp)
  obtain ⟨vs, e1, hvs, hcs⟩ := v1
  have hc : cargs = #[.string s.ba, .func (.func f) #[] vs, .bool truth] := by
    apply Array.ext (by simpa using hsz)
    intro i h1 h2
    have hi : i < 3 := by omega
    rcases (by omega : i = 0 ∨ i = 1 ∨ i = 2) with rfl | rfl | rfl
    · rw [Array.getD_eq_getD_getElem?, Array.getElem?_eq_getElem h1] at v0; exact v0
    · rw [Array.getD_eq_getD_getElem?, Array.getElem?_eq_getElem h1] at e1; exact e1
    · rw [Array.getD_eq_getD_getElem?, Array.getElem?_eq_getElem h1] at v2; exact v2
  obtain ⟨r0, hr0⟩ := Option.isSome_iff_exists.1 (ht 0 (by omega))
  rw [hc]
  refine (hC f vs (hF _ _ hr0).enters (fun x => (gx (I32.mk x)).getD false) truth s.ba w ?_).mono ?_
  · intro W x hx hb
    obtain ⟨r, hr⟩ := Option.isSome_iff_exists.1 (ht x hx)
    have st := Step.of_below hm hb
    have hmW : MuOK μ W := ⟨fun b B e => Nat.lt_of_lt_of_le (hm.1 b B e) hb.size, fun g hg => Nat.lt_of_lt_of_le (hm.2 g hg) hb.size⟩
    have hF' := hF (I32.mk x) r hr
    have hargs : ∀ i, i < ([Enc.v (I32.mk (x : Int))] ++ (List.range m).map c).length → VR μ W (ofL ([Enc.v (I32.mk (x : Int))] ++ (List.range m).map c) i) ((#[Value.int .i32 (x : Int)] ++ vs).getD i undef) := by
      intro i hi
      cases i with
      | zero =>
        have e1 : (#[Value.int .i32 (x : Int)] ++ vs).getD 0 undef = .int .i32 (x : Int) := by
          simp [Array.getD_eq_getD_getElem?, Array.getElem?_append]
        rw [e1]
        show VR μ W (.int .i32 (x : Int)) _
        rfl
      | succ i =>
        have hi' : i < m := by simpa using hi
        have h1 := VR.mono st _ _ (hcs i hi')
        have e1 : (#[Value.int .i32 (x : Int)] ++ vs).getD (i + 1) undef = vs.getD i undef := by
          simp [Array.getD_eq_getD_getElem?, Array.getElem?_append]
        have e2 : ofL ([Enc.v (I32.mk (x : Int))] ++ (List.range m).map c) (i + 1) = c i := by
          simp [ofL, List.getD_eq_getElem?_getD, hi']
        rw [e1, e2]
        exact h1
    have hcall := hF'.calls μ W (#[Value.int .i32 (x : Int)] ++ vs) hmW (by simp [hvs]; omega) hargs
    refine Calls.mono hcall ?_
    rintro e w' ⟨c', r', rfl, rfl, _, hrv, hb'⟩
    refine ⟨?_, hb'⟩
    have hrv : c' = .bool r := hrv
    rw [hrv]
    simp only [hr, Option.getD_some]
  · rintro e w' ⟨rfl, hb⟩
    exact ⟨_, _, rfl, rfl, trivial, rfl, hb⟩
end Go.AX
