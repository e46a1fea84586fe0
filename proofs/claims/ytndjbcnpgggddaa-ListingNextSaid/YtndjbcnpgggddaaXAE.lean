import Derived.Test.YtndjbcnpgggddaaLibC
import Derived.Sort.OwnSorted
import Derived.Lib.SlicesCompact
/- slices.Sort and slices.Compact of strings, of an own list, by the kit's contracts. -/
namespace Go.AX
open Go.AM Go.RowKit
open Go.Sort Go.Proofs

def sortS (l : List Str) : List Str := ((l.map (·.l)).mergeSort fun x y => decide (x ≤ y)).map Str.mk
def compactS (l : List Str) : List Str := (Lib.compact (l.map (·.l))).map Str.mk
theorem sortS_len (l : List Str) : (sortS l).length = l.length := by simp [sortS]

theorem compact_le (zs : List (List UInt8)) : (Lib.compact zs).length ≤ zs.length := by
  unfold Lib.compact Lib.compactUpTo
  rw [List.length_map]
  exact Nat.le_trans (List.length_filter_le _ _) (by simp)
/-- The block of an own list of texts. -/
theorem str_block {μ : Mu} {w : World} {b : Nat} {ty : TypeId} {l : List Str} {v : Value} (s : Sim μ [(b, RL ty l)] w) (hv : VR μ w (OL b l) v) :
    (l = [] ∧ ∃ x, v = .slice x 0 0) ∨ ∃ B cs cap, μ.f b = some B ∧ B.L = (RL ty l).m ∧ v = .slice (some ⟨B.g, 0, none⟩) l.length cap ∧ cap = B.E ∧ w.heap[B.g]? = some (.cells cs ty (0, 0)) ∧ cs.size = B.E ∧ l.length ≤ B.E ∧
      cs.toList.take (l.map (·.l)).length = (l.map (·.l)).map encStr := by
  have hg : Hp.get [(b, RL ty l)] b = some (RL ty l) := by simp [Hp.get]
  rcases s.rs (h := [(b, RL ty l)]) (by unfold refOK; rw [hg]; rfl) hv with ⟨_, x, _, _, _, hl, _, _, _, hx⟩ | ⟨r, B, cs, cap, hr, _, hB, hL, hx, hcap, _, hh, hE, hm, hc⟩
  · exact .inl ⟨List.length_eq_zero_iff.1 hl, x, hx⟩
  · rw [hg] at hr
    injection hr with hr
    subst hr
    have hsz : Enc.sz Str = 1 := rfl
    have hm' : (RL ty l).m = l.length := by show l.length * Enc.sz Str = _; rw [hsz, Nat.mul_one]
    rw [hm'] at hm hc
    refine .inr ⟨B, cs, cap, hB, hL, hx, by rw [hsz] at hcap; omega, hh, hE, hm, ?_⟩
    apply List.ext_getElem?
    intro j
    by_cases hj : j < l.length
    · rw [List.getElem?_take_of_lt (by simpa using hj), Array.getElem?_toList]
      obtain ⟨u, h1, h2⟩ := hc j hj
      rw [h1]
      have e : (RL ty l).cells j = .str (l[j]).ba := by
        show rowL (Enc.sz Str) ec l j = _
        have := catC_lt (sz := 1) (l := l.map ec) (i := j) (d := 0) (by omega)
        rw [Nat.mul_one, Nat.add_zero] at this
        unfold rowL
        rw [hsz, this]
        simp [hj]
        rfl
      rw [e] at h2
      have h2 : u = .string (l[j]).ba := h2
      rw [h2]
      simp [hj, encStr, Str.ba]
    · rw [List.getElem?_take_eq_none (by simp; omega), List.getElem?_eq_none (by simp; omega)]

/-- An own list of texts, turned in its place. -/
theorem str_turn {μ : Mu} {w w' : World} {b : Nat} {ty : TypeId} {l ys : List Str} (s : Sim μ [(b, RL ty l)] w) {B : Blk} {cs : Array Value} (hB : μ.f b = some B) (hL : B.L = (RL ty l).m) (hh : w.heap[B.g]? = some (.cells cs ty (0, 0))) (hE : cs.size = B.E)
    (hm : l.length ≤ B.E) (hlen : ys.length = l.length) {n : Nat} {os : Array Obj} (hw : w' = grow (putRow encStr (Sort.ahead w n) B.g 0 (ys.map (·.l)).toArray) os) :
    ∃ μ', Sim μ' [(b, RL ty ys)] w' ∧ Step μ w μ' w' ∧ μ'.f b = some B := by
  have hg : Hp.get [(b, RL ty l)] b = some (RL ty l) := by simp [Hp.get]
  have hsz : Enc.sz Str = 1 := rfl
  have hgb := Go.grownBy_sorted (w := w) (g := B.g) (n := n) (os := os) (ys.map (·.l)).toArray
  rw [← hw] at hgb
  obtain ⟨g1, g2, g3, g4, g5⟩ := hgb
  have hsorted := Go.heap_sorted (n := n) (os := os) (ys.map (·.l)).toArray hh
  rw [← hw] at hsorted
  have hlt : B.g < w'.heap.size := (Array.getElem?_eq_some_iff.1 hsorted).1
  obtain ⟨μ', h1, h2, _, _, h5⟩ := s.turn (r' := RL ty ys) (B' := B) (w' := w') hg hB (.inl rfl) hlt (Nat.le_refl _) (fun _ => rfl) (by rw [hL]; show l.length * _ = ys.length * _; rw [hlen]) hsorted (by simp [putCells, hE])
    (by show ys.length * Enc.sz Str ≤ _; rw [hsz, hlen]; omega) (fun i hi => by
      have hi' : i < ys.length := by
        have : i < ys.length * Enc.sz Str := hi
        rw [hsz] at this; omega
      refine ⟨.string (ys[i]).ba, ?_, ?_⟩
      · have ht := Go.take_putCells cs (ys.map (·.l)) (by simp; omega)
        have h1 : ((putCells encStr 0 (ys.map (·.l)).toArray cs).toList.take (ys.map (·.l)).length)[i]? = ((ys.map (·.l)).map encStr)[i]? := by rw [ht]
        rw [List.getElem?_take_of_lt (by simpa using hi'), Array.getElem?_toList] at h1
        rw [h1]
        simp [hi', encStr, Str.ba]
      · have e : (RL ty ys).cells i = .str (ys[i]).ba := by
          show rowL (Enc.sz Str) ec ys i = _
          have := catC_lt (sz := 1) (l := ys.map ec) (i := i) (d := 0) (by omega)
          rw [Nat.mul_one, Nat.add_zero] at this
          unfold rowL
          rw [hsz, this]
          simp [hi']
          rfl
        rw [e]
        rfl) (fun k hk hne => g5 k hk (by simpa using hne)) g4 g1 g2 g3
  refine ⟨μ', ?_, h2, h5⟩
  have e : Hp.upd [(b, RL ty l)] b (RL ty ys) = [(b, RL ty ys)] := by simp [Hp.upd]
  rw [← e]
  exact h1

theorem tcx_sort {P : Program} {fid : FuncId} (hE : Enters P fid)
    (hC : ∀ (blk off cap : Nat) (ss : List (List UInt8)) (w : World), Holds encStr w blk off ss.toArray → blk < w.heap.size → ss.length < 4611686018427387904 →
      Calls P fid #[.slice (some ⟨blk, off, none⟩) ss.length cap] w fun e w' => e = .returned (.tuple #[]) ∧ ∃ n os, w' = grow (putRow encStr (Sort.ahead w n) blk off (ss.mergeSort fun x y => decide (x ≤ y)).toArray) os)
    (h0 : ∀ (p : Option Addr) (cap : Nat) (w : World), Calls P fid #[.slice p 0 cap] w fun e w' => e = .returned (.tuple #[]) ∧ w' = w)
    {l : List Str} {b : Nat} {ty : TypeId} (hl : l.length < 4611686018427387904) : TCX P fid [OL b l] [(b, RL ty l)] (fun rv h' => rv = .tup 0 (ofL []) ∧ h' = [(b, RL ty (sortS l))]) := by
  refine ⟨hE, fun μ w cargs s hsz hv => ?_⟩
  have hsz : cargs.size = 1 := hsz
  have v0 : VR μ w (OL b l) (cargs.getD 0 undef) := hv 0 (by simp)
  have hc : cargs = #[cargs.getD 0 undef] := by
    apply Array.ext (by simpa using hsz)
    intro i h1 h2
    have : i = 0 := by omega
    subst this
    simp [Array.getD, h1]
  have fin : ∀ (ys : List Str), ((.tup 0 (ofL []) : AV) = .tup 0 (ofL []) ∧ [(b, RL ty ys)] = [(b, RL ty ys)]) ∧ Nd [(b, RL ty ys)] ∧ inH [(b, RL ty ys)] (.tup 0 (ofL [])) ∧ clH [(b, RL ty ys)] := fun ys =>
    ⟨⟨rfl, rfl⟩, by simp [Nd], (by intro i hi; cases hi), clH_of ⟨rowIn_RL, trivial⟩⟩
  rw [hc]
  rcases str_block s v0 with ⟨rfl, x, hx⟩ | ⟨B, cs, cap, hB, hL, hx, hcap, hh, hE', hm, ht⟩
  · rw [hx]
    refine (h0 x 0 w).mono ?_
    rintro e w' ⟨rfl, rfl⟩
    exact ⟨_, .tup 0 (ofL []), μ, [(b, RL ty [])], rfl, by rw [show sortS [] = [] by simp [sortS]]; exact fin [], ⟨#[], rfl, rfl, fun i hi => by cases hi⟩, s, Step.refl _ _⟩
  · rw [hx]
    have hlen : (l.map (·.l)).length = l.length := by simp
    have := hC B.g 0 cap (l.map (·.l)) w (Go.holds_of_block hh ht) (Array.getElem?_eq_some_iff.1 hh).1 (by omega)
    rw [hlen] at this
    refine this.mono ?_
    rintro e w' ⟨rfl, n, os, hw⟩
    have hy : (sortS l).map (·.l) = (l.map (·.l)).mergeSort fun x y => decide (x ≤ y) := by simp [sortS, Function.comp_def]
    obtain ⟨μ', q1, q2, _⟩ := str_turn (w' := w') (ys := sortS l) s hB hL hh hE' hm (sortS_len l) (n := n) (os := os) (by rw [hy]; exact hw)
    exact ⟨_, .tup 0 (ofL []), μ', [(b, RL ty (sortS l))], rfl, fin _, ⟨#[], rfl, rfl, fun i hi => by cases hi⟩, q1, q2⟩

theorem tcx_compact {P : Program} {fid : FuncId} (hE : Enters P fid)
    (hC : ∀ (blk off cap : Nat) (zs : List (List UInt8)) (w : World), Holds encStr w blk off zs.toArray → zs.length ≤ 9223372036854775807 → zs.length ≤ cap →
      Calls P fid #[.slice (some ⟨blk, off, none⟩) zs.length cap] w fun e w' => e = .returned (.slice (some ⟨blk, off, none⟩) (Lib.compact zs).length cap) ∧ ∃ q, w' = putRow encStr (Sort.ahead w q) blk off (Lib.compact zs ++ List.replicate (zs.length - (Lib.compact zs).length) []).toArray)
    (h0 : ∀ (a : Option Addr) (cap : Nat) (w : World), Calls P fid #[.slice a 0 cap] w fun e w' => e = .returned (.slice a 0 cap) ∧ w' = w)
    (hle : ∀ zs : List (List UInt8), (Lib.compact zs).length ≤ zs.length)
    {l : List Str} {b : Nat} {ty : TypeId} (hl : l.length < 4611686018427387904) : TCX P fid [OL b l] [(b, RL ty l)] (fun rv h' => ∃ c, rv = OL c (compactS l) ∧ h' = [(c, RL ty (compactS l))]) := by
  refine ⟨hE, fun μ w cargs s hsz hv => ?_⟩
  have hsz : cargs.size = 1 := hsz
  have v0 : VR μ w (OL b l) (cargs.getD 0 undef) := hv 0 (by simp)
  have hc : cargs = #[cargs.getD 0 undef] := by
    apply Array.ext (by simpa using hsz)
    intro i h1 h2
    have : i = 0 := by omega
    subst this
    simp [Array.getD, h1]
  have fin : ∀ (c : Nat) (ys : List Str), (∃ d, OL c ys = OL d ys ∧ [(c, RL ty ys)] = [(d, RL ty ys)]) ∧ Nd [(c, RL ty ys)] ∧ inH [(c, RL ty ys)] (OL c ys) ∧ clH [(c, RL ty ys)] := fun c ys =>
    ⟨⟨c, rfl, rfl⟩, by simp [Nd], (by show Hp.get [(c, RL ty ys)] c ≠ none; simp [Hp.get]), clH_of ⟨rowIn_RL, trivial⟩⟩
  have v0' := v0
  rw [hc]
  rcases str_block s v0 with ⟨rfl, x, hx⟩ | ⟨B, cs, cap, hB, hL, hx, hcap, hh, hE', hm, ht⟩
  · rw [hx] at v0' ⊢
    refine (h0 x 0 w).mono ?_
    rintro e w' ⟨rfl, rfl⟩
    exact ⟨_, OL b (compactS []), μ, [(b, RL ty (compactS []))], rfl, fin b _, v0', s, Step.refl _ _⟩
  · rw [hx]
    have hlen : (l.map (·.l)).length = l.length := by simp
    have := hC B.g 0 cap (l.map (·.l)) w (Go.holds_of_block hh ht) (by omega) (by omega)
    rw [hlen] at this
    refine this.mono ?_
    rintro e w' ⟨rfl, q, hw⟩
    have hk := hle (l.map (·.l))
    rw [hlen] at hk
    have hcl : (compactS l).length = (Lib.compact (l.map (·.l))).length := by simp [compactS]
    let ys : List Str := compactS l ++ List.replicate (l.length - (Lib.compact (l.map (·.l))).length) (Str.mk [])
    have hy : ys.map (·.l) = Lib.compact (l.map (·.l)) ++ List.replicate (l.length - (Lib.compact (l.map (·.l))).length) [] := by simp [ys, compactS, Function.comp_def]
    obtain ⟨μ', q1, q2, q3⟩ := str_turn (w' := w') (ys := ys) s hB hL hh hE' hm (by simp [ys, hcl]; omega) (n := q) (os := #[]) (by rw [hy, Go.Sort.grow_empty]; exact hw)
    have hsz1 : Enc.sz Str = 1 := rfl
    obtain ⟨μ2, c1, c2, c3, c4, c5, c6⟩ := q1.cut (b := b) (m := (compactS l).length * Enc.sz Str) (r := RL ty ys) (by simp [Hp.get]) (by show _ ≤ ys.length * Enc.sz Str; simp [ys, hsz1]) (rowL (Enc.sz Str) ec (compactS l)) (fun i hi => by
      rw [hsz1, Nat.mul_one] at hi
      show rowL (Enc.sz Str) ec (compactS l) i = rowL (Enc.sz Str) ec ys i
      have e1 := catC_lt (sz := 1) (l := (compactS l).map ec) (i := i) (d := 0) (by omega)
      have e2 := catC_lt (sz := 1) (l := ys.map ec) (i := i) (d := 0) (by omega)
      rw [Nat.mul_one, Nat.add_zero] at e1 e2
      unfold rowL
      rw [hsz1, e1, e2]
      simp [ys, hi, List.getElem?_append_left])
    have hdel : Hp.del [(b, RL ty ys)] b = [] := by simp [Hp.del]
    rw [hdel] at c1
    refine ⟨_, OL μ'.nx (compactS l), μ2, [(μ'.nx, RL ty (compactS l))], rfl, fin _ _, ?_, c1, q2.trans c2⟩
    rcases c5 with ⟨_, _, hno, _⟩ | ⟨B', hB', hnv, hL', hnv', hf'⟩
    · rcases q1.row b (RL ty ys) (by simp [Hp.get]) with ⟨hvv, hn, _⟩ | _
      · rw [q3] at hn; cases hn
      · rename_i hh2 _
        rename_i hvir _ _
        exfalso
        rcases q1.row b (RL ty ys) (by simp [Hp.get]) with ⟨_, hn, _⟩ | ⟨_, _, hnv, _⟩
        · rw [q3] at hn; cases hn
        · exact hnv hvir
    · rw [q3] at hB'
      injection hB' with hB'
      subst hB'
      refine ⟨by rw [c3]; omega, by rw [Nat.zero_add]; exact Nat.le_refl _, fun hh => (hnv' hh).elim, fun D e => ?_⟩
      rw [hf'] at e
      injection e with e
      subst e
      refine ⟨Nat.le_refl _, fun _ => ⟨cap, by rw [hcl], by rw [hsz1, hcap]; show 0 + B.E * 1 = B.E; omega⟩⟩
end Go.AX
