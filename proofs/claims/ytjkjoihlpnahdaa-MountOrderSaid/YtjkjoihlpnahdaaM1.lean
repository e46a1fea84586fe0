import Derived.Test.YtjkjoihlpnahdaaAmK0
import Derived.Test.YtjkjoihlpnahdaaAmK1
/- What the calls of a mount line do, for every line. -/
namespace Go.Proofs.Ytjkjoihlpnahdaa
open Go.AM

/-- A line of those that wait lies in rows b, b2. -/
structure LineAt (h : Hp) (b b2 : Nat) (xs : List Int) : Prop where
  ne : b2 ≠ b
  box : h.get b = some ⟨37, 1, ofL [.rs b2 0 xs.length xs.length 1]⟩
  row : h.get b2 = some ⟨3, xs.length, rowL 1 (encI .i64) xs⟩

theorem len_ok {h : Hp} {b b2 : Nat} {xs : List Int} (L : LineAt h b b2 xs) : TC Try.prog 19 [.ref b 0 1] h (fun r h' => r = .int .i64 xs.length ∧ h' = h) := by
  refine TC.of b19 (by simp) ?_
  unfold k19
  have h1 := L.box
  have h2 := L.row
  refine TK.run (C := cx) fun K hK => ?_
  simp
  refine hK _ _ ?_
  clear hK K
  refine TK.seq_k fun K hK => ?_
  refine TK.run (C := cx) fun K1 hK1 => ?_
  simp [h1]
  refine hK1 _ _ ?_
  clear hK1 K1
  refine TK.cond rfl (fun hb => by cases hb) (fun _ => TK.skip ?_)
  refine hK _ _ ?_
  clear hK K
  refine TK.run (C := cx) fun K hK => ?_
  simp [h1, h2]
  refine hK _ _ ?_
  clear hK K
  refine TK.ret ?_
  simp

theorem first_ok {h : Hp} {b b2 : Nat} {xs : List Int} (L : LineAt h b b2 xs) :
    TC Try.prog 18 [.ref b 0 1] h (fun r h' => r = .tup 2 (ofL [.int .i64 (xs.getD 0 0), .bool (decide (0 < xs.length))]) ∧ h' = h) := by
  refine TC.of b18 (by simp) ?_
  unfold k18
  have h1 := L.box
  have h2 := L.row
  refine TK.run (C := cx) fun K hK => ?_
  simp
  refine hK _ _ ?_
  clear hK K
  refine TK.seq_k fun K hK => ?_
  refine TK.run (C := cx) fun K1 hK1 => ?_
  simp
  refine TL.tc rfl rfl (by simp) rfl (by simp) (len_ok L) fun r h' hr => RQ.ok (C := cx) _ _ ?_
  obtain ⟨rfl, rfl⟩ := hr
  simp
  refine hK1 _ _ ?_
  clear hK1 K1
  refine TK.cond rfl (fun hb => ?_) (fun hb => TK.skip ?_)
  · refine TK.run (C := cx) fun K1 hK1 => ?_
    simp
    refine hK1 _ _ ?_
    clear hK1 K1
    refine TK.ret ?_
    have : xs = [] := by simpa using hb
    subst this
    simp
  · refine hK _ _ ?_
    clear hK K
    have hpos : 0 < xs.length := by
      have : xs ≠ [] := by simpa using hb
      exact List.length_pos_iff.2 this
    have g0 : rowL 1 (encI .i64) xs 0 = .int .i64 (xs.getD 0 0) := rowI hpos
    refine TK.run (C := cx) fun K hK => ?_
    simp [h1, h2, g0, hpos]
    refine ⟨by omega, hK _ _ ?_⟩
    clear hK K
    refine TK.ret ?_
    simp [hpos]

theorem add_ok {h : Hp} {b b2 : Nat} {xs : List Int} (L : LineAt h b b2 xs) (v : Int) (hl : xs.length ≤ 1000000) :
    TC Try.prog 16 [.ref b 0 1, .int .i64 v] h (fun _ h' => LineAt h' b b2 (xs ++ [v]) ∧ ∀ x, x ≠ b → x ≠ b2 → h'.get x = h.get x) := by
  refine TC.of b16 (by simp) ?_
  unfold k16
  have h1 := L.box
  have h2 := L.row
  refine TK.run (C := cx) fun K hK => ?_
  simp [h1]
  refine hK _ _ ?_
  clear hK K
  refine TK.cond rfl (fun _ => ?_) (fun hb => by cases hb)
  refine TK.run1 (C := cx) fun K hK => ?_
  simp [h1]
  refine TL.appL (sz := 1) (enc := encI .i64) xs [v] rfl rfl (by simp) kd22 (by simp) ty3 rfl rfl h2 (by simp) rfl (by simp) rfl rfl (Nat.le_refl _) rfl (fun _ _ => rfl) (by omega) (by simp) (by simp; omega) (fun _ _ _ => trivial) (RQ.ok (C := cx) _ _ ?_)
  have hne := L.ne
  have hne' : ¬ b = b2 := fun e => hne e.symm
  simp [Hp.get_upd, h1, hne']
  refine TL.st (i := ti22) (r := ⟨37, 1, ofL [.rs b2 0 xs.length xs.length 1]⟩) rfl rfl rfl ty22 rfl (by simp [Hp.get_upd, h1, hne']) rfl rfl (by simp [Hp.get_upd, h2]) rfl (by simp) (by simp [Hp.get_upd, h2]) (RQ.ok (C := cx) _ _ ?_)
  simp [putC_ofL]
  refine hK _ _ ?_
  clear hK K
  refine ⟨by simp, ⟨hne, by simp [Hp.get_upd, h1, hne'], by simp [Hp.get_upd, h2, hne]⟩, fun x hx1 hx2 => by simp [Hp.get_upd, hx1, hx2]⟩

/-- Which one is the first of a kind. -/
def idxF (p : Int → Bool) : List Int → Nat → Int
  | [], _ => -1
  | x :: xs, i => if p x then i else idxF p xs (i + 1)

theorem index_ok (xs : List Int) (v : Int) (hl : xs.length ≤ 1000000) : Fun Try.prog 43 [VS 1 (encI .i64) xs, .int .i64 v] (· = .int .i64 (idxF (· == v) xs 0)) := by
  refine Fun.of b43 (by simp) (by simp) ?_
  unfold k43
  refine TK.run (C := cx) fun K hK => ?_
  simp
  refine hK _ _ ?_
  clear hK K
  refine TK.seq_k fun K hK => ?_
  refine TK.run (C := cx) fun K1 hK1 => ?_
  simp
  refine hK1 _ _ ?_
  clear hK1 K1
  refine TK.block ?_
  refine TK.loopE [0, 1, 7, 8] (σ := Nat) (fun i env h => env = [(0, true, VS 1 (encI .i64) xs), (1, true, .int .i64 v), (7, true, .int .i64 xs.length), (8, true, .int .i64 i)] ∧ h = [] ∧ i ≤ xs.length ∧
    idxF (· == v) xs 0 = idxF (· == v) (xs.drop i) i) (fun i => xs.length - i) 0 ?_ ?_
  · simp
  · rintro i env h ⟨rfl, rfl, hi, hidx⟩
    refine TK.run (C := cx) fun K1 hK1 => ?_
    simp
    refine hK1 _ _ ?_
    clear hK1 K1
    refine TK.seq_k fun K1 hK1 => ?_
    refine TK.cond rfl (fun hb => TK.skip ?_) (fun hb => TK.exit ?_)
    · have hlt : i < xs.length := by simpa using hb
      rw [List.drop_eq_getElem_cons hlt] at hidx
      simp only [idxF] at hidx
      refine hK1 _ _ ?_
      clear hK1 K1
      refine TK.seq_k fun K1 hK1 => TK.block ?_
      refine TK.run (C := cx) fun K2 hK2 => ?_
      simp
      refine hK2 _ _ ?_
      clear hK2 K2
      refine TK.run (C := cx) fun K2 hK2 => ?_
      simp [rowI, hlt]
      repeat (refine ⟨by omega, ?_⟩)
      refine hK2 _ _ ?_
      clear hK2 K2
      refine TK.cond rfl (fun hc => ?_) (fun hc => TK.skip ?_)
      · have hc' : xs[i] = v := by simpa using Eq.symm (by simpa using hc)
        refine TK.run (C := cx) fun K2 hK2 => ?_
        simp
        refine hK2 _ _ ?_
        clear hK2 K2
        refine TK.ret ?_
        simp [hc'] at hidx
        simp [hidx]
      · have hc' : ¬ xs[i] = v := by
          intro e
          simp [e] at hc
        simp [hc'] at hidx
        simp
        refine hK1 _ _ ?_
        clear hK1 K1
        refine TK.run1 (C := cx) fun K2 hK2 => ?_
        simp
        rw [w64 (by omega) (by omega)]
        refine hK2 _ _ ?_
        clear hK2 K2
        refine ⟨i + 1, ?_, by omega⟩
        simp
        exact ⟨by omega, hidx⟩
    · have hi' : i = xs.length := by have : ¬ i < xs.length := by simpa using hb
                                     omega
      subst hi'
      simp [idxF] at hidx
      simp
      refine hK _ _ ?_
      clear hK1 K1 hK K
      refine TK.run (C := cx) fun K hK => ?_
      simp
      refine hK _ _ ?_
      clear hK K
      refine TK.ret ?_
      simp [hidx]

theorem contains_ok (xs : List Int) (v : Int) (hl : xs.length ≤ 1000000) : Fun Try.prog 38 [VS 1 (encI .i64) xs, .int .i64 v] (· = .bool (decide (0 ≤ idxF (· == v) xs 0))) := by
  refine Fun.of b38 (by simp) (by simp) ?_
  unfold k38
  refine TK.run (C := cx) fun K hK => ?_
  simp
  refine hK _ _ ?_
  clear hK K
  refine TK.run (C := cx) fun K hK => ?_
  simp
  refine TL.callv rfl rfl (by simp) rfl (by simp) (fun _ => index_ok xs v hl) (RQ.ok (C := cx) _ _ ?_)
  simp
  refine hK _ _ ?_
  clear hK K
  refine TK.ret ?_
  simp

theorem wants_ok {h : Hp} {b b2 : Nat} {xs : List Int} (L : LineAt h b b2 xs) (v : Int) (hl : xs.length ≤ 1000000) :
    TC Try.prog 20 [.ref b 0 1, .int .i64 v] h (fun r h' => r = .bool (decide (0 ≤ idxF (· == v) xs 0)) ∧ h' = h) := by
  refine TC.of b20 (by simp) ?_
  unfold k20
  have h1 := L.box
  have h2 := L.row
  refine TK.run (C := cx) fun K hK => ?_
  simp
  refine hK _ _ ?_
  clear hK K
  refine TK.run (C := cx) fun K hK => ?_
  simp [h1]
  refine TL.look rfl rfl (by simp) rfl (by simp) (by simp [h2]) (fun _ => ?_) (by simp) (RQ.ok (C := cx) _ _ ?_) (r := .bool (decide (0 ≤ idxF (· == v) xs 0)))
  · simp [h2]
    exact contains_ok xs v hl
  simp
  refine hK _ _ ?_
  clear hK K
  refine TK.ret ?_
  simp

/-- The closure of Serve: is it this label? -/
theorem isLabel_ok (x v : Int) : Fun Try.prog 37 [.int .i64 x, .vref (encI .i64 v) 1 0] (· = .bool (x == v)) := by
  refine Fun.of b37 (by simp) (by simp [encI]) ?_
  unfold k37
  refine TK.run (C := cx) fun K hK => ?_
  simp
  refine hK _ _ ?_
  clear hK K
  refine TK.run (C := cx) fun K hK => ?_
  simp [encI]
  refine hK _ _ ?_
  clear hK K
  refine TK.ret ?_
  simp

theorem indexFunc_ok (xs : List Int) (p : Int → Bool) (f m : Nat) (cs : Nat → AV) (hl : xs.length ≤ 1000000) (hcs : ∀ i, i < m → (cs i).val) (hf : ∀ x, Fun Try.prog f ([.int .i64 x] ++ (List.range m).map cs) (· = .bool (p x))) :
    Fun Try.prog 44 [VS 1 (encI .i64) xs, .fn f m cs] (· = .int .i64 (idxF p xs 0)) := by
  refine Fun.of b44 (by simp) (by simpa using hcs) ?_
  unfold k44
  refine TK.run (C := cx) fun K hK => ?_
  simp
  refine hK _ _ ?_
  clear hK K
  refine TK.seq_k fun K hK => ?_
  refine TK.run (C := cx) fun K1 hK1 => ?_
  simp
  refine hK1 _ _ ?_
  clear hK1 K1
  refine TK.block ?_
  refine TK.loopE [0, 1, 7, 8] (σ := Nat) (fun i env h => env = [(0, true, VS 1 (encI .i64) xs), (1, true, .fn f m cs), (7, true, .int .i64 xs.length), (8, true, .int .i64 i)] ∧ h = [] ∧ i ≤ xs.length ∧
    idxF p xs 0 = idxF p (xs.drop i) i) (fun i => xs.length - i) 0 ?_ ?_
  · simp
  · rintro i env h ⟨rfl, rfl, hi, hidx⟩
    refine TK.run (C := cx) fun K1 hK1 => ?_
    simp
    refine hK1 _ _ ?_
    clear hK1 K1
    refine TK.seq_k fun K1 hK1 => ?_
    refine TK.cond rfl (fun hb => TK.skip ?_) (fun hb => TK.exit ?_)
    · have hlt : i < xs.length := by simpa using hb
      rw [List.drop_eq_getElem_cons hlt] at hidx
      simp only [idxF] at hidx
      have hfx := hf xs[i]
      refine hK1 _ _ ?_
      clear hK1 K1
      refine TK.seq_k fun K1 hK1 => TK.block ?_
      refine TK.run (C := cx) fun K2 hK2 => ?_
      simp
      refine hK2 _ _ ?_
      clear hK2 K2
      refine TK.run (C := cx) fun K2 hK2 => ?_
      simp [rowI, hlt]
      repeat (refine ⟨by omega, ?_⟩)
      refine TL.callv rfl rfl (by simp) rfl (by simp) (fun _ => hfx) (RQ.ok (C := cx) _ _ ?_)
      simp
      refine hK2 _ _ ?_
      clear hK2 K2
      refine TK.cond rfl (fun hc => ?_) (fun hc => TK.skip ?_)
      · rw [if_pos hc] at hidx
        refine TK.run (C := cx) fun K2 hK2 => ?_
        simp
        refine hK2 _ _ ?_
        clear hK2 K2
        refine TK.ret ?_
        simp [hidx]
      · rw [if_neg (by rw [hc]; simp)] at hidx
        simp
        refine hK1 _ _ ?_
        clear hK1 K1
        refine TK.run1 (C := cx) fun K2 hK2 => ?_
        simp
        rw [w64 (by omega) (by omega)]
        refine hK2 _ _ ?_
        clear hK2 K2
        refine ⟨i + 1, ?_, by omega⟩
        simp
        exact ⟨by omega, hidx⟩
    · have hi' : i = xs.length := by have : ¬ i < xs.length := by simpa using hb
                                     omega
      subst hi'
      simp [idxF] at hidx
      simp
      refine hK _ _ ?_
      clear hK1 K1 hK K
      refine TK.run (C := cx) fun K hK => ?_
      simp
      refine hK _ _ ?_
      clear hK K
      refine TK.ret ?_
      simp [hidx]
end Go.Proofs.Ytjkjoihlpnahdaa
