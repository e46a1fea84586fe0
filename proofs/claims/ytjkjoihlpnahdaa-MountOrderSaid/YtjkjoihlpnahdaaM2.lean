import Derived.Test.YtjkjoihlpnahdaaM1
/- What DeleteFunc leaves, for every row; and Serve. -/
namespace Go.Proofs.Ytjkjoihlpnahdaa
open Go.AM

theorem idxF_none {p : Int → Bool} : ∀ {xs : List Int} {i : Nat}, idxF p xs i = -1 → xs.filter (fun x => !p x) = xs
  | [], _, _ => rfl
  | x :: xs, i, h => by
    simp only [idxF] at h
    by_cases hp : p x = true
    · rw [if_pos hp] at h; omega
    · rw [if_neg hp] at h
      simp [hp, idxF_none h]

theorem idxF_some {p : Int → Bool} : ∀ {xs : List Int} {i : Nat}, idxF p xs i ≠ -1 → ∃ k : Nat, idxF p xs i = (i + k : Nat) ∧ k < xs.length ∧ (xs.take (k + 1)).filter (fun x => !p x) = xs.take k
  | [], _, h => (h rfl).elim
  | x :: xs, i, h => by
    simp only [idxF] at h ⊢
    by_cases hp : p x = true
    · rw [if_pos hp]
      exact ⟨0, by simp, by simp, by simp [hp]⟩
    · rw [if_neg hp] at h ⊢
      obtain ⟨k, h1, h2, h3⟩ := idxF_some h
      refine ⟨k + 1, by rw [h1]; congr 1; omega, by simp; omega, ?_⟩
      simp [hp, h3]

theorem deleteFunc_ok {h : Hp} {b : Nat} (xs : List Int) (p : Int → Bool) (f m : Nat) (cs : Nat → AV) (hl : xs.length ≤ 1000000) (hr : h.get b = some ⟨3, xs.length, rowL 1 (encI .i64) xs⟩) (hcs : ∀ i, i < m → (cs i).val)
    (hf : ∀ x, Fun Try.prog f ([.int .i64 x] ++ (List.range m).map cs) (· = .bool (p x))) :
    TC Try.prog 36 [.rs b 0 xs.length xs.length 1, .fn f m cs] h (fun r h' => ∃ b' ys, ys = xs.filter (fun x => !p x) ∧ r = .rs b' 0 ys.length ys.length 1 ∧ h'.get b' = some ⟨3, ys.length, rowL 1 (encI .i64) ys⟩ ∧
      (∀ x, x ≠ b → x ≠ b' → h'.get x = h.get x) ∧ (b' = b ∨ h.get b' = none)) := by
  refine TC.of b36 (by simp) ?_
  unfold k36
  refine TK.run (C := cx) fun K hK => ?_
  simp
  refine hK _ _ ?_
  clear hK K
  refine TK.run (C := cx) fun K hK => ?_
  simp
  refine TL.look rfl rfl (by simp) rfl (by simp) (by simp [hr]; exact hcs) (fun _ => ?_) (by simp) (RQ.ok (C := cx) _ _ ?_) (r := .int .i64 (idxF p xs 0))
  · simp [hr]
    exact indexFunc_ok xs p f m cs hl hcs hf
  simp
  refine hK _ _ ?_
  clear hK K
  refine TK.seq_k fun K hK => ?_
  refine TK.run (C := cx) fun K1 hK1 => ?_
  simp
  refine hK1 _ _ ?_
  clear hK1 K1
  refine TK.cond rfl (fun hb => ?_) (fun hb => TK.skip ?_)
  · have hb' : idxF p xs 0 = -1 := by simpa using hb
    refine TK.run (C := cx) fun K1 hK1 => ?_
    simp
    refine hK1 _ _ ?_
    clear hK1 K1
    refine TK.ret ?_
    refine ⟨by simp, b, xs, (idxF_none hb').symm, by simp, hr, fun x _ _ => rfl, .inl rfl⟩
  · have hb' : idxF p xs 0 ≠ -1 := by simpa using hb
    obtain ⟨k, hk1, hk2, hk3⟩ := idxF_some hb'
    rw [Nat.zero_add] at hk1
    rw [hk1]
    refine hK _ _ ?_
    clear hK K hb hb' hk1
    refine TK.seq_k fun K hK => ?_
    refine TK.run (C := cx) fun K1 hK1 => ?_
    simp
    rw [w64 (by omega) (by omega)]
    refine hK1 _ _ ?_
    clear hK1 K1
    refine TK.block ?_
    refine TK.loopE [0, 1, 5, 6] (σ := Nat × Nat × List Int) (fun s env h' => env = [(0, true, .rs b 0 xs.length xs.length 1), (1, true, .fn f m cs), (5, true, .int .i64 s.1), (6, true, .int .i64 s.2.1)] ∧
      h'.get b = some ⟨3, xs.length, rowL 1 (encI .i64) s.2.2⟩ ∧ (∀ x, x ≠ b → h'.get x = h.get x) ∧ s.1 < s.2.1 ∧ s.2.1 ≤ xs.length ∧ s.2.2.length = xs.length ∧ s.2.2.take s.1 = (xs.take s.2.1).filter (fun x => !p x) ∧
      s.2.2.drop s.2.1 = xs.drop s.2.1) (fun s => xs.length - s.2.1) (k, k + 1, xs) ?_ ?_
    · simp [hr]
      exact ⟨by omega, hk3.symm⟩
    · rintro ⟨i, j, zs⟩ env h' ⟨rfl, hg, hfr, hij, hj, hzl, hz1, hz2⟩
      simp only at hg hij hj hzl hz1 hz2
      refine TK.seq_k fun K1 hK1 => ?_
      refine TK.run (C := cx) fun K2 hK2 => ?_
      simp [hg]
      refine hK2 _ _ ?_
      clear hK2 K2
      refine TK.cond rfl (fun hb => TK.skip ?_) (fun hb => TK.exit ?_)
      · have hlt : j < xs.length := by simpa using hb
        have hlz : j < zs.length := by omega
        refine hK1 _ _ ?_
        clear hK1 K1
        refine TK.seq_k fun K1 hK1 => TK.block ?_
        have g0 : rowL 1 (encI .i64) zs j = .int .i64 (zs.getD j 0) := rowI hlz
        have hv : zs.getD j 0 = xs.getD j 0 := by
          have := congrArg (fun l => l.getD 0 0) hz2
          simpa [hlt, hlz] using this
        rw [hv] at g0
        have hxx : xs.getD j 0 = xs[j] := by simp [hlt]
        rw [hxx] at g0
        have hsplit : xs.take (j + 1) = xs.take j ++ [xs[j]] := by
          rw [List.take_add_one]
          simp [hlt]
        have hfx := hf xs[j]
        generalize xs[j] = xj at hfx hsplit g0
        refine TK.run (C := cx) fun K2 hK2 => ?_
        simp [hg, g0, hlt]
        repeat (refine ⟨by omega, ?_⟩)
        refine hK2 _ _ ?_
        clear hK2 K2
        refine TK.run (C := cx) fun K2 hK2 => ?_
        simp
        refine TL.callv rfl rfl (by simp) rfl (by simp) (fun _ => hfx) (RQ.ok (C := cx) _ _ ?_)
        simp
        refine hK2 _ _ ?_
        clear hK2 K2
        refine TK.cond rfl (fun hc => ?_) (fun hc => TK.skip ?_)
        · have hc' : p xj = false := by simpa using hc
          refine TK.run (C := cx) fun K2 hK2 => ?_
          simp [hg]
          repeat (refine ⟨by omega, ?_⟩)
          refine TL.st (i := ti3) (r := ⟨3, xs.length, rowL 1 (encI .i64) zs⟩) rfl rfl rfl ty3 rfl hg rfl rfl trivial rfl (by simp; omega) (by simp) (RQ.ok (C := cx) _ _ ?_)
          have hput : putC (rowL 1 (encI .i64) zs) i 1 (fun _ => .int .i64 xj) = rowL 1 (encI .i64) (zs.set i xj) := putC_one (by omega) rfl
          simp [hput]
          refine hK2 _ _ ?_
          clear hK2 K2
          refine TK.run1 (C := cx) fun K2 hK2 => ?_
          simp
          rw [w64 (by omega) (by omega)]
          refine hK2 _ _ ?_
          clear hK2 K2
          simp
          refine hK1 _ _ ?_
          clear hK1 K1
          refine TK.run1 (C := cx) fun K2 hK2 => ?_
          simp
          rw [w64 (by omega) (by omega)]
          refine hK2 _ _ ?_
          clear hK2 K2
          refine ⟨(i + 1, j + 1, zs.set i xj), ?_, by simp; omega⟩
          simp [Hp.get_upd, hg]
          refine ⟨?_, by omega, by omega, hzl, ?_, ?_⟩
          · intro x hx
            rw [if_neg hx]
            exact hfr x hx
          · rw [hsplit, List.filter_append, ← hz1]
            simp [hc']
            have hiz : i < zs.length := by omega
            rw [List.take_add_one, List.take_set_of_le (Nat.le_refl _)]
            simp [hiz]
          · rw [List.drop_set_of_lt (by omega)]
            have := congrArg (List.drop 1) hz2
            simpa using this
        · have hc' : p xj = true := by simpa using hc
          simp
          refine hK1 _ _ ?_
          clear hK1 K1
          refine TK.run1 (C := cx) fun K2 hK2 => ?_
          simp
          rw [w64 (by omega) (by omega)]
          refine hK2 _ _ ?_
          clear hK2 K2
          refine ⟨(i, j + 1, zs), ?_, by simp; omega⟩
          simp [hg]
          refine ⟨hfr, by omega, by omega, hzl, ?_, ?_⟩
          · rw [hsplit, List.filter_append, ← hz1]
            simp [hc']
          · have := congrArg (List.drop 1) hz2
            simpa using this
      · have hj' : j = xs.length := by have : ¬ j < xs.length := by simpa using hb
                                       omega
        subst hj'
        simp
        refine hK _ _ ?_
        clear hK1 K1 hK K
        have hys : zs.take i = xs.filter (fun x => !p x) := by simpa using hz1
        have hyl : (xs.filter (fun x => !p x)).length = i := by rw [← hys]; simp; omega
        refine TK.run (C := cx) fun K hK => ?_
        simp [hg]
        repeat (refine ⟨by omega, ?_⟩)
        refine TL.clear (ei := ti3) (r := ⟨3, xs.length, rowL 1 (encI .i64) zs⟩) rfl rfl rfl kd22 ty3 rfl hg rfl rfl (by simp) (RQ.ok (C := cx) _ _ ?_)
        simp
        refine hK _ _ ?_
        clear hK K
        refine TK.run (C := cx) fun K hK => ?_
        simp [Hp.get_upd, hg]
        repeat (refine ⟨by omega, ?_⟩)
        refine hK _ _ ?_
        clear hK K
        refine TK.keep [4] ?_
        simp
        refine TK.cut 4 (b := b) (len := i) (sz := 1) (st := xs.length) (r := ⟨3, xs.length, putC (rowL 1 (encI .i64) zs) i (xs.length - i) (rep ti3 (xs.length - i))⟩) rfl (by simp [Hp.get_upd, hg]) rfl (by simp; omega) (rowL 1 (encI .i64) (xs.filter (fun x => !p x))) ?_ fun b' hb' => ?_
        · intro q hq
          simp at hq
          simp only [putC]
          rw [if_neg (by omega), ← hys]
          rw [rowL_split (by omega), rowL_split (by omega)]
          simp [hq]
        refine TK.ret ?_
        have hne : ¬ b' = b := by
          rintro rfl
          simp [Hp.get_upd, hg] at hb'
        have hne' : ¬ b = b' := fun e => hne e.symm
        refine ⟨by simp, b', by simp [hyl], by simp [hyl], fun x hx1 hx2 => ?_, .inr ?_⟩
        · have hx2' : ¬ b' = x := fun e => hx2 e.symm
          simp [Hp.get_del, Hp.get_upd, hx1, hx2', hfr x hx1]
        · rw [← hfr b' hne]
          simpa [Hp.get_upd, hne] using hb'

theorem serve_ok {h : Hp} {b b2 : Nat} {xs : List Int} (L : LineAt h b b2 xs) (v : Int) (hl : xs.length ≤ 1000000) :
    TC Try.prog 17 [.ref b 0 1, .int .i64 v] h (fun r h' => r = .int .i64 (xs.length - (xs.filter (fun x => !(x == v))).length) ∧ ∃ b2', LineAt h' b b2' (xs.filter (fun x => !(x == v))) ∧
      (∀ x r, x ≠ b → x ≠ b2 → h.get x = some r → h'.get x = some r) ∧ (b2' = b2 ∨ h.get b2' = none)) := by
  refine TC.of b17 (by simp) ?_
  unfold k17
  have h1 := L.box
  have h2 := L.row
  have hne := L.ne
  have hne' : ¬ b = b2 := fun e => hne e.symm
  refine TK.run (C := cx) fun K hK => ?_
  simp
  refine TL.box rfl rfl (by simp) rfl rfl trivial fun b3 hb3 => RQ.ok (C := cx) _ _ ?_
  simp
  refine hK _ _ ?_
  clear hK K
  have n31 : ¬ b3 = b := by rintro rfl; rw [h1] at hb3; cases hb3
  have n32 : ¬ b3 = b2 := by rintro rfl; rw [h2] at hb3; cases hb3
  have n13 : ¬ b = b3 := fun e => n31 e.symm
  refine TK.fix0 b3 (r := ⟨3, 1, encI .i64 v⟩) (by simp; rfl) ?_
  simp [n13]
  have hd : ∀ x, (h.del b3).get x = h.get x := by
    intro x
    rw [Hp.get_del]
    by_cases hx : x = b3
    · subst hx; rw [if_pos rfl, hb3]
    · rw [if_neg hx]
  generalize h.del b3 = g at hd
  have hg1 : g.get b = some ⟨37, 1, ofL [.rs b2 0 xs.length xs.length 1]⟩ := by rw [hd, h1]
  have hg2 : g.get b2 = some ⟨3, xs.length, rowL 1 (encI .i64) xs⟩ := by rw [hd, h2]
  have Lg : LineAt g b b2 xs := ⟨hne, hg1, hg2⟩
  refine TK.run (C := cx) fun K hK => ?_
  simp
  refine TL.tc rfl rfl (by simp) rfl (by simp) (len_ok Lg) fun r h' hr => RQ.ok (C := cx) _ _ ?_
  obtain ⟨rfl, hh⟩ := hr
  rw [hh]
  clear hh h'
  simp
  refine hK _ _ ?_
  clear hK K
  refine TK.seq_k fun K hK => ?_
  refine TK.run (C := cx) fun K1 hK1 => ?_
  simp
  refine hK1 _ _ ?_
  clear hK1 K1
  have fin : ∀ env g' b2', LineAt g' b b2' (xs.filter (fun x => !(x == v))) → (∀ x r, x ≠ b → x ≠ b2 → g.get x = some r → g'.get x = some r) → (b2' = b2 ∨ g.get b2' = none) →
      keepE [0, 5] env = [(0, true, .ref b 0 1), (5, true, .int .i64 xs.length)] → K env g' := by
    intro env g' b2' L' hfr hfresh henv
    refine hK _ _ ?_
    refine TK.keep [0, 5] ?_
    rw [henv]
    refine TK.run (C := cx) fun K1 hK1 => ?_
    simp
    refine TL.tc rfl rfl (by simp) rfl (by simp) (len_ok L') fun r h' hr => RQ.ok (C := cx) _ _ ?_
    obtain ⟨rfl, rfl⟩ := hr
    simp
    have hle : (xs.filter (fun x => !(x == v))).length ≤ xs.length := List.length_filter_le _ _
    rw [w64 (by omega) (by omega)]
    refine hK1 _ _ ?_
    clear hK1 K1
    refine TK.ret ?_
    refine ⟨by simp, by simp, b2', L', fun x r hx1 hx2 hx => hfr x r hx1 hx2 (by rw [hd]; exact hx), ?_⟩
    rcases hfresh with hf | hf
    · exact .inl hf
    · exact .inr (by rw [← hd]; exact hf)
  refine TK.cond rfl (fun hb => ?_) (fun hb => TK.skip ?_)
  · refine TK.run1 (C := cx) fun K1 hK1 => ?_
    simp [hg1, hg2]
    refine TL.tc rfl rfl (by simp) rfl (by simp) (deleteFunc_ok xs (· == v) 37 1 _ hl hg2 (by simp [encI]) (fun x => isLabel_ok x v)) fun r h' hr => RQ.ok (C := cx) _ _ ?_
    obtain ⟨b2', ys, rfl, rfl, hy1, hy2, hy3⟩ := hr
    have hb2 : ¬ b2' = b := by
      rintro rfl
      rcases hy3 with hy3 | hy3
      · exact hne hy3.symm
      · rw [hg1] at hy3; cases hy3
    have hb2' : ¬ b = b2' := fun e => hb2 e.symm
    have hgb : h'.get b = some ⟨37, 1, ofL [.rs b2 0 xs.length xs.length 1]⟩ := by rw [hy2 b (fun e => hne e.symm) hb2', hg1]
    simp [hgb]
    refine TL.st (i := ti22) (r := ⟨37, 1, ofL [.rs b2 0 xs.length xs.length 1]⟩) rfl rfl rfl ty22 rfl hgb rfl rfl (by simp [hy1]) rfl (by simp) (by simp [hy1]) (RQ.ok (C := cx) _ _ ?_)
    simp [putC_ofL]
    refine hK1 _ _ ?_
    clear hK1 K1
    refine fin _ _ b2' ⟨hb2, by simp [Hp.get_upd, hgb], by simp [Hp.get_upd, hb2, hy1]⟩ (fun x r hx1 hx2 hx => ?_) hy3 (by simp)
    have hx3 : x ≠ b2' := by
      rintro rfl
      rcases hy3 with hy3 | hy3
      · exact hx2 hy3
      · rw [hx] at hy3; cases hy3
    simp [Hp.get_upd, hx1, hy2 x hx2 hx3, hx]
  · have : xs = [] := by
      cases xs with
      | nil => rfl
      | cons x xs => simp at hb
    subst this
    exact fin _ _ b2 Lg (fun x r _ _ hx => hx) (.inl rfl) (by simp)
end Go.Proofs.Ytjkjoihlpnahdaa
