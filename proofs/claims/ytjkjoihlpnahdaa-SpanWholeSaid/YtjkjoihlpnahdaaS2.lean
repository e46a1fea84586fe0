import Derived.Test.YtjkjoihlpnahdaaS1
/- What the law's small functions compute, for every argument. -/
namespace Go.Proofs.Ytjkjoihlpnahdaa
open Go.AM

theorem num_ok (a : Int) : Fun Try.prog 13 [.int .i64 a] (· = .int .i64 a) := by
  refine Fun.of b13 (by simp) (by simp) ?_
  unfold k13
  refine TK.run (C := cx) fun K hK => ?_
  simp
  refine hK _ _ ?_
  clear hK K
  refine TK.run (C := cx) fun K hK => ?_
  simp
  refine hK _ _ ?_
  clear hK K
  refine TK.ret ?_
  simp

theorem fitsRef_ok (a : Int) : Fun Try.prog 11 [.int .i64 a] (· = .int .i64 (fitsS a)) := by
  refine Fun.of b11 (by simp) (by simp) ?_
  unfold k11
  refine TK.run (C := cx) fun K hK => ?_
  simp
  refine hK _ _ ?_
  clear hK K
  refine TK.seq_k fun K hK => TK.block ?_
  refine TK.run (C := cx) fun K1 hK1 => ?_
  simp
  refine hK1 _ _ ?_
  clear hK1 K1
  refine TK.cond rfl (fun hb => ?_) (fun hb => ?_)
  · refine TK.run (C := cx) fun K1 hK1 => ?_
    simp
    refine hK1 _ _ ?_
    clear hK1 K1
    refine TK.ret ?_
    have : a < 3 := by simpa using hb
    simp [fitsS]
    omega
  · refine TK.run (C := cx) fun K1 hK1 => ?_
    simp
    refine hK1 _ _ ?_
    clear hK1 K1
    refine TK.cond rfl (fun hc => ?_) (fun hc => ?_)
    · refine TK.run (C := cx) fun K1 hK1 => ?_
      simp
      refine hK1 _ _ ?_
      clear hK1 K1
      refine TK.ret ?_
      have : 1099511627776 < a := by simpa using hc
      simp [fitsS]
      omega
    · refine TK.skip ?_
      have : ¬ 1099511627776 < a := by simpa using hc
      have : ¬ a < 3 := by simpa using hb
      simp
      refine hK _ _ ?_
      clear hK K
      refine TK.run (C := cx) fun K hK => ?_
      simp
      rw [w64 (x := a - 2) (by omega) (by omega), w64 (by omega) (by omega)]
      refine hK _ _ ?_
      clear hK K
      refine TK.ret ?_
      simp [fitsS]
      omega

def and63 (a : Int) : Int := bitsI .and .i64 a 63

theorem small_ok (l : List Int) (hl : l.length ≤ 1000000) : Fun Try.prog 12 [VS 1 (encI .i64) l] (· = VS 1 (encI .i64) (l.map and63)) := by
  refine Fun.of b12 (by simp) (by simp) ?_
  unfold k12
  refine TK.run (C := cx) fun K hK => ?_
  simp
  refine hK _ _ ?_
  clear hK K
  refine TK.run (C := cx) fun K hK => ?_
  simp
  refine hK _ _ ?_
  clear hK K
  refine TK.own 3 3 1 (rowL 1 (encI .i64) []) rfl (.inl rfl) fun b _ => ?_
  refine TK.seq_k fun K hK => ?_
  refine TK.run (C := cx) fun K1 hK1 => ?_
  simp
  refine hK1 _ _ ?_
  clear hK1 K1
  refine TK.block ?_
  refine TK.loopE [0, 3, 4] (σ := Nat) (fun i env h => env = [(0, true, VS 1 (encI .i64) l), (3, true, .rs b 0 i i 1), (4, true, .int .i64 i)] ∧
    h = [(b, ⟨3, i, rowL 1 (encI .i64) ((l.map and63).take i)⟩)] ∧ i ≤ l.length) (fun i => l.length - i) 0 ?_ ?_
  · simp
  · rintro i env h ⟨rfl, rfl, hi⟩
    refine TK.seq_k fun K1 hK1 => ?_
    refine TK.run (C := cx) fun K2 hK2 => ?_
    simp
    refine hK2 _ _ ?_
    clear hK2 K2
    refine TK.cond rfl (fun hb => TK.skip ?_) (fun hb => TK.exit ?_)
    · have hlt : i < l.length := by simpa using hb
      refine hK1 _ _ ?_
      clear hK1 K1
      refine TK.seq_k fun K1 hK1 => TK.block ?_
      refine TK.run1 (C := cx) fun K2 hK2 => ?_
      simp [rowI, hlt]
      repeat (refine ⟨by omega, ?_⟩)
      refine TL.appL (sz := 1) (enc := encI .i64) ((l.map and63).take i) [and63 l[i]] rfl rfl (by simp) kd22 (by simp) ty3 rfl rfl (by simp) rfl (by simp; omega) (by simp; omega) rfl rfl (Nat.le_refl _) rfl (fun _ _ => rfl) (by omega) (by simp) (by simp; omega) (fun _ _ _ => trivial) (RQ.ok (C := cx) _ _ ?_)
      simp
      refine hK2 _ _ ?_
      clear hK2 K2
      simp
      refine hK1 _ _ ?_
      clear hK1 K1
      refine TK.run1 (C := cx) fun K1 hK1 => ?_
      simp
      rw [w64 (by omega) (by omega)]
      refine hK1 _ _ ?_
      clear hK1 K1
      refine ⟨i + 1, ?_, by omega⟩
      have e1 : min i l.length = i := by omega
      have e2 : (l.map and63).take i ++ [and63 l[i]] = (l.map and63).take (i + 1) := by
        rw [List.take_add_one]
        simp [hlt]
      simp [e1, e2]
      omega
    · have hi' : i = l.length := by have : ¬ i < l.length := by simpa using hb
                                    omega
      subst hi'
      simp
      refine hK _ _ ?_
      clear hK1 K1 hK K
      refine TK.run (C := cx) fun K hK => ?_
      simp
      refine hK _ _ ?_
      clear hK K
      refine TK.keep [2] ?_
      simp
      refine TK.fix b (by simp; rfl) (fun i _ => rowL_nob encI_ok i) (by simp) (by simp) ?_
      refine TK.ret ?_
      have e : (l.map and63).take l.length = l.map and63 := List.take_of_length_le (by simp)
      rw [e]
      simp

theorem alive_ok : Fun Try.prog 9 [] (· = .bool true) := by
  refine Fun.of b9 (by simp) (by simp) ?_
  unfold k9
  refine TK.run (C := cx) fun K hK => ?_
  simp
  refine hK _ _ ?_
  clear hK K
  have hp : planS [3] 5 = ([(0, 0, 5)], 0) := by decide
  refine TK.run (C := cx) fun K hK => ?_
  simp
  refine TL.callv rfl rfl (by simp) rfl (by simp) (fun _ => plan_ok [3] 5 (by simp)) (RQ.ok (C := cx) _ _ ?_)
  simp [hp]
  refine hK _ _ ?_
  clear hK K
  refine TK.run (C := cx) fun K hK => ?_
  simp
  refine TL.callv rfl rfl (by simp) rfl (by simp) (fun _ => fits_ok 3) (RQ.ok (C := cx) _ _ ?_)
  simp
  refine TL.callv rfl rfl (by simp) rfl (by simp) (fun _ => num_ok 0) (RQ.ok (C := cx) _ _ ?_)
  simp [cutM_rowL0 encP_tight, encP0, encP1, encP2]
  refine hK _ _ ?_
  clear hK K
  refine TK.ret ?_
  simp
  decide
end Go.Proofs.Ytjkjoihlpnahdaa
