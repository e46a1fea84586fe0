import Derived.Test.YtjkjoihlpnahdaaS2
import Derived.Test.YtjkjoihlpnahdaaS3
/- The law's function returns true for every row of rooms and every size. -/
namespace Go.Proofs.Ytjkjoihlpnahdaa
open Go.AM

theorem mixed : Try.prog.follows .mixedOrders = true := by kernel_rfl
theorem and63_def (a : Int) : bitsI .and .i64 a 63 = and63 a := rfl

set_option maxRecDepth 100000 in
theorem law_ok (rooms : List Int) (size : Int) : Fun Try.prog 3 [VS 1 (encI .i64) rooms, .int .i64 size] (· = .bool true) := by
  refine Fun.of b3 (by simp) (by simp) ?_
  unfold k3
  refine TK.run (C := cx) fun K hK => ?_
  simp
  refine hK _ _ ?_
  clear hK K
  refine TK.run (C := cx) fun K hK => ?_
  simp
  refine TL.callv rfl rfl (by simp) rfl (by simp) (fun _ => alive_ok) (RQ.ok (C := cx) _ _ ?_)
  simp
  refine hK _ _ ?_
  clear hK K
  refine TK.seq_k fun K hK => ?_
  refine TK.run (C := cx) fun K1 hK1 => ?_
  simp
  refine hK1 _ _ ?_
  clear hK1 K1
  refine TK.cond rfl (fun hb => ?_) (fun hb => TK.skip ?_)
  · refine TK.run (C := cx) fun K1 hK1 => ?_
    simp
    refine hK1 _ _ ?_
    clear hK1 K1
    refine TK.ret ?_
    simp
  have hb' : rooms.length ≤ 60 ∧ 1 ≤ size ∧ size ≤ 4000 := by simp at hb; omega
  obtain ⟨hlen, hs1, hs2⟩ := hb'
  clear hb
  refine hK _ _ ?_
  clear hK K
  refine TK.run (C := cx) fun K hK => ?_
  simp
  refine TL.callv rfl rfl (by simp) rfl (by simp) (fun _ => plan_ok rooms size (by omega)) (RQ.ok (C := cx) _ _ ?_)
  simp
  refine hK _ _ ?_
  clear hK K
  refine TK.run (C := cx) fun K hK => ?_
  simp
  refine hK _ _ ?_
  clear hK K
  refine TK.seq_k fun K hK => ?_
  refine TK.run (C := cx) fun K1 hK1 => ?_
  simp
  refine hK1 _ _ ?_
  clear hK1 K1
  refine TK.block ?_
  refine TK.loopE [0, 1, 6, 7, 8, 9] (σ := Nat) (fun i env h => env = [(0, true, VS 1 (encI .i64) rooms), (1, true, .int .i64 size), (6, true, VS 3 encP (planS rooms size).1), (7, true, .int .i64 (planS rooms size).2),
    (8, true, .int .i64 (sumF ((rooms.map and63).take i))), (9, true, .int .i64 i)] ∧ h = [] ∧ i ≤ rooms.length) (fun i => rooms.length - i) 0 ?_ ?_
  · simp [sumF]
  · rintro i env h ⟨rfl, rfl, hi⟩
    refine TK.seq_k fun K1 hK1 => ?_
    refine TK.run (C := cx) fun K2 hK2 => ?_
    simp
    refine hK2 _ _ ?_
    clear hK2 K2
    refine TK.cond rfl (fun hb => TK.skip ?_) (fun hb => TK.exit ?_)
    · have hlt : i < rooms.length := by simpa using hb
      refine hK1 _ _ ?_
      clear hK1 K1
      refine TK.seq_k fun K1 hK1 => TK.block ?_
      refine TK.run1 (C := cx) fun K2 hK2 => ?_
      simp [rowI, hlt, and63_def]
      repeat (refine ⟨by omega, ?_⟩)
      have hF := fitsRef_ok (and63 rooms[i])
      refine TL.callv rfl rfl (by simp) rfl (by simp) (fun _ => hF) (RQ.ok (C := cx) _ _ ?_)
      simp
      refine hK2 _ _ ?_
      clear hK2 K2
      simp
      refine hK1 _ _ ?_
      clear hK1 K1
      refine TK.run1 (C := cx) fun K1 hK1 => ?_
      simp
      rw [w64 (x := (i : Int) + 1) (by omega) (by omega)]
      have e2 : sumF ((rooms.map and63).take (i + 1)) = sumF ((rooms.map and63).take i) + fitsS (and63 rooms[i]) := by
        rw [List.take_add_one, sumF_append]
        simp [hlt, sumF]
      have hbd : 0 ≤ sumF ((rooms.map and63).take i) ∧ sumF ((rooms.map and63).take i) ≤ i * 70368744177536 := by
        have := sumF_bd ((rooms.map and63).take i)
        have : ((rooms.map and63).take i).length ≤ i := by simp; omega
        omega
      have hf := fitsS_lo (and63 rooms[i])
      rw [w64 (x := sumF ((rooms.map and63).take i) + _) (by omega) (by omega)]
      refine hK1 _ _ ?_
      clear hK1 K1
      refine ⟨i + 1, ?_, by omega⟩
      simp [e2]
      omega
    · have hi' : i = rooms.length := by have : ¬ i < rooms.length := by simpa using hb
                                        omega
      subst hi'
      simp
      refine hK _ _ ?_
      clear hK1 K1 hK K
      have e : (rooms.map and63).take rooms.length = rooms.map and63 := List.take_of_length_le (by simp)
      rw [e]
      refine TK.run (C := cx) fun K hK => ?_
      simp
      refine TL.callv rfl rfl (by simp) rfl (by simp) (fun _ => small_ok rooms (by omega)) (RQ.ok (C := cx) _ _ ?_)
      simp
      refine TL.callv rfl rfl (by simp) rfl (by simp) (fun _ => plan_ok (rooms.map and63) size (by simp; omega)) (RQ.ok (C := cx) _ _ ?_)
      simp
      refine hK _ _ ?_
      clear hK K
      refine TK.seq_k fun K hK => ?_
      refine TK.run (C := cx) fun K1 hK1 => ?_
      have hsum := planS_sum (rs := rooms.map and63) hs1 hs2
      generalize planS (rooms.map and63) size = q at hsum
      simp
      refine TL.callv rfl rfl (by simp) rfl (by simp) (fun _ => num_ok q.2) (RQ.ok (C := cx) _ _ ?_)
      have hcond : ((q.2 == 0) == decide (size ≤ sumF (rooms.map and63))) = true := by
        rcases hsum with h1 | h1
        · simp [h1.1, h1.2]
        · have : ¬ size ≤ sumF (rooms.map and63) := by omega
          simp [h1.1, this]
      simp [hcond]
      refine TL.callv rfl rfl (by simp) rfl (by simp) (fun _ => num_ok q.2) (RQ.ok (C := cx) _ _ ?_)
      simp
      refine TL.callv rfl rfl (by simp) rfl (by simp) (fun _ => num_ok q.2) (RQ.ok (C := cx) _ _ ?_)
      simp
      refine ⟨?_, hK1 _ _ ?_⟩
      · intro h1
        exact ⟨h1, fun h2 => ⟨h1, h2⟩⟩
      clear hK1 K1
      refine TK.cond rfl (fun hb => ?_) (fun hb => TK.skip ?_)
      · exfalso
        rcases hsum with h1 | h1
        · simp [h1.1] at hb
        · simp [h1.1, h1.2.1] at hb
      refine hK _ _ ?_
      clear hK K hb
      refine TK.keep [0, 1, 6, 7] ?_
      have hok := planS_ok (rooms := rooms) hs1 hs2
      generalize planS rooms size = p at hok
      simp
      refine TK.seq_k fun K hK => ?_
      refine TK.run (C := cx) fun K1 hK1 => ?_
      simp
      refine TL.callv rfl rfl (by simp) rfl (by simp) (fun _ => num_ok p.2) (RQ.ok (C := cx) _ _ ?_)
      simp
      refine hK1 _ _ ?_
      clear hK1 K1
      refine TK.cond rfl (fun hb => ?_) (fun hb => TK.skip ?_)
      · refine TK.run (C := cx) fun K1 hK1 => ?_
        simp
        refine hK1 _ _ ?_
        clear hK1 K1
        refine TK.ret ?_
        have h0 : p.1 = [] := by
          rcases hok with h1 | h1
          · exact h1.2
          · simp [h1.1] at hb
        simp [h0]
      have hok' : PlanOK rooms size p.1 0 0 := by
        rcases hok with h1 | h1
        · simp at hb; exact (h1.1 hb).elim
        · exact h1.2
      refine hK _ _ ?_
      clear hK K hb
      refine TK.run (C := cx) fun K hK => ?_
      simp
      refine hK _ _ ?_
      clear hK K
      refine TK.run (C := cx) fun K hK => ?_
      simp
      refine hK _ _ ?_
      clear hK K
      refine TK.seq_k fun K hK => ?_
      refine TK.run (C := cx) fun K1 hK1 => ?_
      simp
      refine hK1 _ _ ?_
      clear hK1 K1
      refine TK.block ?_
      refine TK.loopE [0, 1, 6, 12, 13, 14] (σ := Nat × Nat × Int) (fun s env h => env = [(0, true, VS 1 (encI .i64) rooms), (1, true, .int .i64 size), (6, true, VS 3 encP p.1), (12, true, .int .i64 s.2.2),
        (13, true, .int .i64 s.2.1), (14, true, .int .i64 s.1)] ∧ h = [] ∧ s.1 ≤ p.1.length ∧ 0 ≤ s.2.2 ∧ PlanOK rooms size (p.1.drop s.1) s.2.1 s.2.2) (fun s => p.1.length - s.1) (0, 0, 0) ?_ ?_
      · simp [hok']
      · rintro ⟨i, next, at'⟩ env h ⟨rfl, rfl, hi, hat0, hP⟩
        simp only at hi hat0 hP
        refine TK.seq_k fun K1 hK1 => ?_
        refine TK.run (C := cx) fun K2 hK2 => ?_
        simp
        refine hK2 _ _ ?_
        clear hK2 K2
        refine TK.cond rfl (fun hb => TK.skip ?_) (fun hb => TK.exit ?_)
        · have hlt : i < p.1.length := by simpa using hb
          refine hK1 _ _ ?_
          clear hK1 K1
          refine TK.seq_k fun K1 hK1 => TK.block ?_
          refine TK.seq_k fun K2 hK2 => ?_
          refine TK.rund (C := cx) mixed (by kernel_rfl) fun K3 hK3 => ?_
          rw [List.drop_eq_getElem_cons hlt] at hP
          obtain ⟨t, e1, hnt, htr, e2, hn1, hn2, hn3, hz, hP'⟩ := hP
          have g0 : rowL 3 encP p.1 (i * 3) = .int .i64 t := by
            rw [rowL_get0 hlt (by omega) (0, 0, 0), encP0, ← e1]
            simp [hlt]
          have g1 : rowL 3 encP p.1 (i * 3 + 1) = .int .i64 at' := by
            rw [rowL_get hlt (by omega) (0, 0, 0), encP1, ← e2]
            simp [hlt]
          have g2 : rowL 3 encP p.1 (i * 3 + 2) = .int .i64 p.1[i].2.2 := by
            rw [rowL_get hlt (by omega) (0, 0, 0), encP2]
            simp [hlt]
          have g3 : rowL 1 (encI .i64) rooms t = .int .i64 (rooms.getD t 0) := rowI htr
          generalize p.1[i].2.2 = n at hn1 hn2 hn3 hP' g2
          have hlast : i < p.1.length - 1 → n = fitsS (rooms.getD t 0) := fun h => hn3 (by
            intro h0
            have := congrArg List.length h0
            simp at this
            omega)
          generalize rooms.getD t 0 = r at g3 hn2 hn3 hlast
          have hF := fits_ok r
          have c1 : ¬ t < next := by omega
          have c2 : ¬ rooms.length ≤ t := by omega
          have c3 : ¬ n < 1 := by omega
          have c4 : ¬ fitsS r < n := by omega
          have c5 : 3 * i + 3 ≤ 3 * p.1.length := by omega
          simp [g0, g1, g2, g3, c1, c2, c3]
          repeat (refine ⟨by omega, ?_⟩)
          refine DL.call rfl rfl ⟨rfl, by simp⟩ rfl (by simp) (fun _ => hF) (RD.ok (C := cx) _ _ ?_)
          have hw : IntKind.i64.wrap ((p.1.length : Int) - 1) = p.1.length - 1 := w64 (by omega) (by have := hok'.len; omega)
          simp [g0, g2, g3, c4, hw]
          repeat (refine ⟨by omega, ?_⟩)
          refine DL.call rfl rfl ⟨rfl, by simp⟩ rfl (by simp) (fun _ => hF) (RD.ok (C := cx) _ _ ?_)
          simp
          refine hK3 _ _ ?_
          clear hK3 K3
          refine TK.cond rfl (fun hb => ?_) (fun hb => TK.skip ?_)
          · exfalso
            simp at hb
            exact hb.2 (hlast (by omega))
          refine hK2 _ _ ?_
          clear hK2 K2 hb
          refine TK.keep [0, 1, 6, 12, 13, 14] ?_
          simp
          refine TK.seq_k fun K2 hK2 => ?_
          refine TK.run (C := cx) fun K3 hK3 => ?_
          simp
          refine hK3 _ _ ?_
          clear hK3 K3
          refine TK.block ?_
          refine TK.loopE [0, 1, 6, 12, 13, 14, 15] (σ := Nat) (fun k env h => env = [(0, true, VS 1 (encI .i64) rooms), (1, true, .int .i64 size), (6, true, VS 3 encP p.1), (12, true, .int .i64 at'),
            (13, true, .int .i64 next), (14, true, .int .i64 i), (15, true, .int .i64 k)] ∧ h = [] ∧ next ≤ k ∧ k ≤ t) (fun k => t - k) next ?_ ?_
          · simp; omega
          · rintro k env h ⟨rfl, rfl, hk1, hk2⟩
            refine TK.seq_k fun K3 hK3 => ?_
            refine TK.run (C := cx) fun K4 hK4 => ?_
            simp [g0]
            repeat (refine ⟨by omega, ?_⟩)
            refine hK4 _ _ ?_
            clear hK4 K4
            refine TK.cond rfl (fun hb => TK.skip ?_) (fun hb => TK.exit ?_)
            · have hkt : k < t := by simpa using hb
              refine hK3 _ _ ?_
              clear hK3 K3
              refine TK.seq_k fun K3 hK3 => TK.block ?_
              have g4 : rowL 1 (encI .i64) rooms k = .int .i64 (rooms.getD k 0) := rowI (by omega)
              have hz' := hz k hk1 hkt
              generalize rooms.getD k 0 = rk at g4 hz'
              have hFk := fits_ok rk
              rw [hz'] at hFk
              refine TK.run (C := cx) fun K4 hK4 => ?_
              simp [g4]
              repeat (refine ⟨by omega, ?_⟩)
              refine TL.callv rfl rfl (by simp) rfl (by simp) (fun _ => hFk) (RQ.ok (C := cx) _ _ ?_)
              simp
              refine hK4 _ _ ?_
              clear hK4 K4
              refine TK.cond rfl (fun hc => by simp at hc) (fun hc => TK.skip ?_)
              simp
              refine hK3 _ _ ?_
              clear hK3 K3
              refine TK.run1 (C := cx) fun K4 hK4 => ?_
              simp
              rw [w64 (by omega) (by omega)]
              refine hK4 _ _ ?_
              clear hK4 K4
              refine ⟨k + 1, ?_, by omega⟩
              simp
              omega
            · have hkt : k = t := by have : ¬ k < t := by simpa using hb
                                     omega
              subst hkt
              simp
              refine hK2 _ _ ?_
              clear hK3 K3 hK2 K2 hb
              have hn4 : n ≤ 70368744177536 := by have := fitsS_lo r; omega
              have hat : 0 ≤ at' ∧ at' ≤ size := ⟨hat0, by have := hP'.le; omega⟩
              refine TK.run (C := cx) fun K4 hK4 => ?_
              simp [g2]
              repeat (refine ⟨by omega, ?_⟩)
              rw [w64 (by omega) (by omega)]
              refine hK4 _ _ ?_
              clear hK4 K4
              refine TK.run1 (C := cx) fun K4 hK4 => ?_
              simp [g0]
              repeat (refine ⟨by omega, ?_⟩)
              rw [w64 (by omega) (by omega)]
              refine hK4 _ _ ?_
              clear hK4 K4
              simp
              refine hK1 _ _ ?_
              clear hK1 K1
              refine TK.run1 (C := cx) fun K4 hK4 => ?_
              simp
              rw [w64 (by omega) (by have := hok'.len; omega)]
              refine hK4 _ _ ?_
              clear hK4 K4
              refine ⟨(i + 1, k + 1, at' + n), ?_, by simp; omega⟩
              simp
              exact ⟨by omega, by omega, hP'⟩
        · have hi' : i = p.1.length := by have : ¬ i < p.1.length := by simpa using hb
                                          omega
          subst hi'
          simp
          refine hK _ _ ?_
          clear hK1 K1 hK K
          simp [PlanOK] at hP
          refine TK.run (C := cx) fun K hK => ?_
          simp
          refine hK _ _ ?_
          clear hK K
          refine TK.ret ?_
          simp [hP]
end Go.Proofs.Ytjkjoihlpnahdaa
