import Derived.Test.YtjkjoihlpnahdaaAmK0
import Derived.Test.YtjkjoihlpnahdaaAmK1
/- The bytes that a part may have, and what Plan computes: for every row of rooms and every size. -/
namespace Go.Proofs.Ytjkjoihlpnahdaa
open Go.AM

def fitsS (a : Int) : Int := 64 * (max 2 (min a 1099511627776) - 2)

theorem fits_ok (a : Int) : Fun Try.prog 14 [.int .i64 a] (· = .int .i64 (fitsS a)) := by
  refine Fun.of b14 (by simp) (by simp) ?_
  unfold k14
  refine TK.seq_k fun K hK => TK.reg (RQ.ok (C := cx) _ _ ?_)
  simp
  refine hK _ _ ?_
  clear hK K
  refine TK.seq_k fun K hK => TK.reg (RQ.ok (C := cx) _ _ ?_)
  simp
  refine hK _ _ ?_
  clear hK K
  refine TK.ret ?_
  simp
  unfold fitsS
  repeat' split
  all_goals simp (disch := omega) only [w64]
  all_goals omega

abbrev Pc := Int × Int × Int
def encP : Pc → Nat → AV := encR fun p => [.int .i64 p.1, .int .i64 p.2.1, .int .i64 p.2.2]

theorem encP_ok : EncV 3 encP := ⟨by omega, encR_all (fun _ => rfl) (by simp)⟩

theorem encP_tight : Tight 3 encP := encR_tight fun _ => rfl

theorem encP0 (p : Pc) : encP p 0 = .int .i64 p.1 := rfl
theorem encP1 (p : Pc) : encP p 1 = .int .i64 p.2.1 := rfl
theorem encP2 (p : Pc) : encP p 2 = .int .i64 p.2.2 := rfl

def planL (size : Int) : List Int → Int → Int → List Pc → Option (List Pc)
  | [], _, _, _ => none
  | r :: rs, i, at', out =>
    let n := min (fitsS r) (size - at')
    if n = 0 ∧ (size > 0 ∨ r < 2) then planL size rs (i + 1) at' out
    else if at' + n = size then some (out ++ [(i, at', n)])
    else planL size rs (i + 1) (at' + n) (out ++ [(i, at', n)])

def planS (rooms : List Int) (size : Int) : List Pc × Int :=
  if size < 0 ∨ 4000 < size then ([], 1) else match planL size rooms 0 0 [] with
    | some l => (l, 0)
    | none => ([], 7)

theorem fitsS_lo (a : Int) : 0 ≤ fitsS a ∧ fitsS a ≤ 70368744177536 := by unfold fitsS; omega

theorem plan_ok (rooms : List Int) (size : Int) (hr : rooms.length ≤ 1000000) : Fun Try.prog 10 [VS 1 (encI .i64) rooms, .int .i64 size] (· = .tup 2 (ofL [VS 3 encP (planS rooms size).1, .int .i64 (planS rooms size).2])) := by
  refine Fun.of b10 (by simp) (by simp) ?_
  unfold k10
  refine TK.seq_k fun K hK => TK.reg (RQ.ok (C := cx) _ _ ?_)
  simp
  refine hK _ _ ?_
  clear hK K
  refine TK.seq_k fun K hK => ?_
  refine TK.seq_k fun K2 hK2 => TK.reg (RQ.ok (C := cx) _ _ ?_)
  simp
  refine hK2 _ _ ?_
  clear hK2 K2
  refine TK.cond rfl (fun hb => ?_) (fun hb => ?_)
  · have hp : planS rooms size = ([], 1) := by
      unfold planS
      rw [if_pos (by simpa using hb)]
    refine TK.seq_k fun K2 hK2 => TK.reg (RQ.ok (C := cx) _ _ ?_)
    simp
    refine hK2 _ _ ?_
    clear hK2 K2
    refine TK.cv 4 (VS 3 encP []) rfl Wk.nil ?_
    refine TK.ret ?_
    simp [hp, allLt_succ, encP_ok]
  · refine TK.skip ?_
    refine hK _ _ ?_
    clear hK K
    have hb' : ¬ (size < 0 ∨ 4000 < size) := by simpa using hb
    refine TK.seq_k fun K hK => TK.reg (RQ.ok (C := cx) _ _ ?_)
    simp
    refine hK _ _ ?_
    clear hK K
    refine TK.own 6 32 3 (rowL 3 encP []) rfl (.inl rfl) fun b _ => ?_
    refine TK.seq_k fun K hK => TK.reg (RQ.ok (C := cx) _ _ ?_)
    simp
    refine hK _ _ ?_
    clear hK K
    refine TK.seq_k fun K hK => ?_
    refine TK.seq_k fun K2 hK2 => TK.reg (RQ.ok (C := cx) _ _ ?_)
    simp
    refine hK2 _ _ ?_
    clear hK2 K2
    refine TK.block ?_
    refine TK.loopE [1, 6, 7, 17, 18, 19] (σ := Nat × Int × List Pc) (fun s env h => env = [(1, true, .int .i64 size), (6, true, .rs b 0 s.2.2.length (s.2.2.length * 3) 3), (7, true, .int .i64 s.2.1), (17, true, VS 1 (encI .i64) rooms),
        (18, true, .int .i64 rooms.length), (19, true, .int .i64 s.1)] ∧ h = [(b, ⟨32, s.2.2.length * 3, rowL 3 encP s.2.2⟩)] ∧ s.1 ≤ rooms.length ∧ s.2.2.length ≤ s.1 ∧ 0 ≤ s.2.1 ∧ s.2.1 ≤ size ∧
        planL size rooms 0 0 [] = planL size (rooms.drop s.1) s.1 s.2.1 s.2.2) (fun s => rooms.length - s.1) (0, 0, []) ?_ ?_
    · simp; omega
    · rintro ⟨i, at', out⟩ env h ⟨rfl, rfl, h1, h2, h3, h4, h5⟩
      simp only at h1 h2 h3 h4 h5
      refine TK.seq_k fun K3 hK3 => TK.reg (RQ.ok (C := cx) _ _ ?_)
      simp
      refine hK3 _ _ ?_
      clear hK3 K3
      refine TK.seq_k fun K3 hK3 => ?_
      refine TK.cond rfl (fun hb => TK.skip ?_) (fun hb => TK.exit ?_)
      · have hi : i < rooms.length := by simpa using hb
        refine hK3 _ _ ?_
        clear hK3 K3
        refine TK.seq_k fun K3 hK3 => TK.block ?_
        refine TK.seq_k fun K4 hK4 => TK.reg (RQ.ok (C := cx) _ _ ?_)
        simp [rowI, hi]
        repeat (refine ⟨by omega, ?_⟩)
        refine hK4 _ _ ?_
        clear hK4 K4
        refine TK.seq_k fun K4 hK4 => TK.reg (RQ.ok (C := cx) _ _ ?_)
        simp
        have hw : IntKind.i64.wrap (size - at') = size - at' := w64 (by omega) (by omega)
        refine TL.callv rfl rfl (by simp) rfl (by simp) (fun _ => fits_ok _) (RQ.ok (C := cx) _ _ ?_)
        simp [hw]
        generalize hn : (if size - at' < fitsS rooms[i] then size - at' else fitsS rooms[i]) = n
        have hn' : n = min (fitsS rooms[i]) (size - at') := by rw [← hn]; split <;> omega
        have hf := fitsS_lo rooms[i]
        refine hK4 _ _ ?_
        clear hK4 K4
        refine TK.seq_k fun K4 hK4 => ?_
        refine TK.seq_k fun K5 hK5 => TK.reg (RQ.ok (C := cx) _ _ ?_)
        simp
        refine ⟨by simp_all, hK5 _ _ ?_⟩
        clear hK5 K5
        have hdrop : rooms.drop i = rooms[i] :: rooms.drop (i + 1) := List.drop_eq_getElem_cons hi
        rw [hdrop] at h5
        simp only [planL, ← hn'] at h5
        refine TK.cond rfl (fun hc => TK.exit ?_) (fun hc => TK.skip ?_)
        · have hc' : n = 0 ∧ (size > 0 ∨ rooms[i] < 2) := by simpa using hc
          simp
          refine hK3 _ _ ?_
          clear hK4 K4 hK3 K3
          refine TK.run1 (C := cx) fun K hK => ?_
          simp
          refine hK _ _ ?_
          clear hK K
          rw [if_pos hc'] at h5
          refine ⟨(i + 1, at', out), ?_, by simp; omega⟩
          rw [w64 (by omega) (by omega)]
          simp
          exact ⟨by omega, by omega, h3, h4, h5⟩
        · have hc' : ¬ (n = 0 ∧ (size > 0 ∨ rooms[i] < 2)) := by simpa using hc
          rw [if_neg hc'] at h5
          refine hK4 _ _ ?_
          clear hK4 K4
          refine TK.run (C := cx) fun K hK => ?_
          simp
          refine TL.appL (sz := 3) (enc := encP) out [((i : Int), at', n)] rfl rfl (by simp) kd24 (by simp) ty32 rfl rfl (by simp) rfl rfl rfl rfl rfl (Nat.le_refl _) rfl (fun _ _ => rfl) (by omega) (by simp) (by simp; omega) (encR_all (fun _ => rfl) (by simp)) (RQ.ok (C := cx) _ _ ?_)
          simp
          refine hK _ _ ?_
          clear hK K
          refine TK.run (C := cx) fun K hK => ?_
          simp
          rw [w64 (by omega) (by omega)]
          refine hK _ _ ?_
          clear hK K
          refine TK.run (C := cx) fun K hK => ?_
          simp
          refine hK _ _ ?_
          clear hK K
          refine TK.cond rfl (fun hd => ?_) (fun hd => TK.skip ?_)
          · have hd' : at' + n = size := by simpa using hd
            rw [if_pos hd'] at h5
            refine TK.run (C := cx) fun K hK => ?_
            simp
            refine hK _ _ ?_
            clear hK K
            refine TK.keep [4, 5] ?_
            simp
            refine TK.fix b (by simp; rfl) (fun i _ => rowL_nob encP_ok i) (by simp) (by simp) ?_
            refine TK.ret ?_
            have hp : planS rooms size = (out ++ [((i : Int), at', n)], 0) := by
              unfold planS
              rw [if_neg (by omega), h5]
            simp [hp, allLt_succ, encP_ok]
          · have hd' : ¬ at' + n = size := by simpa using hd
            rw [if_neg hd'] at h5
            simp
            refine hK3 _ _ ?_
            clear hK3 K3
            refine TK.run1 (C := cx) fun K hK => ?_
            simp
            refine hK _ _ ?_
            clear hK K
            refine ⟨(i + 1, at' + n, out ++ [((i : Int), at', n)]), ?_, by simp; omega⟩
            rw [w64 (by omega) (by omega)]
            simp
            exact ⟨by omega, by omega, by omega, by omega, h5⟩
      · have hi : i = rooms.length := by have : ¬ i < rooms.length := by simpa using hb
                                         omega
        subst hi
        simp
        refine hK _ _ ?_
        clear hK K hK3 K3
        refine TK.run (C := cx) fun K hK => ?_
        simp
        refine hK _ _ ?_
        clear hK K
        have hp : planS rooms size = ([], 7) := by
          unfold planS
          rw [if_neg (by omega), h5]
          simp [planL]
        refine TK.cv 4 (VS 3 encP []) rfl Wk.nil ?_
        refine TK.ret ?_
        simp [hp, allLt_succ, encP_ok]
end Go.Proofs.Ytjkjoihlpnahdaa
