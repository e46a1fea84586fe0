import Derived.Test.YtjkjoihlpnahdaaPuShelfNew
/- The law ShelfOne, on what its functions compute. -/
namespace Go.AX
open Go.AM

def lab10 (k : Nat) : List Int := (List.range k).map fun (i : Nat) => 10 + (i : Int)
theorem lab10_succ (k : Nat) : lab10 (k + 1) = lab10 k ++ [10 + (k : Int)] := by simp [lab10, List.range_succ]
theorem x_s14o (n : Int) (h0 : 0 ≤ n) (h1 : n ≤ 30) : run (X.cartridgelaw22_ShelfOne_s14 n) (([] : List Int), (0 : Int)) = some (lab10 n.toNat) := by
  refine run_is _ (fun s : List Int × Int => ∃ k : Nat, s = (lab10 k, (k : Int)) ∧ (k : Int) ≤ n) (fun s : List Int × Int => n.toNat - s.2.toNat) ⟨0, rfl, by omega⟩ (by omega) ?_
  rintro s ⟨k, rfl, hk⟩
  unfold X.cartridgelaw22_ShelfOne_s14
  simp only
  by_cases h : (k : Int) < n
  · rw [if_pos (by simpa using h), need_is (by simp [lab10]; omega)]
    simp only [Option.bind_some]
    left
    rw [wr_id (x := 10 + (k : Int)) (by omega) (by omega)]
    exact ⟨_, rfl, ⟨k + 1, by rw [wr_succ (by omega), lab10_succ], by omega⟩, by simp only; rw [wr_succ (by omega)]; omega⟩
  · rw [if_neg (by simpa using h)]
    right
    have : n.toNat = k := by omega
    rw [this]
theorem lab10_at {k i : Nat} (h : i < k) : (lab10 k)[i]? = some (10 + (i : Int)) := by
  simp [lab10, h]
theorem lab10_good (k : Nat) : goodL (lab10 k) := by
  intro i h
  have hk : i < k := by simpa [lab10] using h
  have e : (lab10 k)[i] = 10 + (i : Int) := by
    have := lab10_at hk
    rw [List.getElem?_eq_getElem h] at this
    injection this
  rw [e]
  refine ⟨by omega, fun hm => ?_⟩
  obtain ⟨j, hj, he⟩ := List.getElem_of_mem hm
  simp only [List.length_take] at hj
  rw [List.getElem_take] at he
  have hj2 : j < k := by omega
  have e2 := lab10_at hj2
  rw [List.getElem?_eq_getElem (by simp [lab10]; omega)] at e2
  injection e2 with e2
  omega

theorem mnt_drv {L I D : List Int} (h : ShInv L I D) {n : Nat} {v : Int} (hn : L[n]? = some v) (hd : 0 ≤ drv L I v) : mnt D (drv L I v) = v := by
  obtain ⟨u, h1, _⟩ := h.ix hn
  have e : drv L I v = u := by unfold drv; rw [h.fi hn]; simp [List.getD_eq_getElem?_getD, h1]
  rw [e] at hd ⊢
  rcases h.at_ n u h1 with h2 | ⟨d, rfl, w, h3, h4⟩
  · omega
  · rw [hn] at h4
    injection h4 with h4
    subst h4
    have hl := (List.getElem?_eq_some_iff.1 h3).1
    unfold mnt
    rw [if_pos (by omega)]
    simp [List.getD_eq_getElem?_getD, h3]
theorem slt_drv {L I D : List Int} (h : ShInv L I D) {n : Nat} {v : Int} (hn : L[n]? = some v) : (drv L I v = -1 ∧ slt L I v = n) ∨ (0 ≤ drv L I v ∧ slt L I v = -1) := by
  obtain ⟨u, h1, _, h3⟩ := h.ix hn
  unfold drv slt
  rw [h.fi hn]
  simp only [List.getD_eq_getElem?_getD, h1, Option.getD_some]
  rcases h3 with rfl | h3
  · left; exact ⟨rfl, by rw [if_neg (by omega)]⟩
  · right; exact ⟨h3, by rw [if_pos h3]⟩
theorem drv_mnt {L I D : List Int} (h : ShInv L I D) {d : Nat} (hd : d < D.length) (h0 : mnt D d ≠ 0) : drv L I (mnt D d) = d := by
  have hm : mnt D d = D[d] := by
    unfold mnt
    rw [if_pos (by omega)]
    simp [List.getD_eq_getElem?_getD, List.getElem?_eq_getElem hd]
  rw [hm] at h0 ⊢
  rcases h.dr d _ (List.getElem?_eq_getElem hd) with h1 | ⟨i, h1, h2⟩
  · exact absurd h1 h0
  · unfold drv; rw [h.fi h1]; simp [List.getD_eq_getElem?_getD, h2]

theorem x_s52 {I D : List Int} (n : Int) (h0 : 0 ≤ n) (h1 : n ≤ 30) (h : ShInv (lab10 n.toNat) I D) : run (X.cartridgelaw22_ShelfOne_s52 n (lab10 n.toNat) (lab10 n.toNat) D) (0 : Int) = some (.inl ()) := by
  refine run_is _ (fun x : Int => ∃ k : Nat, x = (k : Int) ∧ (k : Int) ≤ n) (fun x : Int => n.toNat - x.toNat) ⟨0, rfl, by omega⟩ (by omega) ?_
  rintro x ⟨k, rfl, hk⟩
  unfold X.cartridgelaw22_ShelfOne_s52
  by_cases hkl : (k : Int) < n
  · rw [if_pos (by simpa using hkl)]
    left
    have hv : (lab10 n.toNat)[k]? = some (10 + (k : Int)) := lab10_at (by omega)
    have hg : getI (lab10 n.toNat) (k : Int) = some (10 + (k : Int)) := by unfold getI; rw [if_pos (by omega)]; simpa using hv
    generalize lab10 n.toNat = L at *
    generalize 10 + (k : Int) = v at *
    simp only [hg, Option.bind_some]
    rw [x_Drive h, x_Slot h]
    simp only [Option.bind_some, x_Mounted]
    refine ⟨((k + 1 : Nat) : Int), ?_, ⟨k + 1, rfl, by omega⟩, by omega⟩
    rcases slt_drv h hv with ⟨e1, e2⟩ | ⟨e1, e2⟩
    · rw [e1, e2, wr_succ (by omega)]
      simp [x_Slot h]
    · have hm := mnt_drv h hv e1
      have g1 : (drv L I v == (-1 : Int)) = false := by simp; omega
      have g2 : ((-1 : Int) == (k : Int)) = false := by simp <;> omega
      have g3 : decide (drv L I v ≥ (0 : Int)) = true := by simpa using e1
      rw [e2, g1, g2, g3, hm, wr_succ (by omega)]
      simp [x_Slot h, e2]
  · rw [if_neg (by simpa using hkl)]
    right; rfl
theorem x_s59 {L I D : List Int} (dn : Int) (hd : D.length = dn.toNat) (h : ShInv L I D) : run (X.cartridgelaw22_ShelfOne_s59 dn L D) (0 : Int) = some (.inl ()) := by
  have hs := h.dsmall
  refine run_is _ (fun x : Int => ∃ k : Nat, x = (k : Int) ∧ k ≤ dn.toNat) (fun x : Int => dn.toNat - x.toNat) ⟨0, rfl, by omega⟩ (by omega) ?_
  rintro x ⟨k, rfl, hk⟩
  unfold X.cartridgelaw22_ShelfOne_s59
  by_cases hkl : (k : Int) < dn
  · rw [if_pos (by simpa using hkl), x_Mounted]
    left
    simp only [Option.bind_some]
    rw [x_Drive h]
    refine ⟨((k + 1 : Nat) : Int), ?_, ⟨k + 1, rfl, by omega⟩, by omega⟩
    rw [wr_succ (by omega)]
    by_cases h0 : mnt D k = 0
    · rw [h0]; simp
    · have e := drv_mnt h (d := k) (by omega) h0
      have : (mnt D k != (0 : Int)) = true := by simpa using h0
      rw [this, e]
      simp
  · rw [if_neg (by simpa using hkl)]
    right; rfl
theorem x_j45 {I D : List Int} (n dn i : Int) (h0 : 0 ≤ n) (h1 : n ≤ 30) (hd : D.length = dn.toNat) (h : ShInv (lab10 n.toNat) I D) :
    X.cartridgelaw22_ShelfOne_j45 n (lab10 n.toNat) dn i (lab10 n.toNat) D = some (.inl (lab10 n.toNat, D, wr (i + 1))) := by
  unfold X.cartridgelaw22_ShelfOne_j45
  rw [x_s52 n h0 h1 h]
  simp only [Option.bind_some]
  unfold X.cartridgelaw22_ShelfOne_e52
  rw [x_s59 dn hd h]
  rfl
theorem mov_dlen (L I D : List Int) (v d : Int) : (mov L I D v d).2.2.length = D.length := by
  unfold mov
  repeat' split
  all_goals simp
theorem bck_dlen (L I D : List Int) (d : Int) : (bck L I D d).2.2.length = D.length := by
  unfold bck
  repeat' split
  all_goals simp
theorem x_Cut (n a b : Int) : ∃ r, X.cartridgeref1_Cut n a b = some r := by
  unfold X.cartridgeref1_Cut
  repeat' split
  all_goals exact ⟨_, rfl⟩

theorem x_ShelfOne (n dn : Int) (l : List Act_law22) : X.cartridgelaw22_ShelfOne n dn l = some true := by
  unfold X.cartridgelaw22_ShelfOne
  rw [x_shelfAlive]
  simp only [Option.bind_some, Bool.not_true, Bool.false_or]
  by_cases hc : 0 ≤ n ∧ n ≤ 30 ∧ 1 ≤ dn ∧ dn ≤ 4 ∧ l.length ≤ 100
  · rw [if_neg (by simp; omega), x_s14o n (by omega) (by omega)]
    simp only [Option.bind_some]
    unfold X.cartridgelaw22_ShelfOne_e14
    have hok : okNew (lab10 n.toNat) dn := ⟨by simp [lab10]; omega, by omega, by omega, lab10_good _⟩
    rw [x_New_ok hok]
    simp only [Option.bind_some, x_num, bne_self_eq_false, Bool.or_false, Bool.false_eq_true, if_false]
    have : run (X.cartridgelaw22_ShelfOne_s35 l n (lab10 n.toNat) dn) (lab10 n.toNat, List.replicate dn.toNat (0 : Int), (0 : Int)) = some (.inl ()) := by
      refine run_is _ (fun s : List Int × List Int × Int => ∃ (I D : List Int) (k : Nat), s = (lab10 n.toNat, D, (k : Int)) ∧ k ≤ l.length ∧ D.length = dn.toNat ∧ ShInv (lab10 n.toNat) I D) (fun s : List Int × List Int × Int => l.length - s.2.2.toNat)
        ⟨_, _, 0, rfl, by omega, by simp, hok.inv⟩ (by omega) ?_
      rintro s ⟨I, D, k, rfl, hk, hdl, h⟩
      unfold X.cartridgelaw22_ShelfOne_s35
      simp only
      by_cases hkl : k < l.length
      · rw [if_pos (by simpa using hkl), getI_nat hkl]
        simp only [Option.bind_some]
        left
        by_cases hw : (l[k].Way == (0 : Int)) = true
        · rw [if_pos hw]
          obtain ⟨r, hr⟩ := x_Cut l[k].Label 0 40
          rw [hr]
          simp only [Option.bind_some]
          rw [x_Move h]
          simp only [Option.bind_some]
          have hi := mov_inv h (wr (10 + r)) l[k].Drive
          rw [x_j45 n dn _ (by omega) (by omega) (by rw [mov_dlen]; exact hdl) hi]
          exact ⟨_, rfl, ⟨_, _, k + 1, by rw [wr_succ (by omega)], by omega, by rw [mov_dlen]; exact hdl, hi⟩, by simp only; rw [wr_succ (by omega)]; omega⟩
        · rw [if_neg hw, x_Back _ h]
          simp only [Option.bind_some]
          have hi := bck_inv h l[k].Drive
          rw [x_j45 n dn _ (by omega) (by omega) (by rw [bck_dlen]; exact hdl) hi]
          exact ⟨_, rfl, ⟨_, _, k + 1, by rw [wr_succ (by omega)], by omega, by rw [bck_dlen]; exact hdl, hi⟩, by simp only; rw [wr_succ (by omega)]; omega⟩
      · right
        rw [if_neg (by simpa using hkl)]
    rw [this]
    rfl
  · rw [if_pos (by simp; omega)]
end Go.AX
