import Derived.Test.YtjkjoihlpnahdaaPuShelfNew
/- The law ShelfBack, on what its functions compute. -/
namespace Go.AX
open Go.AM

def lab7 (k : Nat) : List Int := (List.range k).map fun (i : Nat) => 7 * (i : Int) + 3
theorem lab7_succ (k : Nat) : lab7 (k + 1) = lab7 k ++ [7 * (k : Int) + 3] := by simp [lab7, List.range_succ]
theorem x_s15b (n : Int) (h0 : 0 ≤ n) (h1 : n ≤ 30) : run (X.cartridgelaw22_ShelfBack_s15 n) (([] : List Int), (0 : Int)) = some (lab7 n.toNat) := by
  refine run_is _ (fun s : List Int × Int => ∃ k : Nat, s = (lab7 k, (k : Int)) ∧ (k : Int) ≤ n) (fun s : List Int × Int => n.toNat - s.2.toNat) ⟨0, rfl, by omega⟩ (by omega) ?_
  rintro s ⟨k, rfl, hk⟩
  unfold X.cartridgelaw22_ShelfBack_s15
  simp only
  by_cases h : (k : Int) < n
  · rw [if_pos (by simpa using h), need_is (by simp [lab7]; omega)]
    simp only [Option.bind_some]
    left
    rw [wr_id (x := 7 * (k : Int)) (by omega) (by omega), wr_id (x := 7 * (k : Int) + 3) (by omega) (by omega)]
    exact ⟨_, rfl, ⟨k + 1, by rw [wr_succ (by omega), lab7_succ], by omega⟩, by simp only; rw [wr_succ (by omega)]; omega⟩
  · rw [if_neg (by simpa using h)]
    right
    have : n.toNat = k := by omega
    rw [this]
theorem lab7_at {k i : Nat} (h : i < k) : (lab7 k)[i]? = some (7 * (i : Int) + 3) := by
  simp [lab7, h]
theorem lab7_good (k : Nat) : goodL (lab7 k) := by
  intro i h
  have hk : i < k := by simpa [lab7] using h
  have e : (lab7 k)[i] = 7 * (i : Int) + 3 := by
    have := lab7_at hk
    rw [List.getElem?_eq_getElem h] at this
    injection this
  rw [e]
  refine ⟨by omega, fun hm => ?_⟩
  obtain ⟨j, hj, he⟩ := List.getElem_of_mem hm
  simp only [List.length_take] at hj
  rw [List.getElem_take] at he
  have hj2 : j < k := by omega
  have e2 := lab7_at hj2
  rw [List.getElem?_eq_getElem (by simp [lab7]; omega)] at e2
  injection e2 with e2
  omega

theorem x_ShelfBack (n a drives d : Int) : X.cartridgelaw22_ShelfBack n a drives d = some true := by
  unfold X.cartridgelaw22_ShelfBack
  rw [x_shelfAlive]
  simp only [Option.bind_some, Bool.not_true, Bool.false_or]
  by_cases hc : 1 ≤ n ∧ n ≤ 30 ∧ 0 ≤ a ∧ a < n ∧ 1 ≤ drives ∧ drives ≤ 4 ∧ 0 ≤ d ∧ d < drives
  · rw [if_neg (by simp; omega), x_s15b n (by omega) (by omega)]
    simp only [Option.bind_some]
    unfold X.cartridgelaw22_ShelfBack_e15
    have hok : okNew (lab7 n.toNat) drives := ⟨by simp [lab7]; omega, by omega, by omega, lab7_good _⟩
    have hi := hok.inv
    rw [x_New_ok hok]
    simp only [Option.bind_some, x_num, bne_self_eq_false, Bool.or_false, Bool.false_eq_true, if_false]
    -- names
    have hlen : (lab7 n.toNat).length = n.toNat := by simp [lab7]
    have hva : (lab7 n.toNat)[a.toNat]? = some (7 * a + 3) := by
      rw [lab7_at (by omega)]
      congr 1
      omega
    have hga : getI (lab7 n.toNat) a = some (7 * a + 3) := by
      unfold getI
      rw [if_pos (by omega), hva]
    generalize lab7 n.toNat = L at *
    generalize hv : 7 * a + 3 = v at *
    have hfi := hi.fi hva
    have hd0 : (List.replicate drives.toNat (0 : Int)).length = drives.toNat := by simp
    have hr : 0 ≤ d ∧ d < (List.replicate drives.toNat (0 : Int)).length := by rw [hd0]; omega
    have hD : (List.replicate drives.toNat (0 : Int)).getD d.toNat 0 = 0 := by
      rw [List.getD_eq_getElem?_getD, List.getElem?_replicate, if_pos (by omega)]; rfl
    have hI : (List.replicate L.length (-1 : Int)).getD a.toNat (-1) = -1 := by
      rw [List.getD_eq_getElem?_getD, List.getElem?_replicate]; split <;> rfl
    generalize hDn : List.replicate drives.toNat (0 : Int) = D at *
    generalize hIn : List.replicate L.length (-1 : Int) = I at *
    have hal : a.toNat < I.length := by rw [← hIn]; simp; omega
    have hdl : d.toNat < D.length := by omega
    -- the first Back finds nothing
    have b1 : bck L I D d = (11, I, D) := by unfold bck; rw [if_pos hr, if_pos hD]
    rw [x_Back d hi, b1]
    simp only [Option.bind_some, hga]
    -- the first Move
    have m1 : mov L I D v d = (0, I.set a.toNat d, D.set d.toNat v) := by
      unfold mov; rw [hfi]; simp only; rw [if_pos hr, if_neg (by rw [hI, hD]; simp)]
    have i1 := mov_inv hi v d
    rw [m1] at i1
    simp only at i1
    rw [x_Move hi, m1]
    simp only [Option.bind_some]
    have hr1 : 0 ≤ d ∧ d < (D.set d.toNat v).length := by simpa using hr
    have hI1 : (I.set a.toNat d).getD a.toNat (-1) = d := by
      rw [List.getD_eq_getElem?_getD, List.getElem?_set, if_pos rfl, if_pos hal]; rfl
    have hD1 : (D.set d.toNat v).getD d.toNat 0 = v := by
      rw [List.getD_eq_getElem?_getD, List.getElem?_set, if_pos rfl, if_pos hdl]; rfl
    have hvpos := hi.pos _ _ hva
    have m2 : mov L (I.set a.toNat d) (D.set d.toNat v) v d = (11, I.set a.toNat d, D.set d.toNat v) := by
      unfold mov; rw [hfi]; simp only; rw [if_pos hr1, if_pos (.inl (by rw [hI1]; omega))]
    rw [x_Move i1, m2]
    simp only [Option.bind_some]
    have t1 : mnt (D.set d.toNat v) d = v := by unfold mnt; rw [if_pos hr1, hD1]
    have s1 : slt L (I.set a.toNat d) v = -1 := by unfold slt; rw [hfi]; simp only; rw [if_pos (by rw [hI1]; omega)]
    rw [x_Mounted, t1, x_Slot i1, s1]
    have b2 : bck L (I.set a.toNat d) (D.set d.toNat v) d = (0, (I.set a.toNat d).set a.toNat (-1), (D.set d.toNat v).set d.toNat 0) := by
      unfold bck; rw [if_pos hr1, if_neg (by rw [hD1]; omega), hD1, hfi]
    have i2 := bck_inv i1 d
    rw [b2] at i2
    simp only at i2
    rw [x_Back d i1, b2]
    simp only [Option.bind_some]
    have s2 : slt L ((I.set a.toNat d).set a.toNat (-1)) v = a := by
      have hI2 : ((I.set a.toNat d).set a.toNat (-1)).getD a.toNat (-1) = -1 := by
        rw [List.getD_eq_getElem?_getD, List.getElem?_set, if_pos rfl, if_pos (by simpa using hal)]; rfl
      unfold slt; rw [hfi]; simp only
      rw [hI2, if_neg (by omega)]
      omega
    have t2 : mnt ((D.set d.toNat v).set d.toNat 0) d = 0 := by
      unfold mnt; rw [if_pos (by simpa using hr)]
      rw [List.getD_eq_getElem?_getD, List.getElem?_set, if_pos rfl, if_pos (by simpa using hdl)]; rfl
    have v2 : drv L ((I.set a.toNat d).set a.toNat (-1)) v = -1 := by
      unfold drv; rw [hfi]; simp only
      rw [List.getD_eq_getElem?_getD, List.getElem?_set, if_pos rfl, if_pos (by simpa using hal)]; rfl
    simp only [List.set_set] at i2 s2 t2 v2 ⊢
    simp [x_Slot i2, s2, x_Mounted, t2, x_Drive i2, v2]
  · rw [if_pos (by simp; omega)]
end Go.AX
