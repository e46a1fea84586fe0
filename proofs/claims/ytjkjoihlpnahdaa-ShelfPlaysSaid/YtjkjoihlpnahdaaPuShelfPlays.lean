import Derived.Test.YtjkjoihlpnahdaaPuShelfNew
/- The law ShelfPlays, on what its functions compute. -/
namespace Go.AX
open Go.AM

theorem x_j217 {L I D : List Int} (h : ShInv L I D) (e : Act_law22) (i : Int) : X.cartridgelaw22_ShelfPlays_j217 e i L D L I D = some (.inl (L, D, L, I, D, wr (i + 1))) := by
  unfold X.cartridgelaw22_ShelfPlays_j217
  rw [x_Slot h, y_Slot h, x_Drive h, y_Drive h, x_Mounted, y_Mounted]
  simp

theorem x_ShelfPlays (L : List Int) (n : Int) (l : List Act_law22) : X.cartridgelaw22_ShelfPlays L n l = some true := by
  unfold X.cartridgelaw22_ShelfPlays
  rw [x_shelfAlive]
  simp only [Option.bind_some, Bool.not_true, Bool.false_or]
  by_cases hb : L.length ≤ 40 ∧ l.length ≤ 100
  · rw [if_neg (by simp; omega), need_is (by omega)]
    simp only [Option.bind_some]
    by_cases hok : okNew L n
    · rw [x_New_ok hok, y_New_ok hok]
      simp only [Option.bind_some, x_num, bne_self_eq_false, Bool.or_false, Bool.false_eq_true, if_false]
      have : run (X.cartridgelaw22_ShelfPlays_s197 l) (L, List.replicate n.toNat (0 : Int), L, List.replicate L.length (-1 : Int), List.replicate n.toNat (0 : Int), (0 : Int)) = some (.inl ()) := by
        refine run_is _ (fun s : List Int × List Int × List Int × List Int × List Int × Int => ∃ (I D : List Int) (k : Nat), s = (L, D, L, I, D, (k : Int)) ∧ k ≤ l.length ∧ ShInv L I D) (fun s : List Int × List Int × List Int × List Int × List Int × Int => l.length - s.2.2.2.2.2.toNat)
          ⟨_, _, 0, rfl, by omega, hok.inv⟩ (by omega) ?_
        rintro s ⟨I, D, k, rfl, hk, h⟩
        unfold X.cartridgelaw22_ShelfPlays_s197
        simp only
        by_cases hkl : k < l.length
        · rw [if_pos (by simpa using hkl), getI_nat hkl]
          simp only [Option.bind_some]
          left
          by_cases hw : (l[k].Way == (0 : Int)) = true
          · rw [if_pos hw, x_Move h, y_Move h]
            simp only [Option.bind_some, x_num, bne_self_eq_false, Bool.false_eq_true, if_false]
            have hi := mov_inv h l[k].Label l[k].Drive
            rw [x_j217 hi]
            exact ⟨_, rfl, ⟨_, _, k + 1, by rw [wr_succ (by omega)], by omega, hi⟩, by simp only; rw [wr_succ (by omega)]; omega⟩
          · rw [if_neg hw]
            by_cases hw1 : (l[k].Way == (1 : Int)) = true
            · rw [if_pos hw1, x_Back _ h, y_Back _ h]
              simp only [Option.bind_some, x_num, bne_self_eq_false, Bool.false_eq_true, if_false]
              have hi := bck_inv h l[k].Drive
              rw [x_j217 hi]
              exact ⟨_, rfl, ⟨_, _, k + 1, by rw [wr_succ (by omega)], by omega, hi⟩, by simp only; rw [wr_succ (by omega)]; omega⟩
            · rw [if_neg hw1, x_j217 h]
              exact ⟨_, rfl, ⟨_, _, k + 1, by rw [wr_succ (by omega)], by omega, h⟩, by simp only; rw [wr_succ (by omega)]; omega⟩
        · right
          rw [if_neg (by simpa using hkl)]
      rw [this]
      rfl
    · rw [x_New_no hok, y_New_no hok]
      rfl
  · rw [if_pos (by simp; omega)]
end Go.AX
