import Derived.Test.YtjkjoihlpnahdaaPuSlices
/- The law of a line of mounts, on what its functions compute. -/
namespace Go.AX
open Go.AM

theorem x_Add (a : Int) (l : List Int) (h : l.length ≤ 1000000) : X.mount_Line_Add a l = some (l ++ [a]) := by
  unfold X.mount_Line_Add
  rw [need_is (by simp <;> omega)]
  rfl
theorem x_First (l : List Int) : X.mount_Line_First l = some (l.headD 0, decide (0 < l.length)) := by
  unfold X.mount_Line_First X.mount_Line_Len
  cases l with
  | nil => rfl
  | cons a r =>
    simp only [Option.bind_some, List.length_cons]
    rw [if_neg (by simp <;> omega), getI_some (by omega) (by simp <;> omega)]
    simp
theorem x_Wants (l : List Int) (v : Int) (h : l.length ≤ 1000000) : X.mount_Line_Wants l v = some (decide (v ∈ l)) := by
  unfold X.mount_Line_Wants
  rw [x_Contains l v (by omega)]
  rfl
theorem x_Serve (v : Int) (l : List Int) (h : l.length ≤ 1000000) : X.mount_Line_Serve v l = some ((l.length : Int) - ((l.filter fun a => !(a == v)).length : Int), l.filter fun a => !(a == v)) := by
  unfold X.mount_Line_Serve X.mount_Line_Len
  have hf := List.length_filter_le (fun a => !(a == v)) l
  simp only [Option.bind_some]
  by_cases h0 : 0 < l.length
  · rw [if_pos (by simpa using h0)]
    have : (fun a1 => X.mount_Line_Serve_c1 a1 v) = fun a => some (a == v) := rfl
    rw [this, x_DeleteFunc l _ (by omega)]
    simp only [Option.bind_some, X.mount_Line_Serve_j8, X.mount_Line_Len]
    rw [wr_id (by omega) (by omega)]
  · rw [if_neg (by simpa using h0)]
    have : l = [] := List.length_eq_zero_iff.1 (by omega)
    subst this
    simp only [X.mount_Line_Serve_j8, X.mount_Line_Len, Option.bind_some]
    rfl

theorem x_mountAlive : X.cartridgelaw23_alive = some true := by
  unfold X.cartridgelaw23_alive
  rw [x_Add _ _ (by simp)]
  simp only [X.mount_Line_Len, Option.bind_some, List.length_nil, List.nil_append]
  rw [x_First, x_Wants _ _ (by simp), x_Serve _ _ (by simp)]
  rfl

/-- Counting and keeping, as Serve does. -/
theorem x_s94 (now : List Int) (e : Act_law23) (hn : now.length ≤ 1000000) : run (X.cartridgelaw23_MountPlays_s94 now e) ((0 : Int), ([] : List Int), (0 : Int)) =
    some ((now.length : Int) - ((now.filter fun a => !(a == e.Label)).length : Int), now.filter fun a => !(a == e.Label)) := by
  refine run_is _ (fun s : Int × List Int × Int => ∃ k : Nat, s.2.2 = (k : Int) ∧ k ≤ now.length ∧ s.2.1 = (now.take k).filter (fun a => !(a == e.Label)) ∧ s.1 = (k : Int) - (s.2.1.length : Int) ∧ s.2.1.length ≤ k) (fun s : Int × List Int × Int => now.length - s.2.2.toNat)
    ⟨0, rfl, by omega, by simp, by simp, by simp⟩ (by omega) ?_
  rintro ⟨n, left, k'⟩ ⟨k, rfl, hk, hl, hnn, hle⟩
  simp only at hl hnn hle
  unfold X.cartridgelaw23_MountPlays_s94
  simp only
  by_cases h : k < now.length
  · rw [if_pos (by simpa using h), getI_nat h]
    simp only [Option.bind_some]
    left
    cases hq : now[k] == e.Label with
    | true =>
      refine ⟨(wr (n + 1), left, wr ((k : Int) + 1)), rfl, ⟨k + 1, wr_succ (by omega), by omega, ?_, ?_, by show left.length ≤ k + 1; omega⟩, ?_⟩
      · rw [List.take_succ_eq_append_getElem h, List.filter_append, ← hl]; simp [hq]
      · simp only; rw [wr_id (by omega) (by omega)]; omega
      · simp only; rw [wr_succ (by omega)]; omega
    | false =>
      refine ⟨(n, left ++ [now[k]], wr ((k : Int) + 1)), ?_, ⟨k + 1, wr_succ (by omega), by omega, ?_, by simp <;> omega, by simp <;> omega⟩, ?_⟩
      · rw [if_neg (by simp), need_is (by simp <;> omega)]; rfl
      · simp only; rw [List.take_succ_eq_append_getElem h, List.filter_append, ← hl]; simp [hq]
      · simp only; rw [wr_succ (by omega)]; omega
  · right
    rw [if_neg (by simpa using h)]
    have : k = now.length := by omega
    subst this
    rw [List.take_length] at hl
    subst hl
    simp [hnn]

/-- Whether it stands among them. -/
theorem x_s58 (now : List Int) (e : Act_law23) (hn : now.length ≤ 1000000) : run (X.cartridgelaw23_MountPlays_s58 now e) (false, (0 : Int)) = some (decide (e.Label ∈ now)) := by
  refine run_is _ (fun s : Bool × Int => ∃ k : Nat, s.2 = (k : Int) ∧ k ≤ now.length ∧ s.1 = decide (e.Label ∈ now.take k)) (fun s : Bool × Int => now.length - s.2.toNat) ⟨0, rfl, by omega, by simp⟩ (by omega) ?_
  rintro ⟨b, k'⟩ ⟨k, rfl, hk, hb⟩
  simp only at hb
  unfold X.cartridgelaw23_MountPlays_s58
  simp only
  by_cases h : k < now.length
  · rw [if_pos (by simpa using h), getI_nat h]
    left
    refine ⟨(decide (e.Label ∈ now.take (k + 1)), ((k + 1 : Nat) : Int)), ?_, ⟨k + 1, rfl, by omega, rfl⟩, by simp <;> omega⟩
    have hmem : decide (e.Label ∈ now.take (k + 1)) = (decide (e.Label ∈ now.take k) || (now[k] == e.Label)) := by
      rw [List.take_succ_eq_append_getElem h, Bool.eq_iff_iff]
      simp only [List.mem_append, List.mem_singleton, decide_eq_true_eq, Bool.or_eq_true, beq_iff_eq]
      rw [eq_comm (a := now[k])]
    rw [hmem, wr_succ (by omega)]
    subst hb
    by_cases hm : e.Label ∈ now.take k
    · simp [hm]
    · simp [hm]
  · right
    rw [if_neg (by simpa using h)]
    have : k = now.length := by omega
    subst this
    simp [hb]

theorem x_j39 (e : Act_law23) (o : List Int) (i : Int) (l : List Int) (hl : l.length ≤ 1000000) : X.cartridgelaw23_MountPlays_j39 e o i l l = some (.inl (l, o, l, wr (i + 1))) := by
  unfold X.cartridgelaw23_MountPlays_j39
  rw [x_First]
  simp only [X.mount_Line_Len, Option.bind_some]
  have h1 : ∀ v : Int, (((l.length : Int) != (l.length : Int)) || ((decide (0 < l.length)) != (decide ((l.length : Int) > (0 : Int)))) || ((decide (0 < l.length)) && (l.headD 0 != v))) = (decide (0 < l.length) && (l.headD 0 != v)) := by
    intro v
    have : decide (0 < l.length) = decide ((l.length : Int) > (0 : Int)) := by rw [decide_eq_decide]; omega
    rw [this]; simp
  have h2 : ∃ v, optG ((!(((l.length : Int) != (l.length : Int)) || ((decide (0 < l.length)) != (decide ((l.length : Int) > (0 : Int))))) && (decide (0 < l.length)))) (getI l (0 : Int)) = some v ∧ (decide (0 < l.length) && (l.headD 0 != v)) = false := by
    cases l with
    | nil => exact ⟨0, rfl, rfl⟩
    | cons a r =>
      refine ⟨a, ?_, by simp⟩
      rw [getI_some (by omega) (by simp <;> omega)]
      simp
  obtain ⟨v, h2, h3⟩ := h2
  rw [h2]
  simp only [Option.bind_some]
  rw [h1 v, h3]
  simp only [Bool.false_eq_true, if_false]
  rw [x_s58 l e hl]
  simp only [Option.bind_some, X.cartridgelaw23_MountPlays_e58]
  rw [x_Wants l _ hl]
  simp

theorem x_MountPlays (l : List Act_law23) : X.cartridgelaw23_MountPlays l = some true := by
  unfold X.cartridgelaw23_MountPlays
  rw [x_mountAlive]
  simp only [Option.bind_some, Bool.not_true, Bool.false_or]
  by_cases hl : l.length ≤ 200
  · rw [if_neg (by simp <;> omega)]
    have : run (X.cartridgelaw23_MountPlays_s18 l) (([] : List Int), ([] : List Int), ([] : List Int), (0 : Int)) = some (.inl ()) := by
      refine run_is _ (fun s : List Int × List Int × List Int × Int => ∃ k : Nat, s.2.2.2 = (k : Int) ∧ k ≤ l.length ∧ s.1 = s.2.2.1 ∧ s.1.length ≤ k ∧ s.2.1.length ≤ k) (fun s : List Int × List Int × List Int × Int => l.length - s.2.2.2.toNat)
        ⟨0, rfl, by omega, rfl, by simp, by simp⟩ (by omega) ?_
      rintro ⟨x, o, now, k'⟩ ⟨k, rfl, hk, hx, hxl, hol⟩
      simp only at hx hxl hol
      subst hx
      unfold X.cartridgelaw23_MountPlays_s18
      simp only
      by_cases h : k < l.length
      · rw [if_pos (by simpa using h), getI_nat h]
        simp only [Option.bind_some]
        rw [x_Add _ o (by omega)]
        simp only [Option.bind_some]
        left
        by_cases hw : (l[k].Way == (0 : Int)) = true
        · rw [if_pos hw, x_Add _ x (by omega)]
          simp only [Option.bind_some]
          rw [need_is (by simp <;> omega)]
          simp only [Option.bind_some]
          rw [x_j39 _ _ _ _ (by simp <;> omega)]
          exact ⟨_, rfl, ⟨k + 1, wr_succ (by omega), by omega, rfl, by simp <;> omega, by simp <;> omega⟩, by simp only; rw [wr_succ (by omega)]; omega⟩
        · rw [if_neg hw]
          by_cases hw1 : (l[k].Way == (1 : Int)) = true
          · rw [if_pos hw1, x_s94 x l[k] (by omega)]
            simp only [Option.bind_some, X.cartridgelaw23_MountPlays_e94]
            rw [x_Serve _ x (by omega)]
            have hf := List.length_filter_le (fun a => !(a == l[k].Label)) x
            simp only [Option.bind_some, bne_self_eq_false, Bool.false_eq_true, if_false]
            rw [x_j39 _ _ _ _ (by omega)]
            exact ⟨_, rfl, ⟨k + 1, wr_succ (by omega), by omega, rfl, by simp only; omega, by simp <;> omega⟩, by simp only; rw [wr_succ (by omega)]; omega⟩
          · rw [if_neg hw1, x_j39 _ _ _ _ (by omega)]
            exact ⟨_, rfl, ⟨k + 1, wr_succ (by omega), by omega, rfl, by simp only; omega, by simp <;> omega⟩, by simp only; rw [wr_succ (by omega)]; omega⟩
      · right
        rw [if_neg (by simpa using h)]
    rw [this]
    rfl
  · rw [if_pos (by simp <;> omega)]
end Go.AX
