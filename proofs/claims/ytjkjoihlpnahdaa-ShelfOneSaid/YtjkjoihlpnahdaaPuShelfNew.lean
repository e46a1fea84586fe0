import Derived.Test.YtjkjoihlpnahdaaPuShelf
/- Making a shelf, on what its functions compute. -/
namespace Go.AX
open Go.AM

theorem x_Clone (s : List Int) (h : s.length ≤ 1000000) : X.slices_Clone_Lint_int s = some s := by
  unfold X.slices_Clone_Lint_int
  refine nilU_same (fun hs => by subst hs; rfl) ?_
  rw [if_neg (by simp), need_is (by omega)]
  rfl

/-- Labels that a shelf takes. -/
def goodL (L : List Int) : Prop := ∀ k (h : k < L.length), 1 ≤ L[k] ∧ L[k] ∉ L.take k

theorem goodL.inv {L : List Int} (h : goodL L) (hs : L.length ≤ 1000000) {n : Int} (hn : n ≤ 1000000) : ShInv L (List.replicate L.length (-1)) (List.replicate n.toNat 0) := by
  refine ⟨by simp, hs, by simp; omega, fun i v hv => ?_, fun i j v hi hj => ?_, fun d v hv => ?_, fun i u hu => ?_⟩
  · obtain ⟨h1, rfl⟩ := List.getElem?_eq_some_iff.1 hv
    exact (h i h1).1
  · obtain ⟨h1, e1⟩ := List.getElem?_eq_some_iff.1 hi
    obtain ⟨h2, e2⟩ := List.getElem?_eq_some_iff.1 hj
    have half : ∀ (i j : Nat) (h1 : i < L.length) (h2 : j < L.length), L[i] = L[j] → ¬ i < j := by
      intro i j h1 h2 e hij
      apply (h j h2).2
      rw [← e]
      rw [List.mem_iff_getElem?]
      exact ⟨i, by rw [List.getElem?_take, if_pos hij, List.getElem?_eq_getElem h1]⟩
    have := half i j h1 h2 (by rw [e1, e2])
    have := half j i h2 h1 (by rw [e1, e2])
    omega
  · rw [List.getElem?_replicate] at hv
    split at hv
    · injection hv with hv; exact .inl hv.symm
    · cases hv
  · rw [List.getElem?_replicate] at hu
    split at hu
    · injection hu with hu; exact .inl hu.symm
    · cases hu

theorem slc_take (L : List Int) (n : Nat) : slc L 0 (n : Int) = L.take n := by simp [slc]

theorem x_s9 (L : List Int) (hs : L.length ≤ 1000000) : (goodL L → run (X.shelf_New_s9 L) (0 : Int) = some (.inl ())) ∧ (¬ goodL L → run (X.shelf_New_s9 L) (0 : Int) = some (.inr (none, (1 : Int)))) := by
  have step : ∀ n : Nat, n < L.length → (∀ k (h : k < L.length), k < n → 1 ≤ L[k] ∧ L[k] ∉ L.take k) →
      (X.shelf_New_s9 L (n : Int) = some (.inl ((n + 1 : Nat) : Int)) ∧ (∀ k (h : k < L.length), k < n + 1 → 1 ≤ L[k] ∧ L[k] ∉ L.take k)) ∨ (X.shelf_New_s9 L (n : Int) = some (.inr (.inr (none, (1 : Int)))) ∧ ¬ goodL L) := by
    intro n hn hp
    have hc : X.shelf_New_s9 L (n : Int) = if L[n] < 1 ∨ L[n] ∈ L.take n then some (.inr (.inr (none, (1 : Int)))) else some (.inl ((n + 1 : Nat) : Int)) := by
      unfold X.shelf_New_s9
      rw [if_pos (by simpa using hn), getI_nat hn]
      simp only [Option.bind_some]
      by_cases h1 : L[n] < 1
      · have : decide (L[n] < (1 : Int)) = true := by simpa using h1
        rw [this, if_pos (.inl h1)]
        simp
      · have : decide (L[n] < (1 : Int)) = false := by simpa using h1
        rw [this]
        simp only [Bool.not_false, optG_true, Bool.false_or]
        rw [need_is (by omega), slc_take, x_Contains _ _ (by simp; omega)]
        simp only [Option.bind_some]
        by_cases h2 : L[n] ∈ L.take n
        · rw [if_pos (by simpa using h2), if_pos (.inr h2)]
        · rw [if_neg (by simpa using h2), if_neg (by simp [h1, h2]), wr_succ (by omega)]
    by_cases hb : L[n] < 1 ∨ L[n] ∈ L.take n
    · right
      refine ⟨by rw [hc, if_pos hb], fun hg => ?_⟩
      have := hg n hn
      rcases hb with hb | hb
      · omega
      · exact this.2 hb
    · left
      refine ⟨by rw [hc, if_neg hb], fun k hk hkn => ?_⟩
      rcases Nat.lt_succ_iff_lt_or_eq.1 hkn with hkn | rfl
      · exact hp k hk hkn
      · exact ⟨by have := fun h => hb (.inl h); omega, fun h => hb (.inr h)⟩
  have last : X.shelf_New_s9 L (L.length : Int) = some (.inr (.inl ())) := by
    unfold X.shelf_New_s9
    rw [if_neg (by simp)]
  refine ⟨fun hg => ?_, fun hg => ?_⟩
  all_goals
    refine run_is _ (fun x : Int => ∃ n : Nat, x = (n : Int) ∧ n ≤ L.length ∧ ∀ k (h : k < L.length), k < n → 1 ≤ L[k] ∧ L[k] ∉ L.take k) (fun x : Int => L.length - x.toNat) ⟨0, rfl, by omega, fun k hk h => by omega⟩ (by omega) ?_
    rintro x ⟨n, rfl, hn, hp⟩
    by_cases h : n < L.length
    · rcases step n h hp with ⟨h1, h2⟩ | ⟨h1, h2⟩
      · exact .inl ⟨_, h1, ⟨n + 1, rfl, by omega, h2⟩, by omega⟩
      · first | exact absurd hg h2 | exact .inr h1
    · have : n = L.length := by omega
      subst this
      first | exact .inr last | exact absurd (fun k hk => hp k hk hk) hg

theorem y_s15 (L : List Int) (n : Int) (hs : L.length ≤ 1000000) : (goodL L → run (X.cartridgeref22_NewShelf_s15 L n) (([] : List Int), ([] : List Int), (0 : Int)) = some (.inl (L, List.replicate L.length (-1)))) ∧
    (¬ goodL L → run (X.cartridgeref22_NewShelf_s15 L n) (([] : List Int), ([] : List Int), (0 : Int)) = some (.inr (none, (1 : Int)))) := by
  have step : ∀ k : Nat, k < L.length → (∀ j (h : j < L.length), j < k → 1 ≤ L[j] ∧ L[j] ∉ L.take j) →
      (X.cartridgeref22_NewShelf_s15 L n (L.take k, List.replicate k (-1), (k : Int)) = some (.inl (L.take (k + 1), List.replicate (k + 1) (-1), ((k + 1 : Nat) : Int))) ∧ (∀ j (h : j < L.length), j < k + 1 → 1 ≤ L[j] ∧ L[j] ∉ L.take j)) ∨
      (X.cartridgeref22_NewShelf_s15 L n (L.take k, List.replicate k (-1), (k : Int)) = some (.inr (.inr (none, (1 : Int)))) ∧ ¬ goodL L) := by
    intro k hk hp
    have hc : X.cartridgeref22_NewShelf_s15 L n (L.take k, List.replicate k (-1), (k : Int)) = if L[k] < 1 ∨ L[k] ∈ L.take k then some (.inr (.inr (none, (1 : Int)))) else some (.inl (L.take (k + 1), List.replicate (k + 1) (-1), ((k + 1 : Nat) : Int))) := by
      unfold X.cartridgeref22_NewShelf_s15
      simp only
      rw [if_pos (by simpa using hk), getI_nat hk]
      simp only [Option.bind_some]
      by_cases h1 : L[k] < 1
      · have : decide (L[k] < (1 : Int)) = true := by simpa using h1
        rw [this, if_pos (.inl h1)]
        simp
      · have : decide (L[k] < (1 : Int)) = false := by simpa using h1
        rw [this]
        simp only [Bool.not_false, optG_true, Bool.false_or, Option.bind_some]
        rw [x_find _ _ _ _ (by simp; omega)]
        simp only [Option.bind_some]
        by_cases h2 : L[k] ∈ L.take k
        · rw [if_pos ?_, if_pos (.inr h2)]
          rw [mem_iff_fi] at h2
          cases hf : (L.take k).findIdx? (L[k] == ·) with
          | none => exact absurd hf h2
          | some m => simp only [ixOf]; exact decide_eq_true (by omega)
        · rw [if_neg ?_, if_neg (by simp [h1, h2]), need_is (by simp; omega), need_is (by simp; omega)]
          · simp only [Option.bind_some]
            rw [wr_succ (by omega), List.take_succ_eq_append_getElem hk, List.replicate_succ']
          · rw [fi_out h2]; simp [ixOf]
    by_cases hb : L[k] < 1 ∨ L[k] ∈ L.take k
    · right
      refine ⟨by rw [hc, if_pos hb], fun hg => ?_⟩
      have := hg k hk
      rcases hb with hb | hb
      · omega
      · exact this.2 hb
    · left
      refine ⟨by rw [hc, if_neg hb], fun j hj hjk => ?_⟩
      rcases Nat.lt_succ_iff_lt_or_eq.1 hjk with hjk | rfl
      · exact hp j hj hjk
      · exact ⟨by have := fun h => hb (.inl h); omega, fun h => hb (.inr h)⟩
  have last : X.cartridgeref22_NewShelf_s15 L n (L, List.replicate L.length (-1), (L.length : Int)) = some (.inr (.inl (L, List.replicate L.length (-1)))) := by
    unfold X.cartridgeref22_NewShelf_s15
    simp only
    rw [if_neg (by simp)]
  refine ⟨fun hg => ?_, fun hg => ?_⟩
  all_goals
    refine run_is _ (fun x : List Int × List Int × Int => ∃ k : Nat, x = (L.take k, List.replicate k (-1), (k : Int)) ∧ k ≤ L.length ∧ ∀ j (h : j < L.length), j < k → 1 ≤ L[j] ∧ L[j] ∉ L.take j) (fun x : List Int × List Int × Int => L.length - x.2.2.toNat)
      ⟨0, by simp, by omega, fun k hk h => by omega⟩ (by omega) ?_
    rintro x ⟨k, rfl, hk, hp⟩
    by_cases h : k < L.length
    · rcases step k h hp with ⟨h1, h2⟩ | ⟨h1, h2⟩
      · exact .inl ⟨_, h1, ⟨k + 1, rfl, by omega, h2⟩, by simp; omega⟩
      · first | exact absurd hg h2 | exact .inr h1
    · have : k = L.length := by omega
      subst this
      rw [List.take_length]
      first | exact .inr last | exact absurd (fun j hj => hp j hj hj) hg

/-- What a shelf is made of. -/
def okNew (L : List Int) (n : Int) : Prop := L.length ≤ 30 ∧ 1 ≤ n ∧ n ≤ 4 ∧ goodL L
theorem x_New_ok {L : List Int} {n : Int} (h : okNew L n) : X.shelf_New L n = some (some (L, List.replicate n.toNat 0), 0) := by
  obtain ⟨h1, h2, h3, h4⟩ := h
  unfold X.shelf_New
  rw [if_neg (by simp; omega), (x_s9 L (by omega)).1 h4]
  simp only [Option.bind_some]
  unfold X.shelf_New_e9
  rw [x_Clone L (by omega), need_is (by omega)]
  rfl
theorem x_New_no {L : List Int} {n : Int} (h : ¬ okNew L n) : X.shelf_New L n = some (none, 1) := by
  unfold X.shelf_New
  by_cases hc : L.length ≤ 30 ∧ 1 ≤ n ∧ n ≤ 4
  · rw [if_neg (by simp; omega), (x_s9 L (by omega)).2 (fun hg => h ⟨hc.1, hc.2.1, hc.2.2, hg⟩)]
    rfl
  · rw [if_pos (by simp; omega)]
theorem y_New_ok {L : List Int} {n : Int} (h : okNew L n) : X.cartridgeref22_NewShelf L n = some (some (L, List.replicate L.length (-1), List.replicate n.toNat 0), 0) := by
  obtain ⟨h1, h2, h3, h4⟩ := h
  unfold X.cartridgeref22_NewShelf
  rw [if_neg (by simp; omega), need_is (by omega)]
  simp only [Option.bind_some]
  rw [(y_s15 L n (by omega)).1 h4]
  rfl
theorem y_New_no {L : List Int} {n : Int} (h : ¬ okNew L n) : X.cartridgeref22_NewShelf L n = some (none, 1) := by
  unfold X.cartridgeref22_NewShelf
  by_cases hc : L.length ≤ 30 ∧ 1 ≤ n ∧ n ≤ 4
  · rw [if_neg (by simp; omega), need_is (by omega)]
    simp only [Option.bind_some]
    rw [(y_s15 L n (by omega)).2 (fun hg => h ⟨hc.1, hc.2.1, hc.2.2, hg⟩)]
    rfl
  · rw [if_pos (by simp; omega)]
theorem okNew.inv {L : List Int} {n : Int} (h : okNew L n) : ShInv L (List.replicate L.length (-1)) (List.replicate n.toNat 0) := h.2.2.2.inv (by have := h.1; omega) (by have := h.2.2.1; omega)

theorem x_num (e : Int) : X.cartridgelaw22_num e = some e := rfl
theorem x_shelfAlive : X.cartridgelaw22_alive = some true := by
  have hg : okNew [5] 1 := ⟨by simp, by omega, by omega, fun k h => by
    simp at h; subst h; simp⟩
  have hi := hg.inv
  unfold X.cartridgelaw22_alive
  rw [x_New_ok hg]
  simp only [Option.bind_some, x_num, bne_self_eq_false, Bool.or_false, Bool.false_eq_true, if_false]
  rw [x_Slot hi, x_Move hi]
  simp only [Option.bind_some, x_Mounted]
  rw [x_Slot (mov_inv hi 5 0)]
  rfl
end Go.AX
