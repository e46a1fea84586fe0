import Derived.Test.YtjkjoihlpnahdaaPuIndex
/- The laws of the shelf, on what its functions compute. -/
namespace Go.AX
open Go.AM

theorem fi_none {s : List Int} {v : Int} (h : s.findIdx? (v == ·) = none) : v ∉ s := fun hv => by
  rw [List.findIdx?_eq_none_iff] at h
  have := h v hv
  simp at this
theorem fi_some {s : List Int} {v : Int} {n : Nat} (h : s.findIdx? (v == ·) = some n) : s[n]? = some v := by
  rw [List.findIdx?_eq_some_iff_getElem] at h
  obtain ⟨h1, h2, _⟩ := h
  rw [List.getElem?_eq_getElem h1]
  have : v = s[n] := by simpa using h2
  rw [this]
theorem fi_eq {s : List Int} {v : Int} {n : Nat} (h : s[n]? = some v) (hu : ∀ m, s[m]? = some v → m = n) : s.findIdx? (v == ·) = some n := by
  cases hf : s.findIdx? (v == ·) with
  | none => exact absurd (List.mem_of_getElem? h) (fi_none hf)
  | some m => rw [hu m (fi_some hf)]
theorem fi_out {s : List Int} {v : Int} (h : v ∉ s) : s.findIdx? (v == ·) = none := by
  cases hf : s.findIdx? (v == ·) with
  | none => rfl
  | some m => exact absurd (List.mem_of_getElem? (fi_some hf)) h

theorem x_find (L I D : List Int) (v : Int) (hs : L.length ≤ 1000000) : X.cartridgeref22_Shelf_find L I D v = some (ixOf (L.findIdx? (v == ·))) := by
  unfold X.cartridgeref22_Shelf_find
  have key : run (X.cartridgeref22_Shelf_find_s8 L v) (0 : Int) = some (match L.findIdx? (v == ·) with | some i => .inr (i : Int) | none => .inl ()) := by
    refine run_is _ (fun x : Int => ∃ n : Nat, x = (n : Int) ∧ n ≤ L.length ∧ ∀ j (hj : j < L.length), j < n → (v == L[j]) = false) (fun x : Int => L.length - x.toNat) ⟨0, rfl, by omega, fun j hj h => by omega⟩ (by omega) ?_
    rintro x ⟨n, rfl, hn, hp⟩
    unfold X.cartridgeref22_Shelf_find_s8
    by_cases h : n < L.length
    · rw [if_pos (by simpa using h), getI_nat h]
      simp only [Option.bind_some]
      have hc : (L[n] == v) = (v == L[n]) := by rw [Bool.eq_iff_iff, beq_iff_eq, beq_iff_eq]; exact eq_comm
      rw [hc]
      cases hq : (v == L[n]) with
      | true =>
        right
        have : L.findIdx? (v == ·) = some n := by
          rw [List.findIdx?_eq_some_iff_getElem]
          exact ⟨h, hq, fun j hj => by simpa using hp j (by omega) hj⟩
        simp [this]
      | false =>
        left
        refine ⟨((n + 1 : Nat) : Int), by simp [wr_succ (n := n) (by omega)], ⟨n + 1, rfl, by omega, fun j hj h => ?_⟩, by omega⟩
        rcases Nat.lt_succ_iff_lt_or_eq.1 h with h | rfl
        · exact hp j hj h
        · exact hq
    · rw [if_neg (by simpa using h)]
      right
      have : L.findIdx? (v == ·) = none := by
        rw [List.findIdx?_eq_none_iff]
        intro x hx
        obtain ⟨j, hj, rfl⟩ := List.getElem_of_mem hx
        exact hp j hj (by omega)
      simp [this]
  rw [key]
  cases L.findIdx? (v == ·) <;> simp [ixOf, X.cartridgeref22_Shelf_find_e8]

/-- Labels, where each stands, what each drive holds. -/
structure ShInv (L I D : List Int) : Prop where
  len : I.length = L.length
  small : L.length ≤ 1000000
  dsmall : D.length ≤ 1000000
  pos : ∀ (i : Nat) (v : Int), L[i]? = some v → 1 ≤ v
  inj : ∀ (i j : Nat) (v : Int), L[i]? = some v → L[j]? = some v → i = j
  dr : ∀ (d : Nat) (v : Int), D[d]? = some v → v = 0 ∨ ∃ i : Nat, L[i]? = some v ∧ I[i]? = some (d : Int)
  at_ : ∀ (i : Nat) (u : Int), I[i]? = some u → u = -1 ∨ ∃ d : Nat, u = (d : Int) ∧ ∃ v, D[d]? = some v ∧ L[i]? = some v

theorem ShInv.fi {L I D : List Int} (h : ShInv L I D) {n : Nat} {v : Int} (hn : L[n]? = some v) : L.findIdx? (v == ·) = some n := fi_eq hn fun m hm => h.inj m n v hm hn
theorem ShInv.ix {L I D : List Int} (h : ShInv L I D) {n : Nat} {v : Int} (hn : L[n]? = some v) : ∃ u, I[n]? = some u ∧ D.findIdx? (v == ·) = (if u = -1 then none else some u.toNat) ∧ (u = -1 ∨ 0 ≤ u) := by
  have hlt : n < I.length := by rw [h.len]; exact (List.getElem?_eq_some_iff.1 hn).1
  refine ⟨I[n], List.getElem?_eq_getElem hlt, ?_, ?_⟩
  · rcases h.at_ n _ (List.getElem?_eq_getElem hlt) with hu | ⟨d, hu, w, hd, hw⟩
    · rw [if_pos hu]
      apply fi_out
      intro hm
      obtain ⟨d, hd, hd2⟩ := List.getElem_of_mem hm
      rcases h.dr d v (by rw [List.getElem?_eq_getElem hd, hd2]) with h0 | ⟨i, hi1, hi2⟩
      · have := h.pos n v hn; omega
      · obtain rfl := h.inj i n v hi1 hn
        rw [List.getElem?_eq_getElem hlt, hu] at hi2
        simp at hi2
    · rw [hn] at hw
      injection hw with hw
      subst hw
      rw [if_neg (by omega)]
      have : D.findIdx? (v == ·) = some d := by
        refine fi_eq hd fun m hm => ?_
        rcases h.dr m v hm with h0 | ⟨i, hi1, hi2⟩
        · have := h.pos n v hn; omega
        · obtain rfl := h.inj i n v hi1 hn
          rw [List.getElem?_eq_getElem hlt, hu] at hi2
          simp at hi2
          omega
      rw [this, hu]
      simp
  · rcases h.at_ n _ (List.getElem?_eq_getElem hlt) with hu | ⟨d, hu, _⟩
    · exact .inl hu
    · right; omega

def drv (L I : List Int) (v : Int) : Int := match L.findIdx? (v == ·) with
  | none => -1
  | some n => I.getD n (-1)
def slt (L I : List Int) (v : Int) : Int := match L.findIdx? (v == ·) with
  | none => -1
  | some n => if 0 ≤ I.getD n (-1) then -1 else n
def mnt (D : List Int) (d : Int) : Int := if 0 ≤ d ∧ d < D.length then D.getD d.toNat 0 else 0
def mov (L I D : List Int) (v d : Int) : Int × List Int × List Int := match L.findIdx? (v == ·) with
  | none => (1, I, D)
  | some n => if 0 ≤ d ∧ d < D.length then (if 0 ≤ I.getD n (-1) ∨ D.getD d.toNat 0 ≠ 0 then (11, I, D) else (0, I.set n d, D.set d.toNat v)) else (1, I, D)
def bck (L I D : List Int) (d : Int) : Int × List Int × List Int := if 0 ≤ d ∧ d < D.length then (if D.getD d.toNat 0 = 0 then (11, I, D) else match L.findIdx? (D.getD d.toNat 0 == ·) with
  | none => (1, I, D)
  | some n => (0, I.set n (-1), D.set d.toNat 0)) else (1, I, D)

section
variable {L I D : List Int}
theorem mem_iff_fi (L : List Int) (v : Int) : v ∈ L ↔ L.findIdx? (v == ·) ≠ none := by
  constructor
  · intro h hn; exact fi_none hn h
  · intro h
    cases hf : L.findIdx? (v == ·) with
    | none => exact absurd hf h
    | some n => exact List.mem_of_getElem? (fi_some hf)
theorem x_is (h : ShInv L I D) (v : Int) : X.shelf_Shelf_is L D v = some (decide (v ∈ L)) := by
  unfold X.shelf_Shelf_is
  rw [x_Contains L v (by have := h.small; omega)]
  rfl
theorem x_Drive (h : ShInv L I D) (v : Int) : X.shelf_Shelf_Drive L D v = some (drv L I v) := by
  unfold X.shelf_Shelf_Drive drv
  rw [x_is h]
  simp only [Option.bind_some]
  cases hf : L.findIdx? (v == ·) with
  | none =>
    rw [if_pos (by simpa using fi_none hf)]
  | some n =>
    rw [if_neg (by simpa using List.mem_of_getElem? (fi_some hf)), x_Index D v (by have := h.dsmall; omega)]
    obtain ⟨u, h1, h2, h3⟩ := h.ix (fi_some hf)
    simp only [Option.bind_some, Option.some.injEq]
    rw [h2, List.getD_eq_getElem?_getD, h1]
    simp only [Option.getD_some]
    by_cases hu : u = -1
    · rw [if_pos hu, hu]; rfl
    · rw [if_neg hu]; simp only [ixOf]; omega
theorem x_Slot (h : ShInv L I D) (v : Int) : X.shelf_Shelf_Slot L D v = some (slt L I v) := by
  unfold X.shelf_Shelf_Slot slt
  rw [x_is h, x_Drive h]
  simp only [Option.bind_some]
  cases hf : L.findIdx? (v == ·) with
  | none =>
    have : decide (v ∈ L) = false := by simpa using fi_none hf
    rw [this]
    simp
  | some n =>
    have hm : decide (v ∈ L) = true := by simpa using List.mem_of_getElem? (fi_some hf)
    rw [hm]
    obtain ⟨u, h1, h2, h3⟩ := h.ix (fi_some hf)
    have hd : drv L I v = u := by unfold drv; rw [hf]; simp [List.getD_eq_getElem?_getD, h1]
    have hg : I.getD n (-1) = u := by simp [List.getD_eq_getElem?_getD, h1]
    simp only [Bool.not_true, Bool.not_false, optG_true, Option.bind_some, Bool.false_or, hd, hg]
    rcases h3 with h3 | h3
    · rw [if_neg (by simp [h3]), if_neg (by omega), x_Index L v (by have := h.small; omega), hf]
      rfl
    · rw [if_pos (by simp; omega), if_pos h3]
theorem x_drive (d : Int) : X.shelf_Shelf_drive L D d = some (decide (0 ≤ d ∧ d < D.length)) := by
  unfold X.shelf_Shelf_drive
  simp only [Option.some.injEq]
  rw [Bool.eq_iff_iff]
  simp
theorem x_Mounted (d : Int) : X.shelf_Shelf_Mounted L D d = some (mnt D d) := by
  unfold X.shelf_Shelf_Mounted mnt
  rw [x_drive]
  simp only [Option.bind_some]
  by_cases hd : 0 ≤ d ∧ d < D.length
  · rw [if_neg (by simpa using hd), if_pos hd, getI_some hd.1 hd.2]
    simp [List.getD_eq_getElem?_getD, List.getElem?_eq_getElem (show d.toNat < D.length by omega)]
  · rw [if_pos (by simp; omega), if_neg hd]
theorem getD_at {D : List Int} {d : Int} (hd : 0 ≤ d ∧ d < D.length) : getI D d = some (D.getD d.toNat 0) := by
  rw [getI_some hd.1 hd.2]
  simp [List.getD_eq_getElem?_getD, List.getElem?_eq_getElem (show d.toNat < D.length by omega)]
theorem x_Move (h : ShInv L I D) (v d : Int) : X.shelf_Shelf_Move v d L D = some ((mov L I D v d).1, (L, (mov L I D v d).2.2)) := by
  unfold X.shelf_Shelf_Move mov
  rw [x_is h, x_drive, x_Drive h]
  simp only [Option.bind_some]
  cases hf : L.findIdx? (v == ·) with
  | none =>
    have : decide (v ∈ L) = false := by simpa using fi_none hf
    rw [this]
    simp
  | some n =>
    have hm : decide (v ∈ L) = true := by simpa using List.mem_of_getElem? (fi_some hf)
    rw [hm]
    obtain ⟨u, h1, h2, h3⟩ := h.ix (fi_some hf)
    have hd : drv L I v = u := by unfold drv; rw [hf]; simp [List.getD_eq_getElem?_getD, h1]
    have hg : I.getD n (-1) = u := by simp [List.getD_eq_getElem?_getD, h1]
    simp only [Bool.not_true, Bool.not_false, optG_true, Option.bind_some, Bool.false_or, hd, hg]
    by_cases hr : 0 ≤ d ∧ d < D.length
    · rw [if_neg (by simpa using hr), if_pos hr, getD_at hr]
      rcases h3 with h3 | h3
      · subst h3
        simp only [bne_self_eq_false, Bool.not_false, optG_true, Option.bind_some, Bool.false_or]
        by_cases h0 : D.getD d.toNat 0 = 0
        · rw [if_neg (by simp only [h0]; simp), if_neg (by simp only [h0]; omega)]
        · rw [if_pos (by simpa using h0), if_pos (.inr h0)]
      · have : (u != (-1 : Int)) = true := by simp; omega
        rw [this]
        simp only [Bool.not_true, optG_false, Option.bind_some, Bool.true_or, if_true]
        rw [if_pos (.inl h3)]
    · rw [if_pos (by simp; omega), if_neg hr]
theorem x_Back (d : Int) (h : ShInv L I D) : X.shelf_Shelf_Back d L D = some ((bck L I D d).1, (L, (bck L I D d).2.2)) := by
  unfold X.shelf_Shelf_Back bck
  rw [x_drive]
  simp only [Option.bind_some]
  by_cases hr : 0 ≤ d ∧ d < D.length
  · rw [if_neg (by simpa using hr), if_pos hr, getD_at hr]
    simp only [Option.bind_some]
    by_cases h0 : D.getD d.toNat 0 = 0
    · rw [if_pos (by simpa using h0), if_pos h0]
    · rw [if_neg (by simpa using h0), if_neg h0]
      have hd : D[d.toNat]? = some (D.getD d.toNat 0) := by
        simp [List.getD_eq_getElem?_getD, List.getElem?_eq_getElem (show d.toNat < D.length by omega)]
      rcases h.dr _ _ hd with h1 | ⟨i, hi, _⟩
      · exact absurd h1 h0
      · rw [h.fi hi]
  · rw [if_pos (by simp; omega), if_neg hr]

theorem y_Drive (h : ShInv L I D) (v : Int) : X.cartridgeref22_Shelf_Drive L I D v = some (drv L I v) := by
  unfold X.cartridgeref22_Shelf_Drive drv
  rw [x_find L I D v h.small]
  simp only [Option.bind_some]
  cases hf : L.findIdx? (v == ·) with
  | none => rfl
  | some n =>
    obtain ⟨u, h1, _⟩ := h.ix (fi_some hf)
    have hn : decide ((ixOf (some n)) < (0 : Int)) = false := decide_eq_false (by simp only [ixOf]; omega)
    have hg : getI I (ixOf (some n)) = some u := by simp [ixOf, getI, h1]
    simp only [hn, hg, Option.bind_some]
    simp [h1, List.getD_eq_getElem?_getD]
theorem y_Slot (h : ShInv L I D) (v : Int) : X.cartridgeref22_Shelf_Slot L I D v = some (slt L I v) := by
  unfold X.cartridgeref22_Shelf_Slot slt
  rw [x_find L I D v h.small]
  simp only [Option.bind_some]
  cases hf : L.findIdx? (v == ·) with
  | none => rfl
  | some n =>
    obtain ⟨u, h1, _⟩ := h.ix (fi_some hf)
    have hn : decide ((ixOf (some n)) < (0 : Int)) = false := decide_eq_false (by simp only [ixOf]; omega)
    have hg : getI I (ixOf (some n)) = some u := by simp [ixOf, getI, h1]
    simp only [hn, hg, Bool.not_false, optG_true, Option.bind_some, Bool.false_or]
    simp only [List.getD_eq_getElem?_getD, h1, Option.getD_some, ixOf]
    by_cases hu : 0 ≤ u
    · rw [if_pos (by simpa using hu), if_pos hu]
    · rw [if_neg (by simpa using hu), if_neg hu]
theorem y_Mounted (d : Int) : X.cartridgeref22_Shelf_Mounted L I D d = some (mnt D d) := by
  unfold X.cartridgeref22_Shelf_Mounted mnt
  by_cases hd : 0 ≤ d ∧ d < D.length
  · rw [if_neg (by simp; omega), if_pos hd, getD_at hd]
    rfl
  · rw [if_pos (by simp; omega), if_neg hd]
theorem y_Move (h : ShInv L I D) (v d : Int) : X.cartridgeref22_Shelf_Move v d L I D = some ((mov L I D v d).1, (L, (mov L I D v d).2.1, (mov L I D v d).2.2)) := by
  unfold X.cartridgeref22_Shelf_Move mov
  rw [x_find L I D v h.small]
  simp only [Option.bind_some]
  cases hf : L.findIdx? (v == ·) with
  | none => simp [ixOf]
  | some n =>
    obtain ⟨u, h1, _⟩ := h.ix (fi_some hf)
    have hn : decide ((ixOf (some n)) < (0 : Int)) = false := decide_eq_false (by simp only [ixOf]; omega)
    have hg : getI I (ixOf (some n)) = some u := by simp [ixOf, getI, h1]
    simp only [hn, hg, Option.bind_some, Bool.false_or, List.getD_eq_getElem?_getD, h1, Option.getD_some]
    by_cases hr : 0 ≤ d ∧ d < D.length
    · rw [if_neg (by simp; omega), if_pos hr, getD_at hr]
      simp only [← List.getD_eq_getElem?_getD]
      by_cases hu : 0 ≤ u
      · have : decide (u ≥ (0 : Int)) = true := by simpa using hu
        rw [this]
        simp only [Bool.not_true, optG_false, Option.bind_some, Bool.true_or, if_true]
        rw [if_pos (.inl hu)]
      · have : decide (u ≥ (0 : Int)) = false := by simpa using hu
        rw [this]
        simp only [Bool.not_false, optG_true, Option.bind_some, Bool.false_or]
        by_cases h0 : D.getD d.toNat 0 = 0
        · rw [if_neg (by simp only [h0]; simp), if_neg (by simp only [h0]; omega)]
          simp [ixOf]
        · rw [if_pos (by simpa using h0), if_pos (.inr h0)]
    · rw [if_pos (by simp; omega), if_neg hr]
theorem y_Back (d : Int) (h : ShInv L I D) : X.cartridgeref22_Shelf_Back d L I D = some ((bck L I D d).1, (L, (bck L I D d).2.1, (bck L I D d).2.2)) := by
  unfold X.cartridgeref22_Shelf_Back bck
  by_cases hr : 0 ≤ d ∧ d < D.length
  · rw [if_neg (by simp; omega), if_pos hr, getD_at hr]
    simp only [Option.bind_some]
    by_cases h0 : D.getD d.toNat 0 = 0
    · rw [if_pos (by simpa using h0), if_pos h0]
    · rw [if_neg (by simpa using h0), if_neg h0, x_find L I D _ h.small]
      have hd : D[d.toNat]? = some (D.getD d.toNat 0) := by
        simp [List.getD_eq_getElem?_getD, List.getElem?_eq_getElem (show d.toNat < D.length by omega)]
      rcases h.dr _ _ hd with h1 | ⟨i, hi, hii⟩
      · exact absurd h1 h0
      · rw [h.fi hi]
        simp [ixOf, getI, hii]
  · rw [if_pos (by simp; omega), if_neg hr]

theorem mov_inv (h : ShInv L I D) (v d : Int) : ShInv L (mov L I D v d).2.1 (mov L I D v d).2.2 := by
  unfold mov
  cases hf : L.findIdx? (v == ·) with
  | none => exact h
  | some n =>
    simp only
    obtain ⟨u, h1, _⟩ := h.ix (fi_some hf)
    have hn := fi_some hf
    simp only [List.getD_eq_getElem?_getD, h1, Option.getD_some]
    by_cases hr : 0 ≤ d ∧ d < D.length
    · rw [if_pos hr]
      by_cases hc : 0 ≤ u ∨ (D[d.toNat]?).getD 0 ≠ 0
      · rw [if_pos hc]; exact h
      · rw [if_neg hc]
        obtain ⟨hu, hd0⟩ := not_or.1 hc
        have hdl : d.toNat < D.length := by omega
        rw [List.getElem?_eq_getElem hdl] at hd0
        simp only [Option.getD_some, ne_eq, Classical.not_not] at hd0
        have hnl : n < I.length := (List.getElem?_eq_some_iff.1 h1).1
        refine ⟨by simp [h.len], h.small, by simpa using h.dsmall, h.pos, h.inj, fun d' w hw => ?_, fun i w hw => ?_⟩
        · rw [List.getElem?_set] at hw
          by_cases e : d.toNat = d'
          · rw [if_pos e, if_pos hdl] at hw
            injection hw with hw
            subst hw
            refine .inr ⟨n, hn, ?_⟩
            rw [List.getElem?_set, if_pos rfl, if_pos hnl]
            congr 1
            omega
          · rw [if_neg e] at hw
            rcases h.dr d' w hw with h0 | ⟨i, hi1, hi2⟩
            · exact .inl h0
            · refine .inr ⟨i, hi1, ?_⟩
              rw [List.getElem?_set, if_neg ?_]
              · exact hi2
              · rintro rfl
                rw [h1] at hi2
                injection hi2 with hi2
                omega
        · rw [List.getElem?_set] at hw
          by_cases e : n = i
          · subst e
            rw [if_pos rfl, if_pos hnl] at hw
            injection hw with hw
            subst hw
            refine .inr ⟨d.toNat, by omega, v, ?_, hn⟩
            rw [List.getElem?_set, if_pos rfl, if_pos hdl]
          · rw [if_neg e] at hw
            rcases h.at_ i w hw with h0 | ⟨d', hd', x, hx1, hx2⟩
            · exact .inl h0
            · refine .inr ⟨d', hd', x, ?_, hx2⟩
              rw [List.getElem?_set, if_neg ?_]
              · exact hx1
              · rintro rfl
                rw [List.getElem?_eq_getElem hdl, hd0] at hx1
                injection hx1 with hx1
                have := h.pos i x hx2
                omega
    · rw [if_neg hr]; exact h
theorem bck_inv (h : ShInv L I D) (d : Int) : ShInv L (bck L I D d).2.1 (bck L I D d).2.2 := by
  unfold bck
  by_cases hr : 0 ≤ d ∧ d < D.length
  · rw [if_pos hr]
    by_cases h0 : D.getD d.toNat 0 = 0
    · rw [if_pos h0]; exact h
    · rw [if_neg h0]
      have hdl : d.toNat < D.length := by omega
      have hd : D[d.toNat]? = some (D.getD d.toNat 0) := by
        simp [List.getD_eq_getElem?_getD, List.getElem?_eq_getElem hdl]
      rcases h.dr _ _ hd with h1 | ⟨n, hn, hni⟩
      · exact absurd h1 h0
      · rw [h.fi hn]
        have hnl : n < I.length := (List.getElem?_eq_some_iff.1 hni).1
        refine ⟨by simp [h.len], h.small, by simpa using h.dsmall, h.pos, h.inj, fun d' w hw => ?_, fun i w hw => ?_⟩
        · simp only at hw ⊢
          rw [List.getElem?_set] at hw
          by_cases e : d.toNat = d'
          · rw [if_pos e, if_pos hdl] at hw
            injection hw with hw
            exact .inl hw.symm
          · rw [if_neg e] at hw
            rcases h.dr d' w hw with h2 | ⟨i, hi1, hi2⟩
            · exact .inl h2
            · refine .inr ⟨i, hi1, ?_⟩
              rw [List.getElem?_set, if_neg ?_]
              · exact hi2
              · rintro rfl
                rw [hni] at hi2
                injection hi2 with hi2
                omega
        · simp only at hw ⊢
          rw [List.getElem?_set] at hw
          by_cases e : n = i
          · rw [if_pos e, if_pos hnl] at hw
            injection hw with hw
            exact .inl hw.symm
          · rw [if_neg e] at hw
            rcases h.at_ i w hw with h2 | ⟨d', hd', x, hx1, hx2⟩
            · exact .inl h2
            · refine .inr ⟨d', hd', x, ?_, hx2⟩
              rw [List.getElem?_set, if_neg ?_]
              · exact hx1
              · rintro rfl
                rw [hd] at hx1
                injection hx1 with hx1
                rw [hx1] at hn
                exact e (h.inj n i x hn hx2)
  · rw [if_neg hr]; exact h
end
end Go.AX
