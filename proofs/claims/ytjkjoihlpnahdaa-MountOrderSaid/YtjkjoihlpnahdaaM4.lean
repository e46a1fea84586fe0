import Derived.Test.YtjkjoihlpnahdaaM3
/- The law on the order of labels, for every row of labels. -/
namespace Go.Proofs.Ytjkjoihlpnahdaa
open Go.AM

theorem mixed : Try.prog.follows .mixedOrders = true := by kernel_rfl

def and7 (a : Int) : Int := bitsI .and .i64 a 7
theorem and7_def (a : Int) : bitsI .and .i64 a 7 = and7 a := rfl

/-- Who waits still behind i rounds. -/
def left (ws : List Int) (i : Nat) : List Int := ws.filter fun w => !(ws.take i).contains w

theorem left_zero (ws : List Int) : left ws 0 = ws := by simp [left]
theorem left_all (ws : List Int) : left ws ws.length = [] := by
  simp [left]

theorem left_same {ws : List Int} {i : Nat} (hi : i < ws.length) (h : ws[i] ∈ ws.take i) : left ws (i + 1) = left ws i := by
  unfold left
  apply List.filter_congr
  intro x hx
  have e : ws.take (i + 1) = ws.take i ++ [ws[i]] := (List.take_append_getElem hi).symm
  simp only [e, List.contains_eq_mem, List.mem_append, List.mem_singleton]
  by_cases hxi : x = ws[i]
  · rw [hxi]; simp [h]
  · simp [hxi]

theorem left_next {ws : List Int} {i : Nat} (hi : i < ws.length) : left ws (i + 1) = (left ws i).filter fun x => !(x == ws[i]) := by
  unfold left
  rw [List.filter_filter]
  apply List.filter_congr
  intro x hx
  have e : ws.take (i + 1) = ws.take i ++ [ws[i]] := (List.take_append_getElem hi).symm
  simp only [e, List.contains_eq_mem, List.mem_append, List.mem_singleton]
  by_cases hxi : x = ws[i]
  · simp [hxi]
  · simp [hxi]

theorem left_head {ws : List Int} {i : Nat} (hi : i < ws.length) (h : ws[i] ∉ ws.take i) : ∃ r, left ws i = ws[i] :: r := by
  have e : ws = ws.take i ++ ws[i] :: ws.drop (i + 1) := by
    rw [← List.drop_eq_getElem_cons hi, List.take_append_drop]
  refine ⟨(ws.drop (i + 1)).filter fun w => !(ws.take i).contains w, ?_⟩
  unfold left
  conv => lhs; arg 2; rw [e]
  rw [List.filter_append, List.filter_cons_of_pos (by simpa using h)]
  have : (ws.take i).filter (fun w => !(ws.take i).contains w) = [] := by
    rw [List.filter_eq_nil_iff]
    intro a ha
    simp [ha]
  rw [this]
  rfl

theorem left_count {ws : List Int} {i : Nat} (hi : i < ws.length) (h : ws[i] ∉ ws.take i) : (left ws i).length - (left ws (i + 1)).length = (ws.filter fun x => x == ws[i]).length := by
  rw [left_next hi]
  have h1 : ∀ (l : List Int) (p : Int → Bool), l.length = (l.filter p).length + (l.filter fun x => !p x).length := by
    intro l p
    induction l with
    | nil => rfl
    | cons x l ih => by_cases hp : p x = true <;> simp [hp] <;> omega
  have h2 := h1 (left ws i) (· == ws[i])
  have h3 : (left ws i).filter (· == ws[i]) = ws.filter (· == ws[i]) := by
    unfold left
    rw [List.filter_filter]
    apply List.filter_congr
    intro x hx
    by_cases hxw : x = ws[i]
    · subst hxw; simpa using h
    · simp [hxw]
  rw [h3] at h2
  omega

theorem idxF_gone (w : Int) : ∀ (l : List Int) (i : Nat), idxF (· == w) (l.filter fun x => !(x == w)) i = -1
  | [], _ => rfl
  | x :: l, i => by
    by_cases hx : x = w
    · simp [hx, idxF_gone w l i]
    · have : (x == w) = false := by simpa using hx
      simp [this, idxF, idxF_gone w l (i + 1)]

set_option maxRecDepth 100000 in
theorem order_ok (l : List Int) : Fun Try.prog 5 [VS 1 (encI .i64) l] (· = .bool true) := by
  refine Fun.of b5 (by simp) (by simp) ?_
  unfold k5
  refine TK.run (C := cx) fun K hK => ?_
  simp
  refine hK _ _ ?_
  clear hK K
  refine TK.run (C := cx) fun K hK => ?_
  simp
  refine TL.callv rfl rfl (by simp) rfl (by simp) (fun _ => aliveM_ok) (RQ.ok (C := cx) _ _ ?_)
  simp
  refine hK _ _ ?_
  clear hK K
  refine TK.seq_k fun K hK => ?_
  refine TK.run (C := cx) fun K1 hK1 => ?_
  simp
  refine hK1 _ _ ?_
  clear hK1 K1
  refine TK.cond rfl (fun hb => ?_) (fun hb => TK.skip ?_)
  · refine TK.run (C := cx) fun K1 hK1 => ?_
    simp
    refine hK1 _ _ ?_
    clear hK1 K1
    refine TK.ret ?_
    simp
  have hlen : l.length ≤ 100 := by simp at hb; omega
  clear hb
  refine hK _ _ ?_
  clear hK K
  refine TK.run (C := cx) fun K hK => ?_
  simp
  refine TL.box rfl rfl (by simp) rfl rfl trivial fun b _ => RQ.ok (C := cx) _ _ ?_
  simp
  refine hK _ _ ?_
  clear hK K
  refine TK.ownH b 0 3 1 (rowL 1 (encI .i64) []) (r := ⟨37, 1, ofL [.nils]⟩) (by simp) (.inl rfl) (fun b' => ofL [.rs b' 0 0 0 1]) (fun b' => ⟨rfl, fun i hi hi2 => by simp at hi2; omega⟩) fun b2 hb2 => ?_
  have hne : ¬ b = b2 := by rintro rfl; simp at hb2
  have hne' : ¬ b2 = b := fun e => hne e.symm
  have L0 : LineAt [(b2, ⟨3, 0, rowL 1 (encI .i64) []⟩), (b, ⟨37, 1, ofL [.rs b2 0 0 0 1]⟩)] b b2 [] := ⟨hne', by simp [hne'], by simp⟩
  simp
  generalize [(b2, (⟨3, 0, rowL 1 (encI .i64) []⟩ : Row)), (b, ⟨37, 1, ofL [.rs b2 0 0 0 1]⟩)] = h0 at L0
  refine TK.seq_k fun K hK => ?_
  refine TK.seq_k fun K1 hK1 => ?_
  refine TK.run1 (C := cx) fun K2 hK2 => ?_
  simp
  refine hK2 _ _ ?_
  refine hK1 _ _ ?_
  clear hK2 K2 hK1 K1
  refine TK.block ?_
  refine TK.loopE [0, 4, 5] (σ := Nat) (fun i env h => env = [(0, true, VS 1 (encI .i64) l), (4, true, .ref b 0 1), (5, true, .int .i64 i)] ∧ LineAt h b b2 ((l.map and7).take i) ∧ i ≤ l.length) (fun i => l.length - i) 0 ?_ ?_
  · simpa using L0
  · rintro i env h ⟨rfl, L, hi⟩
    refine TK.seq_k fun K1 hK1 => ?_
    refine TK.run (C := cx) fun K2 hK2 => ?_
    simp
    refine hK2 _ _ ?_
    clear hK2 K2
    refine TK.cond rfl (fun hb => TK.skip ?_) (fun hb => TK.exit ?_)
    · have hlt : i < l.length := by simpa using hb
      refine hK1 _ _ ?_
      clear hK1 K1
      refine TK.seq_k fun K1 hK1 => TK.block ?_
      refine TK.run1 (C := cx) fun K2 hK2 => ?_
      simp [rowI, hlt, and7_def]
      repeat (refine ⟨by omega, ?_⟩)
      have hA := add_ok L (and7 l[i]) (by simp; omega)
      refine TL.tc rfl rfl (by simp) rfl (by simp) hA fun r h' hr => RQ.ok (C := cx) _ _ ?_
      have L' := hr.1
      simp
      refine hK2 _ _ ?_
      clear hK2 K2
      simp
      refine hK1 _ _ ?_
      clear hK1 K1
      refine TK.run1 (C := cx) fun K1 hK1 => ?_
      simp
      rw [w64 (by omega) (by omega)]
      refine hK1 _ _ ?_
      clear hK1 K1
      refine ⟨i + 1, ⟨by simp, ?_, by omega⟩, by omega⟩
      have e2 : (l.map and7).take i ++ [and7 l[i]] = (l.map and7).take (i + 1) := by
        rw [List.take_add_one]
        simp [hlt]
      rw [← e2]
      exact L'
    · have hi' : i = l.length := by have : ¬ i < l.length := by simpa using hb
                                    omega
      subst hi'
      simp
      refine hK _ _ ?_
      clear hK1 K1 hK K
      have e : (l.map and7).take l.length = l.map and7 := List.take_of_length_le (by simp)
      rw [e] at L
      clear e hi hb L0 hb2 hne hne'
      generalize hws : l.map and7 = ws at L
      have hwl : ws.length = l.length := by rw [← hws]; simp
      refine TK.seq_k fun K hK => ?_
      refine TK.seq_k fun K1 hK1 => ?_
      refine TK.run1 (C := cx) fun K2 hK2 => ?_
      simp
      refine hK2 _ _ ?_
      refine hK1 _ _ ?_
      clear hK2 K2 hK1 K1
      refine TK.block ?_
      refine TK.loopE [0, 4, 6] (σ := Nat × Nat) (fun s env h => env = [(0, true, VS 1 (encI .i64) l), (4, true, .ref b 0 1), (6, true, .int .i64 s.1)] ∧ LineAt h b s.2 (left ws s.1) ∧ s.1 ≤ l.length) (fun s => l.length - s.1) (0, b2) ?_ ?_
      · simp [left_zero]
        exact L
      · clear L h
        rintro ⟨i, c2⟩ env h ⟨rfl, L, hi⟩
        simp only at L hi
        refine TK.seq_k fun K1 hK1 => ?_
        refine TK.run (C := cx) fun K2 hK2 => ?_
        simp
        refine hK2 _ _ ?_
        clear hK2 K2
        refine TK.cond rfl (fun hb => TK.skip ?_) (fun hb => TK.exit ?_)
        · have hlt : i < l.length := by simpa using hb
          have hltw : i < ws.length := by omega
          have hw : ws[i] = and7 l[i] := by simp [← hws]
          refine hK1 _ _ ?_
          clear hK1 K1
          refine TK.seq_k fun K1 hK1 => TK.block ?_
          refine TK.run (C := cx) fun K2 hK2 => ?_
          simp
          refine hK2 _ _ ?_
          clear hK2 K2
          refine TK.run (C := cx) fun K2 hK2 => ?_
          simp
          refine hK2 _ _ ?_
          clear hK2 K2
          refine TK.seq_k fun K2 hK2 => ?_
          refine TK.run (C := cx) fun K3 hK3 => ?_
          simp
          refine hK3 _ _ ?_
          clear hK3 K3
          refine TK.block ?_
          refine TK.loopE [0, 4, 6, 7, 8, 9] (σ := Nat) (fun k env h' => env = [(0, true, VS 1 (encI .i64) l), (4, true, .ref b 0 1), (6, true, .int .i64 i), (7, true, .int .i64 ((ws.take k).filter (fun x => x == ws[i])).length),
            (8, true, .bool (!(ws.take (min k i)).contains ws[i])), (9, true, .int .i64 k)] ∧ h' = h ∧ k ≤ l.length) (fun k => l.length - k) 0 ?_ ?_
          · simp
          · rintro k env h' ⟨rfl, rfl, hk⟩
            refine TK.seq_k fun K3 hK3 => ?_
            refine TK.run (C := cx) fun K4 hK4 => ?_
            simp
            refine hK4 _ _ ?_
            clear hK4 K4
            refine TK.cond rfl (fun hb => TK.skip ?_) (fun hb => TK.exit ?_)
            · have hlk : k < l.length := by simpa using hb
              have hlkw : k < ws.length := by omega
              have hwk : ws[k] = and7 l[k] := by simp [← hws]
              have hsplit : ws.take (k + 1) = ws.take k ++ [ws[k]] := (List.take_append_getElem hlkw).symm
              refine hK3 _ _ ?_
              clear hK3 K3
              refine TK.seq_k fun K3 hK3 => TK.block ?_
              refine TK.rund (C := cx) mixed (by kernel_rfl) fun K4 hK4 => ?_
              simp [rowI, hlt, hlk, and7_def, ← hw, ← hwk]
              repeat (refine ⟨by omega, ?_⟩)
              refine hK4 _ _ ?_
              clear hK4 K4
              have hcnt : ((ws.take k).filter (fun x => x == ws[i])).length ≤ k := Nat.le_trans (List.length_filter_le _ _) (by simp; omega)
              have step : ∀ K' : Env → Hp → Prop, ∀ env', keepE [0, 4, 6, 7, 8, 9] env' = [(0, true, VS 1 (encI .i64) l), (4, true, .ref b 0 1), (6, true, .int .i64 i), (7, true, .int .i64 ((ws.take (k + 1)).filter (fun x => x == ws[i])).length),
                  (8, true, .bool (!(ws.take (min (k + 1) i)).contains ws[i])), (9, true, .int .i64 k)] → K3 env' h' := by
                intro K' env' henv
                refine hK3 _ _ ?_
                refine TK.keep [0, 4, 6, 7, 8, 9] ?_
                rw [henv]
                refine TK.run1 (C := cx) fun K4 hK4 => ?_
                simp
                rw [w64 (by omega) (by omega)]
                refine hK4 _ _ ?_
                refine ⟨k + 1, ⟨by simp, rfl, by omega⟩, by omega⟩
              refine TK.cond rfl (fun hc => ?_) (fun hc => TK.skip ?_)
              · have hc' : ws[k] = ws[i] := by simpa using hc
                refine TK.run (C := cx) fun K4 hK4 => ?_
                simp
                rw [w64 (by omega) (by omega)]
                refine hK4 _ _ ?_
                clear hK4 K4
                refine TK.run1 (C := cx) fun K4 hK4 => ?_
                simp
                refine hK4 _ _ ?_
                clear hK4 K4
                simp
                refine step K _ ?_
                simp only [hsplit, hc', List.filter_append]
                simp
                rcases Nat.lt_or_ge k i with hki | hki
                · have e1 : min (k + 1) i = k + 1 := by omega
                  have e3 : ¬ i ≤ k := by omega
                  rw [e1, hsplit, hc']
                  simp [e3]
                · have e1 : min (k + 1) i = i := by omega
                  have e2 : min k i = i := by omega
                  simp [e1, e2, hki]
              · have hc' : ¬ ws[k] = ws[i] := by simpa using hc
                simp
                refine step K _ ?_
                simp only [hsplit, List.filter_append]
                simp [hc']
                rcases Nat.lt_or_ge k i with hki | hki
                · have e1 : min (k + 1) i = k + 1 := by omega
                  have e2 : min k i = k := by omega
                  have hc2 : ¬ ws[i] = ws[k] := fun e => hc' e.symm
                  have e3 : ws[i] ∈ ws.take (k + 1) ↔ ws[i] ∈ ws.take k := by
                    rw [hsplit]
                    exact ⟨fun h => (List.mem_append.1 h).resolve_right (fun h => hc2 (List.mem_singleton.1 h)), fun h => List.mem_append.2 (.inl h)⟩
                  rw [e1, e2]
                  simp [e3]
                · have e1 : min (k + 1) i = i := by omega
                  have e2 : min k i = i := by omega
                  simp [e1, e2]
            · have hk' : k = l.length := by have : ¬ k < l.length := by simpa using hb
                                            omega
              subst hk'
              simp
              refine hK2 _ _ ?_
              clear hK3 K3 hK2 K2 hb
              have e1 : ws.take l.length = ws := List.take_of_length_le (by omega)
              have e2 : min l.length i = i := by omega
              rw [e1, e2]
              refine TK.seq_k fun K2 hK2 => ?_
              refine TK.run (C := cx) fun K3 hK3 => ?_
              simp
              refine hK3 _ _ ?_
              clear hK3 K3
              have again : ∀ env' h'' c2', keepE [0, 4, 6] env' = [(0, true, VS 1 (encI .i64) l), (4, true, .ref b 0 1), (6, true, .int .i64 i)] → LineAt h'' b c2' (left ws (i + 1)) → K1 env' h'' := by
                intro env' h'' c2' henv L'
                refine hK1 _ _ ?_
                refine TK.keep [0, 4, 6] ?_
                rw [henv]
                refine TK.run1 (C := cx) fun K4 hK4 => ?_
                simp
                rw [w64 (by omega) (by omega)]
                refine hK4 _ _ ?_
                refine ⟨(i + 1, c2'), ⟨by simp, L', by simp only; omega⟩, by simp only; omega⟩
              refine TK.cond rfl (fun hc => TK.exit ?_) (fun hc => TK.skip ?_)
              · have hin : ws[i] ∈ ws.take i := by simpa using hc
                simp
                exact again _ _ c2 (by simp) (by rw [left_same hltw hin]; exact L)
              · have hin : ws[i] ∉ ws.take i := by simpa using hc
                obtain ⟨r0, hr0⟩ := left_head hltw hin
                have hcount := left_count hltw hin
                have hnext := left_next hltw
                refine hK2 _ _ ?_
                clear hK2 K2
                have hll : (left ws i).length ≤ 100 := Nat.le_trans (List.length_filter_le _ _) (by omega)
                refine TK.run (C := cx) fun K2 hK2 => ?_
                simp
                refine TL.tc rfl rfl (by simp) rfl (by simp) (first_ok L) fun r h'' hr => RQ.ok (C := cx) _ _ ?_
                obtain ⟨rfl, hh⟩ := hr
                rw [hh]
                clear hh h''
                simp [hr0]
                refine hK2 _ _ ?_
                clear hK2 K2
                refine TK.run (C := cx) fun K2 hK2 => ?_
                simp [rowI, hlt, and7_def, ← hw]
                repeat (refine ⟨by omega, ?_⟩)
                refine TL.tc rfl rfl (by simp) rfl (by simp) (serve_ok L ws[i] (by omega)) fun r h'' hr => RQ.ok (C := cx) _ _ ?_
                obtain ⟨rfl, c2', L', _, _⟩ := hr
                rw [← hnext] at L'
                rw [← hnext]
                have hcI : ((left ws i).length : Int) - (left ws (i + 1)).length = (ws.filter fun x => x == ws[i]).length := by
                  have : (left ws (i + 1)).length ≤ (left ws i).length := by rw [hnext]; exact List.length_filter_le _ _
                  omega
                rw [hcI]
                simp
                have hwants := wants_ok L' ws[i] (by rw [hnext]; exact Nat.le_trans (List.length_filter_le _ _) (by omega))
                rw [hnext, idxF_gone] at hwants
                refine TL.tc rfl rfl (by simp) rfl (by simp) hwants fun r h3 hr => RQ.ok (C := cx) _ _ ?_
                obtain ⟨rfl, hh⟩ := hr
                rw [hh]
                clear hh h3
                simp
                refine hK2 _ _ ?_
                clear hK2 K2
                refine TK.cond rfl (fun hd => by simp at hd) (fun hd => TK.skip ?_)
                simp
                exact again _ _ c2' (by simp) L'
        · have hi' : i = l.length := by have : ¬ i < l.length := by simpa using hb
                                        omega
          subst hi'
          rw [← hwl, left_all] at L
          simp
          refine hK _ _ ?_
          clear hK1 K1 hK K
          refine TK.run (C := cx) fun K hK => ?_
          simp
          refine TL.tc rfl rfl (by simp) rfl (by simp) (len_ok L) fun r h'' hr => RQ.ok (C := cx) _ _ ?_
          obtain ⟨rfl, hh⟩ := hr
          rw [hh]
          clear hh h''
          simp
          refine hK _ _ ?_
          clear hK K
          refine TK.ret ?_
          simp
end Go.Proofs.Ytjkjoihlpnahdaa
