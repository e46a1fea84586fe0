import Derived.Test.YtjkjoihlpnahdaaM2
/- The example that the laws of mount begin with. -/
namespace Go.Proofs.Ytjkjoihlpnahdaa
open Go.AM

theorem aliveM_ok : Fun Try.prog 15 [] (· = .bool true) := by
  refine Fun.of b15 (by simp) (by simp) ?_
  unfold k15
  refine TK.run (C := cx) fun K hK => ?_
  simp
  refine hK _ _ ?_
  clear hK K
  refine TK.run (C := cx) fun K hK => ?_
  simp
  refine TL.box rfl rfl (by simp) rfl rfl trivial fun b _ => RQ.ok (C := cx) _ _ ?_
  simp
  refine hK _ _ ?_
  clear hK K
  refine TK.ownH b 0 3 1 (rowL 1 (encI .i64) []) (r := ⟨37, 1, ofL [.nils]⟩) (by simp) (.inl rfl) (fun b' => ofL [.rs b' 0 0 0 1]) (fun b' => ⟨rfl, fun i hi hi2 => by simp at hi2; omega⟩) fun b2 hb2 => ?_
  have hne : ¬ b = b2 := by rintro rfl; simp at hb2
  have hne' : ¬ b2 = b := fun e => hne e.symm
  have L0 : LineAt [(b2, ⟨3, 0, rowL 1 (encI .i64) []⟩), (b, ⟨37, 1, ofL [.rs b2 0 0 0 1]⟩)] b b2 [] := ⟨hne', by simp [hne'], by simp⟩
  simp
  generalize [(b2, (⟨3, 0, rowL 1 (encI .i64) []⟩ : Row)), (b, ⟨37, 1, ofL [.rs b2 0 0 0 1]⟩)] = h at L0
  refine TK.run (C := cx) fun K hK => ?_
  simp
  refine TL.tc rfl rfl (by simp) rfl (by simp) (len_ok L0) fun r h' hr => RQ.ok (C := cx) _ _ ?_
  obtain ⟨rfl, rfl⟩ := hr
  simp
  refine hK _ _ ?_
  clear hK K
  refine TK.run (C := cx) fun K hK => ?_
  simp
  refine TL.tc rfl rfl (by simp) rfl (by simp) (add_ok L0 4 (by simp)) fun r h' hr => RQ.ok (C := cx) _ _ ?_
  have L1 := hr.1
  clear hr
  simp at L1
  simp
  refine hK _ _ ?_
  clear hK K
  refine TK.run (C := cx) fun K hK => ?_
  simp
  refine TL.tc rfl rfl (by simp) rfl (by simp) (first_ok L1) fun r h' hr => RQ.ok (C := cx) _ _ ?_
  obtain ⟨rfl, rfl⟩ := hr
  simp
  refine hK _ _ ?_
  clear hK K
  refine TK.run (C := cx) fun K hK => ?_
  simp
  refine TL.tc rfl rfl (by simp) rfl (by simp) (wants_ok L1 4 (by simp)) fun r h' hr => RQ.ok (C := cx) _ _ ?_
  obtain ⟨rfl, rfl⟩ := hr
  simp [idxF]
  refine TL.tc rfl rfl (by simp) rfl (by simp) (serve_ok L1 4 (by simp)) fun r h' hr => RQ.ok (C := cx) _ _ ?_
  obtain ⟨rfl, -⟩ := hr
  simp
  refine hK _ _ ?_
  clear hK K
  refine TK.ret ?_
  simp
end Go.Proofs.Ytjkjoihlpnahdaa
